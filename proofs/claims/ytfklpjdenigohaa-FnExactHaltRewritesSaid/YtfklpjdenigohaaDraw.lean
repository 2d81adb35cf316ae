/-
  The calculus, further: regions that draw the order of their operations. No condition.
-/
import Derived.Test.YtfklpjdenigohaaGen
import Derived.OrdersHeld
namespace Go.Tc
open Go Go.RowKit

def noP (Q : Exit → Act → World → Prop) : Exit → Act → World → Prop
  | .panic _, _, _ => False
  | e, a, w => Q e a w
theorem noP_mono {P : Program} {c : Code} {Q : Exit → Act → World → Prop} {a : Act} {w : World} (h : c.wp P (noP Q) a w) : c.wp P Q a w :=
  Code.wp_mono (fun e _ _ hq => by cases e <;> first | exact hq | exact hq.elim) h

section
variable {A : Nat → Prop} {w0 w w' : World} {Γ Γ' Δ : Ctx}
theorem sel_owns_idx : ∀ (is : List Nat) (Γ : Ctx) (b : Nat), b ∈ (sel is Γ).owns → ∃ i ∈ is, ∃ f, Γ[i]? = some f ∧ b ∈ f.owns := sel_owns
theorem ndup_append : ∀ (is js : List Nat), ndup (is ++ js) = true → ndup is = true ∧ ∀ i ∈ is, ∀ j ∈ js, i ≠ j
  | [], _, _ => ⟨rfl, by simp⟩
  | i :: is, js, h => by
    simp only [List.cons_append, ndup, Bool.and_eq_true, Bool.not_eq_true', List.any_append, Bool.or_eq_false_iff] at h
    obtain ⟨⟨h1, h2⟩, h3⟩ := h
    obtain ⟨h4, h5⟩ := ndup_append is js h3
    refine ⟨by simp [ndup, h1, h4], fun k hk j hj => ?_⟩
    rcases List.mem_cons.1 hk with rfl | hk
    · rintro rfl
      rw [List.any_eq_false] at h2
      exact h2 k hj (Nat.beq_refl k)
    · exact h5 k hk j hj
/-- What a region does not change is known in every world that comes up in it. -/
theorem SH.persist {O : List Nat} (h : SH A w0 w Γ) (is js : List Nat) (hn : ndup (is ++ js) = true) (hO : (Tc.sel js Γ).owns = O) (hg : Grow w w' O) : SH A w0 w' (Tc.sel is Γ) := by
  obtain ⟨hn1, hn2⟩ := ndup_append is js hn
  have hsubO : ∀ b ∈ O, b ∈ Γ.owns := fun b hb => by
    rw [← hO] at hb
    obtain ⟨i, _, f, hf, hbf⟩ := sel_owns js Γ b hb
    exact List.mem_flatMap.2 ⟨f, List.mem_of_getElem? hf, hbf⟩
  have hsub : ∀ b ∈ (Tc.sel is Γ).owns, b ∈ Γ.owns := fun b hb => by
    obtain ⟨i, _, f, hf, hbf⟩ := sel_owns is Γ b hb
    exact List.mem_flatMap.2 ⟨f, List.mem_of_getElem? hf, hbf⟩
  have hnO : ∀ b ∈ (Tc.sel is Γ).owns, b ∉ O := fun b hb hbO => by
    rw [← hO] at hbO
    obtain ⟨i, hi, f, hf, hbf⟩ := sel_owns is Γ b hb
    obtain ⟨j, hj, f', hf', hbf'⟩ := sel_owns js Γ b hbO
    exact nodup_two h.nd hf hf' (hn2 i hi j hj) hbf hbf'
  refine ⟨h.below' ⟨hg.os, hg.tape, hg.output, hg.size, fun k hk hs => hg.block k hk (fun hm => hs (hsubO k hm))⟩, h.av, sel_nodup is Γ hn1 h.nd, fun b hb => ⟨(h.ge b (hsub b hb)).1, Nat.lt_of_lt_of_le (h.ge b (hsub b hb)).2 hg.size⟩, sel_nodupG is Γ hn1 h.tnd, fun b hb => h.tge b (sel_toks is Γ b hb), fun f hf => ?_⟩
  obtain ⟨i, hi, hfi⟩ := sel_mem is Γ f hf
  refine Fact.frame (h.all f (List.mem_of_getElem? hfi)) (fun b hb => hg.block b (h.ge b (List.mem_flatMap.2 ⟨f, List.mem_of_getElem? hfi, hb⟩)).2 (hnO b (List.mem_flatMap.2 ⟨f, hf, hb⟩))) (fun k hk => hg.block k (Nat.lt_of_lt_of_le hk h.lt) (fun hm => absurd (h.ge k (hsubO k hm)).1 (by omega))) (fun k hk ha => ⟨hg.block k hk (fun hm => ha (.inr (hsubO k hm))), ?_⟩)
  rintro (hk' | hk')
  · exact ha (.inl hk')
  · exact ha (.inr (hsub k hk'))
theorem owns_sub {js : List Nat} {f : Fact} (m : Nat) (hm : (sel js Γ)[m]? = some f) : ∀ k ∈ f.owns, k ∈ (sel js Γ).owns := fun _ hk => List.mem_flatMap.2 ⟨f, List.mem_of_getElem? hm, hk⟩
theorem sub_ow {α : Type} [Rep α] {js : List Nat} {e : TypeId} {v : Value} {xs : List α} (m : Nat) (hm : (sel js Γ)[m]? = some (.ow e v xs)) : ∀ k ∈ v.ownBlock.toList, k ∈ (sel js Γ).owns := owns_sub m hm
theorem sub_bx {js : List Nat} {b : Nat} {t : TypeId} {cs : List Value} (m : Nat) (hm : (sel js Γ)[m]? = some (.bx b t cs)) : ∀ k ∈ [b], k ∈ (sel js Γ).owns := owns_sub m hm
end

section
variable {R : Type} {P : Program} {n : Nat} {A : Nat → Prop} {w0 w1 : World} {Q : R → Exit → Act → World → Prop} {ρ ρ' : Env} {Γ Γ' Γp Γ1 : Ctx} {E : Option R} {O : List Nat} {ops : Array Oper} {fuel : Nat} {listed : Array Bool}
variable {ty : TypeId} {pos : String} {after : Array Edge} {g : Option (Nat × Bool)}

/-- The region's begin: nothing but reading has been done. -/
def JP (P : Program) (n : Nat) (A : Nat → Prop) (w0 : World) (ops : Array Oper) (O : List Nat) (fuel : Nat) (listed : Array Bool) (Q : R → Exit → Act → World → Prop) (ρ : Env) (Γ : Ctx) (E : Option R) : Prop :=
  ∀ r, E = some r → ∀ a w, Sat n ρ a → SH A w0 w Γ → wpAnyH P .any ops (noP (Q r)) (fun w' => Grow w w' O) fuel listed a w
/-- Later. -/
def JD (P : Program) (n : Nat) (A : Nat → Prop) (w0 w1 : World) (Γ1 : Ctx) (ops : Array Oper) (O : List Nat) (fuel : Nat) (listed : Array Bool) (Q : R → Exit → Act → World → Prop) (ρ : Env) (Γ : Ctx) (E : Option R) : Prop :=
  ∀ r, E = some r → ∀ a w, Sat n ρ a → SH A w0 w Γ → Grow w1 w O → OwnNew Γ1 Γ w1 → wpAnyH P .any ops (noP (Q r)) (fun w' => Grow w1 w' O) fuel listed a w
def JO (P : Program) (n : Nat) (A : Nat → Prop) (w0 w1 : World) (Γ1 : Ctx) (ops : Array Oper) (O : List Nat) (fuel : Nat) (listed : Array Bool) (Q : R → Exit → Act → World → Prop) (i : Nat) (ρ : Env) (Γ : Ctx) (E : Option R) : Prop :=
  ∀ r, E = some r → ∀ a w, Sat n ρ a → SH A w0 w Γ → Grow w1 w O → OwnNew Γ1 Γ w1 → wpOp P ops (noP (Q r)) i (fun a' w' => Grow w1 w' O ∧ wpAnyH P .any ops (noP (Q r)) (fun w' => Grow w1 w' O) fuel (listed.setIfInBounds i true) a' w') a w

theorem J_draw {id : Nat} {l : List Oper} (js : List Nat) (hm : P.follows .mixedOrders = true) (h : JP P n A w0 l.toArray (sel js Γ).owns l.length (Array.replicate l.length false) Q ρ Γ E) : J P n A w0 (.region id l.toArray true) Q ρ Γ E := by
  intro r hr a w hs hh
  refine noP_mono (wp_region_held (S := fun w' => Grow w.drew w' (sel js Γ).owns) hm ?_)
  have := h r hr a w.drew hs hh.drew
  simpa using this
theorem JP_bnd {α : Type} {m : Option α} {f : α → Option R} (h : ∀ x, m = some x → JP P n A w0 ops O fuel listed Q ρ Γ (f x)) : JP P n A w0 ops O fuel listed Q ρ Γ (bnd m f) := by
  intro r hr
  obtain ⟨x, hx, hf⟩ := bnd_some hr
  exact h x hx r hf
theorem JD_bnd {α : Type} {m : Option α} {f : α → Option R} (h : ∀ x, m = some x → JD P n A w0 w1 Γ1 ops O fuel listed Q ρ Γ (f x)) : JD P n A w0 w1 Γ1 ops O fuel listed Q ρ Γ (bnd m f) := by
  intro r hr
  obtain ⟨x, hx, hf⟩ := bnd_some hr
  exact h x hx r hf
theorem JP_cond {b : Bool} {E1 E2 : Option R} (h1 : b = true → JP P n A w0 ops O fuel listed Q ρ Γ E1) (h2 : b = false → JP P n A w0 ops O fuel listed Q ρ Γ E2) : JP P n A w0 ops O fuel listed Q ρ Γ (cond b E1 E2) := by
  cases b with
  | true => exact h1 rfl
  | false => exact h2 rfl
theorem JD_cond {b : Bool} {E1 E2 : Option R} (h1 : b = true → JD P n A w0 w1 Γ1 ops O fuel listed Q ρ Γ E1) (h2 : b = false → JD P n A w0 w1 Γ1 ops O fuel listed Q ρ Γ E2) : JD P n A w0 w1 Γ1 ops O fuel listed Q ρ Γ (cond b E1 E2) := by
  cases b with
  | true => exact h1 rfl
  | false => exact h2 rfl
theorem JP_ctx (hΓ : ∀ w, SH A w0 w Γ → SH A w0 w Γ') (h : JP P n A w0 ops O fuel listed Q ρ Γ' E) : JP P n A w0 ops O fuel listed Q ρ Γ E := fun r hr a w hs hh => h r hr a w hs (hΓ w hh)
theorem JD_ctx (hΓ : ∀ w, SH A w0 w Γ → SH A w0 w Γ') (ho : ∀ b ∈ Γ'.owns, b ∈ Γ.owns) (h : JD P n A w0 w1 Γ1 ops O fuel listed Q ρ Γ' E) : JD P n A w0 w1 Γ1 ops O fuel listed Q ρ Γ E := fun r hr a w hs hh hg hn => h r hr a w hs (hΓ w hh) hg (fun b hb => hn b (ho b hb))

/-- A quiet operation may be taken first. is: the facts that stay; js: those that the region changes. -/
theorem JP_take {i d : Nat} {op : Op} {v : Value} (is js : List Nat) (hi : ops[i]? = some ⟨some d, op, ty, pos, after, g⟩) (hs : Region.noSelect ops = true) (hf : Region.free .any ops listed i = true) (hr : (Region.ready .any ops listed).contains i = true)
    (hn : ndup (is ++ js) = true) (hO : (sel js Γ).owns = O) (hw : Wants n ρ ops ⟨some d, op, ty, pos, after, g⟩) (hd : Nat.blt d n = true) (hx : Ex P n A w0 ρ (sel is Γ) ⟨some d, op, ty, pos, after, g⟩ v)
    (h : JP P n A w0 ops O fuel (listed.setIfInBounds i true) Q ((d, v) :: ρ) Γ E) : JP P n A w0 ops O (fuel + 1) listed Q ρ Γ E := by
  intro r hr' a w hsa hh
  refine wpAnyH_take hi hs hf hr (fun _ _ _ hq => hq) (.inl ⟨hw a hsa, fun w' hg => hx a w' hsa (hh.persist is js hn hO hg)⟩) (Grow.refl w O) ?_
  exact h r hr' _ w (hsa.put (by simpa [Nat.blt_eq] using hd)) hh
theorem JP_pass {i d : Nat} {op : Op} {j dj : Nat} {want b : Bool} (hi : ops[i]? = some ⟨some d, op, ty, pos, after, some (j, want)⟩) (hs : Region.noSelect ops = true) (hf : Region.free .any ops listed i = true) (hr : (Region.ready .any ops listed).contains i = true)
    (hj : (ops[j]?).bind (·.dst) = some dj) (hb : ρ.get dj = some (.bool b)) (hbw : b = !want) (hd : Nat.blt d n = true)
    (h : JP P n A w0 ops O fuel (listed.setIfInBounds i true) Q ((d, undef) :: ρ) Γ E) : JP P n A w0 ops O (fuel + 1) listed Q ρ Γ E := by
  intro r hr' a w hsa hh
  refine wpAnyH_take hi hs hf hr (fun _ _ _ hq => hq) (.inr ⟨?_, rfl⟩) (Grow.refl w O) ?_
  · rw [wanted_of hsa rfl hj hb, hbw]; cases want <;> rfl
  · exact h r hr' _ w (hsa.put (by simpa [Nat.blt_eq] using hd)) hh
theorem wanted_undef {n : Nat} {ρ : Env} {a : Act} {o : Oper} {ops : Array Oper} {j dj : Nat} {want : Bool} (hs : Sat n ρ a) (hgd : o.guard = some (j, want)) (hj : (ops[j]?).bind (·.dst) = some dj) (hb : ρ.get dj = some undef) :
    Region.wanted o (yielded ops a.tmps) = false := by
  obtain ⟨h1, h2⟩ := hs.get dj _ hb
  have h3 : a.tmps[dj]? = some undef := by
    have hlt : dj < a.tmps.size := by rw [hs.size]; exact h2
    rw [Array.getElem?_eq_getElem hlt]
    simpa [Array.getD_eq_getD_getElem?, Array.getElem?_eq_getElem hlt] using h1
  simp only [Region.wanted, hgd, yielded, hj, Option.bind_some, h3, undef]
  cases want <;> rfl
theorem JP_pass_undef {i d : Nat} {op : Op} {j dj : Nat} {want : Bool} (hi : ops[i]? = some ⟨some d, op, ty, pos, after, some (j, want)⟩) (hs : Region.noSelect ops = true) (hf : Region.free .any ops listed i = true) (hr : (Region.ready .any ops listed).contains i = true)
    (hj : (ops[j]?).bind (·.dst) = some dj) (hb : ρ.get dj = some undef) (hd : Nat.blt d n = true)
    (h : JP P n A w0 ops O fuel (listed.setIfInBounds i true) Q ((d, undef) :: ρ) Γ E) : JP P n A w0 ops O (fuel + 1) listed Q ρ Γ E := by
  intro r hr' a w hsa hh
  refine wpAnyH_take hi hs hf hr (fun _ _ _ hq => hq) (.inr ⟨wanted_undef hsa rfl hj hb, rfl⟩) (Grow.refl w O) ?_
  exact h r hr' _ w (hsa.put (by simpa [Nat.blt_eq] using hd)) hh

/-- A quiet operation that makes a fact: what it gives is the same in every world in which the blocks that are not the call's own are as they were. -/
def Sq (P : Program) (n : Nat) (A : Nat → Prop) (w0 : World) (ρ : Env) (Γ : Ctx) (o : Oper) {G : Type} (v : G → Value) (Γ' : G → Ctx) : Prop :=
  ∀ a w, Sat n ρ a → SH A w0 w Γ → ∃ x, (∀ w', (∀ k, k < w.heap.size → k ∉ Γ.owns → w'.heap[k]? = w.heap[k]?) → (execOp a.eval o).run P w' = .ok (.value (v x)) w') ∧ SH A w0 w (Γ' x)
theorem JP_sq {i d : Nat} {op : Op} {G : Type} {v : G → Value} {Γ' : G → Ctx} (js : List Nat) (hi : ops[i]? = some ⟨some d, op, ty, pos, after, g⟩) (hs : Region.noSelect ops = true) (hf : Region.free .any ops listed i = true) (hr : (Region.ready .any ops listed).contains i = true)
    (hO : (sel js Γ).owns = O) (hw : Wants n ρ ops ⟨some d, op, ty, pos, after, g⟩) (hd : Nat.blt d n = true) (hx : Sq P n A w0 ρ Γ ⟨some d, op, ty, pos, after, g⟩ v Γ')
    (h : ∀ x, JP P n A w0 ops O fuel (listed.setIfInBounds i true) Q ((d, v x) :: ρ) (Γ' x) E) : JP P n A w0 ops O (fuel + 1) listed Q ρ Γ E := by
  intro r hr' a w hsa hh
  obtain ⟨x, hrun, hh'⟩ := hx a w hsa hh
  refine wpAnyH_take hi hs hf hr (fun _ _ _ hq => hq) (.inl ⟨hw a hsa, fun w' hg => hrun w' (fun k hk hk' => hg.block k hk (fun hm => hk' ?_))⟩) (Grow.refl w O) ?_
  · rw [← hO] at hm
    obtain ⟨i', _, f, hf', hbf⟩ := sel_owns js Γ k hm
    exact List.mem_flatMap.2 ⟨f, List.mem_of_getElem? hf', hbf⟩
  · exact h x r hr' _ w (hsa.put (by simpa [Nat.blt_eq] using hd)) hh'

theorem sq_index {d : Option Nat} {α : Type} [Rep α] {x ix : Operand} {t e : TypeId} {k : IntKind} {b : Bool} {v : Value} {xs : List α} {j : Int} {y : α} (i : Nat) (ht : P.underlying t = some (.slice e)) (he : tinf P e = some (Rep.sz α, b))
    (hx : ev ρ x = some v) (hix : ev ρ ix = some (.int k j)) (hi : Γ[i]? = some (.rd v xs)) (hy : idx xs j = some y) :
    Sq P n A w0 ρ Γ ⟨d, .indexAddr t x ix, ty, pos, after, g⟩ (fun p : Value => p) (fun p => .pt p y :: Γ) := by
  intro a w hs hh
  have hr := Rd.sl (hh.get i hi)
  obtain ⟨h0, hlt, hy'⟩ := idx_eq hy
  rcases hr with ⟨rfl, _⟩ | ⟨bb, off, cap, cells, rfl, h1, h2, h3, h4, h5, h6⟩
  · simp at hlt
  obtain ⟨c, hc1, hc2, hc3⟩ := RdL.get xs cells j.toNat y h6 hy'
  refine ⟨.pointer (some ⟨bb, off + j.toNat * Rep.sz α, none⟩), fun w' _ => ?_, ?_⟩
  · have hb : 0 ≤ j ∧ j < (xs.length : Int) := ⟨by omega, by omega⟩
    simp [execOp, hs.eval hx, hs.eval hix, Instr.indexAt, asIntOf, run_underlying ht, hb, tinf_size he, Addr.add_lit]
  · refine hh.cons (Grow.refl w []) (by simp [Fact.owns]) (by simp [Fact.owns]) ?_
    refine ⟨bb, _, c, rfl, by simpa [Ctx.owns, Fact.owns] using h1, h2, fun jj u hu => ?_, by simpa [Ctx.owns, Fact.owns] using hc2⟩
    rw [Nat.add_assoc]
    exact h5 _ _ (hc3 jj u hu)
theorem run_load_row {α : Type} [Rep α] {d : Option Nat} {x : Operand} {t : TypeId} {b off : Nat} {cs : List Value} {a : Act} {w' : World} (ht : tinf P t = some (Rep.sz α, Rep.agg α)) (he : a.eval x = .pointer (some ⟨b, off, none⟩)) (hl : cs.length = Rep.sz α) (hrow : RowAt w' b off cs) :
    (execOp a.eval ⟨d, .load t x, ty, pos, after, g⟩).run P w' = .ok (.value (Rep.val α cs)) w' := by
  cases ha : Rep.agg α with
  | true =>
    rw [ha] at ht
    have hc := run_loadCells_list (P := P) w' ⟨b, off, none⟩ cs (fun j v hj => by rw [Addr.add_lit]; exact hrow j v hj)
    rw [hl] at hc
    simp [execOp, he, Instr.loadAt, Instr.sureAddr, loadVar, tinf_agg ht, tinf_size ht, hc, Rep.val, ha]
  | false =>
    rw [ha, Rep.single ha] at ht
    rw [Rep.single ha] at hl
    match cs, hl with
    | [c], _ =>
      have hc := hrow 0 c rfl
      simp at hc
      simp [execOp, he, Instr.loadAt, Instr.sureAddr, loadVar, tinf_agg ht, run_load, hc, Rep.val, ha]
theorem sq_load_pt {d : Option Nat} {α : Type} [Rep α] {x : Operand} {t : TypeId} {p : Value} {y : α} (i : Nat) (ht : tinf P t = some (Rep.sz α, Rep.agg α)) (hx : ev ρ x = some p) (hi : Γ[i]? = some (.pt p y)) :
    Sq P n A w0 ρ Γ ⟨d, .load t x, ty, pos, after, g⟩ (fun v : Value => v) (fun v => .rd v y :: Γ) := by
  intro a w hs hh
  obtain ⟨b, off, cs, rfl, h1, h2, h3, h4⟩ := hh.get i hi
  exact ⟨Rep.val α cs, fun w' hw' => run_load_row ht (hs.eval hx) (Rep.len h4) (h3.frame (hw' b h2 (fun hm => h1 (.inr hm)))), hh.cons_rd ⟨cs, rfl, h4⟩⟩
theorem sq_load_pa {d : Option Nat} {α : Type} [Rep α] {x : Operand} {t : TypeId} {p : Value} {y : α} (i : Nat) (ht : tinf P t = some (Rep.sz α, Rep.agg α)) (hx : ev ρ x = some p) (hi : Γ[i]? = some (.pa p y)) :
    Sq P n A w0 ρ Γ ⟨d, .load t x, ty, pos, after, g⟩ (fun v : Value => v) (fun v => .rd v y :: Γ) := by
  intro a w hs hh
  obtain ⟨b, off, cs, rfl, h2, h3, h4⟩ := hh.get i hi
  exact ⟨Rep.val α cs, fun w' hw' => run_load_row ht (hs.eval hx) (Rep.len h4) (h3.frame (hw' b (Nat.lt_of_lt_of_le h2 hh.lt) (fun hm => absurd (hh.ge b hm).1 (by omega)))), hh.cons_rd ⟨cs, rfl, h4⟩⟩
theorem sq_opens {o : Oper} {α : Type} [Rep α] {y : α} {G : Type} {val : G → Value} {fs : G → Ctx} (hO : Opens y val fs) (h : Sq P n A w0 ρ Γ o (fun v : Value => v) (fun v => .rd v y :: Γ)) : Sq P n A w0 ρ Γ o val (fun x => fs x ++ Γ) := by
  intro a w hs hh
  obtain ⟨v, hrun, hh'⟩ := h a w hs hh
  obtain ⟨x, rfl, hx⟩ := hO _ w0.heap.size w v (hh'.get 0 rfl)
  refine ⟨x, hrun, ?_⟩
  have h1 : SH A w0 w Γ := hh'.sublist (List.sublist_cons_self _ _)
  exact h1.adds fun f hf => by
    obtain ⟨e1, e2⟩ := hx f hf
    exact ⟨e1, by simpa [Ctx.owns, Fact.owns] using e2⟩
theorem sq_load_pt_o {d : Option Nat} {α : Type} [Rep α] {x : Operand} {t : TypeId} {p : Value} {y : α} {G : Type} {val : G → Value} {fs : G → Ctx} (i : Nat) (hO : Opens y val fs) (ht : tinf P t = some (Rep.sz α, Rep.agg α)) (hx : ev ρ x = some p) (hi : Γ[i]? = some (.pt p y)) :
    Sq P n A w0 ρ Γ ⟨d, .load t x, ty, pos, after, g⟩ val (fun x => fs x ++ Γ) := sq_opens hO (sq_load_pt i ht hx hi)
theorem sq_load_pa_o {d : Option Nat} {α : Type} [Rep α] {x : Operand} {t : TypeId} {p : Value} {y : α} {G : Type} {val : G → Value} {fs : G → Ctx} (i : Nat) (hO : Opens y val fs) (ht : tinf P t = some (Rep.sz α, Rep.agg α)) (hx : ev ρ x = some p) (hi : Γ[i]? = some (.pa p y)) :
    Sq P n A w0 ρ Γ ⟨d, .load t x, ty, pos, after, g⟩ val (fun x => fs x ++ Γ) := sq_opens hO (sq_load_pa i ht hx hi)
theorem sq_field_pt {d : Option Nat} {α β : Type} [Rep α] [Rep β] {x : Operand} {t : TypeId} {p : Value} {y : α} {z : β} {f o s : Nat} (i : Nat) (hP : Part o y z) (hf : finf P t f = some (o, s)) (hs' : Nat.blt 0 s = true) (hx : ev ρ x = some p) (hi : Γ[i]? = some (.pt p y)) :
    Sq P n A w0 ρ Γ ⟨d, .fieldAddr t x f, ty, pos, after, g⟩ (fun q : Value => q) (fun q => .pt q z :: Γ) := by
  intro a w hs hh
  obtain ⟨q, w', hrun, hh', _, _⟩ := st_field_pt (d := d) (ty := ty) (pos := pos) (after := after) (g := g) i hP hf hs' hx hi a w hs hh
  obtain ⟨b, off, cs, rfl, h1, h2, h3, h4⟩ := hh.get i hi
  have he : ∀ w', (execOp a.eval ⟨d, .fieldAddr t x f, ty, pos, after, g⟩).run P w' = .ok (.value (.pointer (some ⟨b, off + o, none⟩))) w' := fun w' => by simp [execOp, hs.eval hx, run_fieldAt hf hs']
  rw [he w] at hrun
  cases hrun
  exact ⟨_, fun w' _ => he w', hh'⟩
theorem sq_field_pa {d : Option Nat} {α β : Type} [Rep α] [Rep β] {x : Operand} {t : TypeId} {p : Value} {y : α} {z : β} {f o s : Nat} (i : Nat) (hP : Part o y z) (hf : finf P t f = some (o, s)) (hs' : Nat.blt 0 s = true) (hx : ev ρ x = some p) (hi : Γ[i]? = some (.pa p y)) :
    Sq P n A w0 ρ Γ ⟨d, .fieldAddr t x f, ty, pos, after, g⟩ (fun q : Value => q) (fun q => .pa q z :: Γ) := by
  intro a w hs hh
  obtain ⟨q, w', hrun, hh', _, _⟩ := st_field_pa (d := d) (ty := ty) (pos := pos) (after := after) (g := g) i hP hf hs' hx hi a w hs hh
  obtain ⟨b, off, cs, rfl, h2, h3, h4⟩ := hh.get i hi
  have he : ∀ w', (execOp a.eval ⟨d, .fieldAddr t x f, ty, pos, after, g⟩).run P w' = .ok (.value (.pointer (some ⟨b, off + o, none⟩))) w' := fun w' => by simp [execOp, hs.eval hx, run_fieldAt hf hs']
  rw [he w] at hrun
  cases hrun
  exact ⟨_, fun w' _ => he w', hh'⟩
theorem sq_slice {d : Option Nat} {α : Type} [Rep α] {x : Operand} {t e : TypeId} {ag : Bool} {v : Value} {xs ys : List α} {lo hi : Option Operand} {l h : Int} (i : Nat) (ht : P.underlying t = some (.slice e)) (he : tinf P e = some (Rep.sz α, ag)) (hx : ev ρ x = some v) (hlo : bound ρ lo 0 = some l) (hhi : bound ρ hi xs.length = some h)
    (hi' : Γ[i]? = some (.rd v xs)) (hy : slc xs l h = some ys) : Sq P n A w0 ρ Γ ⟨d, .slice t x lo hi none, ty, pos, after, g⟩ (fun v' : Value => v') (fun v' => .rd v' ys :: Γ) := by
  intro a w hs hh
  have hr := Rd.sl (hh.get i hi')
  obtain ⟨v', hrun, hr'⟩ := RdS.slice (P := P) ht he hr (bound_val hs hlo) (bound_val hs hhi) hy
  refine ⟨v', fun w' _ => ?_, hh.cons_rd (.mk_sl hr')⟩
  have hrd : RdS (fun k => A k ∨ k ∈ Γ.owns) w v xs := hr
  have key : (Instr.sliceAt t v (lo.map a.eval) (hi.map a.eval) none).run P w' = .ok v' w' := by
    obtain ⟨h0, h1, h2, _⟩ := slc_eq hy
    have hb2 : ∀ cap : Nat, xs.length ≤ cap → 0 ≤ h ∧ h ≤ (cap : Int) := fun cap hc => ⟨by omega, by omega⟩
    have hb3 : 0 ≤ l ∧ l ≤ (xs.length : Int) := ⟨h0, by omega⟩
    have hb4 : l ≤ max h 0 := by omega
    rcases hrd with ⟨rfl, ad, cap, rfl, hn, hcm⟩ | ⟨b, off, cap, cells, rfl, g1, g2, g3, g4, g5, g6⟩
    · simp at h2
      have hl : l = 0 := by omega
      have hh0 : h = 0 := by omega
      subst hl hh0
      rcases bound_val hs hlo with ⟨e1, _⟩ | e1 <;> rcases bound_val hs hhi with ⟨e2, _⟩ | e2 <;> rw [e1, e2] at hrun ⊢ <;>
        simp [Instr.sliceAt, Instr.slice, run_underlying ht, Instr.sliceBounds, Instr.sliceBound, asIntOf, tinf_size he] at hrun ⊢ <;> exact hrun
    · have hb2 := hb2 cap g3
      rcases bound_val hs hlo with ⟨e1, e1'⟩ | e1 <;> rcases bound_val hs hhi with ⟨e2, e2'⟩ | e2 <;> rw [e1, e2] at hrun ⊢ <;>
        simp [Instr.sliceAt, Instr.slice, run_underlying ht, Instr.sliceBounds, Instr.sliceBound, asIntOf, tinf_size he, Addr.add_lit, hb2, hb3, hb4] at hrun ⊢ <;> exact hrun
  simp only [execOp, hs.eval hx, Option.map_none]
  simp [key]

/-- From here on memory is made. is: what stays; js: what changes. -/
theorem JP_go (is js : List Nat) (hn : ndup (is ++ js) = true) (hO : (sel js Γ).owns = O) (hp : sel is Γ = Γp) (h : ∀ w1, SH A w0 w1 Γ → (∀ w', Grow w1 w' O → SH A w0 w' Γp) → JD P n A w0 w1 Γ ops O fuel listed Q ρ Γ E) : JP P n A w0 ops O fuel listed Q ρ Γ E := by
  intro r hr a w hs hh
  exact h w hh (fun w' hg => hp ▸ hh.persist is js hn hO hg) r hr a w hs hh (Grow.refl w O) (.refl _ _)
theorem JD_take {i d : Nat} {op : Op} {v : Value} (hp : ∀ w', Grow w1 w' O → SH A w0 w' Γp) (hi : ops[i]? = some ⟨some d, op, ty, pos, after, g⟩) (hs : Region.noSelect ops = true) (hf : Region.free .any ops listed i = true) (hr : (Region.ready .any ops listed).contains i = true)
    (hw : Wants n ρ ops ⟨some d, op, ty, pos, after, g⟩) (hd : Nat.blt d n = true) (hx : Ex P n A w0 ρ Γp ⟨some d, op, ty, pos, after, g⟩ v)
    (h : JD P n A w0 w1 Γ1 ops O fuel (listed.setIfInBounds i true) Q ((d, v) :: ρ) Γ E) : JD P n A w0 w1 Γ1 ops O (fuel + 1) listed Q ρ Γ E := by
  intro r hr' a w hsa hh hg hon
  refine wpAnyH_take hi hs hf hr (fun _ _ _ hq => hq) (.inl ⟨hw a hsa, fun w' hg' => hx a w' hsa (hp w' hg')⟩) hg ?_
  exact h r hr' _ w (hsa.put (by simpa [Nat.blt_eq] using hd)) hh hg hon
theorem JD_pass {i d : Nat} {op : Op} {j dj : Nat} {want b : Bool} (hi : ops[i]? = some ⟨some d, op, ty, pos, after, some (j, want)⟩) (hs : Region.noSelect ops = true) (hf : Region.free .any ops listed i = true) (hr : (Region.ready .any ops listed).contains i = true)
    (hj : (ops[j]?).bind (·.dst) = some dj) (hb : ρ.get dj = some (.bool b)) (hbw : b = !want) (hd : Nat.blt d n = true)
    (h : JD P n A w0 w1 Γ1 ops O fuel (listed.setIfInBounds i true) Q ((d, undef) :: ρ) Γ E) : JD P n A w0 w1 Γ1 ops O (fuel + 1) listed Q ρ Γ E := by
  intro r hr' a w hsa hh hg hon
  refine wpAnyH_take hi hs hf hr (fun _ _ _ hq => hq) (.inr ⟨?_, rfl⟩) hg ?_
  · rw [wanted_of hsa rfl hj hb, hbw]; cases want <;> rfl
  · exact h r hr' _ w (hsa.put (by simpa [Nat.blt_eq] using hd)) hh hg hon
theorem JD_pass_undef {i d : Nat} {op : Op} {j dj : Nat} {want : Bool} (hi : ops[i]? = some ⟨some d, op, ty, pos, after, some (j, want)⟩) (hs : Region.noSelect ops = true) (hf : Region.free .any ops listed i = true) (hr : (Region.ready .any ops listed).contains i = true)
    (hj : (ops[j]?).bind (·.dst) = some dj) (hb : ρ.get dj = some undef) (hd : Nat.blt d n = true)
    (h : JD P n A w0 w1 Γ1 ops O fuel (listed.setIfInBounds i true) Q ((d, undef) :: ρ) Γ E) : JD P n A w0 w1 Γ1 ops O (fuel + 1) listed Q ρ Γ E := by
  intro r hr' a w hsa hh hg hon
  refine wpAnyH_take hi hs hf hr (fun _ _ _ hq => hq) (.inr ⟨wanted_undef hsa rfl hj hb, rfl⟩) hg ?_
  exact h r hr' _ w (hsa.put (by simpa [Nat.blt_eq] using hd)) hh hg hon
theorem JO_ctx {i : Nat} (hΓ : ∀ w, SH A w0 w Γ → SH A w0 w Γ') (ho : ∀ b ∈ Γ'.owns, b ∈ Γ.owns) (h : JO P n A w0 w1 Γ1 ops O fuel listed Q i ρ Γ' E) : JO P n A w0 w1 Γ1 ops O fuel listed Q i ρ Γ E := fun r hr a w hs hh hg hn => h r hr a w hs (hΓ w hh) hg (fun b hb => hn b (ho b hb))
theorem freeze_owns {α : Type} [Rep α] {e : TypeId} {v : Value} {xs : List α} {i : Nat} (hi : Γ[i]? = some (.ow e v xs)) : ∀ b ∈ Ctx.owns (Γ.set i (.rd v xs)), b ∈ Γ.owns := fun b hb => by
  obtain ⟨l1, l2, e1, e2⟩ := owns_set (f' := .rd v xs) hi
  rw [e2] at hb
  rw [e1]
  simp only [Fact.owns, List.append_nil, List.mem_append] at hb ⊢
  rcases hb with hb | hb
  · exact .inl (.inl hb)
  · exact .inr hb
theorem JO_freeze {α : Type} [Rep α] {e : TypeId} {v : Value} {xs : List α} {k : Nat} (i : Nat) (hi : Γ[i]? = some (.ow e v xs)) (h : JO P n A w0 w1 Γ1 ops O fuel listed Q k ρ (Γ.set i (.rd v xs)) E) : JO P n A w0 w1 Γ1 ops O fuel listed Q k ρ Γ E :=
  JO_ctx (fun _ hh => hh.freeze i hi) (freeze_owns hi) h
theorem JD_freeze {α : Type} [Rep α] {e : TypeId} {v : Value} {xs : List α} (i : Nat) (hi : Γ[i]? = some (.ow e v xs)) (h : JD P n A w0 w1 Γ1 ops O fuel listed Q ρ (Γ.set i (.rd v xs)) E) : JD P n A w0 w1 Γ1 ops O fuel listed Q ρ Γ E :=
  JD_ctx (fun _ hh => hh.freeze i hi) (freeze_owns hi) h
theorem JD_one {i : Nat} (hr : Region.ready .any ops listed = [i]) (h : JO P n A w0 w1 Γ1 ops O fuel listed Q i ρ Γ E) : JD P n A w0 w1 Γ1 ops O (fuel + 1) listed Q ρ Γ E := by
  intro r hr' a w hsa hh hg hon
  refine wpAnyH_all hr (by simp) ?_
  intro j hj
  simp at hj
  subst hj
  exact h r hr' a w hsa hh hg hon
theorem JD_two {i j : Nat} (hr : Region.ready .any ops listed = [i, j]) (h1 : JO P n A w0 w1 Γ1 ops O fuel listed Q i ρ Γ E) (h2 : JO P n A w0 w1 Γ1 ops O fuel listed Q j ρ Γ E) : JD P n A w0 w1 Γ1 ops O (fuel + 1) listed Q ρ Γ E := by
  intro r hr' a w hsa hh hg hon
  refine wpAnyH_all hr (by simp) ?_
  intro k hk
  simp at hk
  rcases hk with rfl | rfl
  · exact h1 r hr' a w hsa hh hg hon
  · exact h2 r hr' a w hsa hh hg hon
theorem JD_three {i j k : Nat} (hr : Region.ready .any ops listed = [i, j, k]) (h1 : JO P n A w0 w1 Γ1 ops O fuel listed Q i ρ Γ E) (h2 : JO P n A w0 w1 Γ1 ops O fuel listed Q j ρ Γ E) (h3 : JO P n A w0 w1 Γ1 ops O fuel listed Q k ρ Γ E) : JD P n A w0 w1 Γ1 ops O (fuel + 1) listed Q ρ Γ E := by
  intro r hr' a w hsa hh hg hon
  refine wpAnyH_all hr (by simp) ?_
  intro m hm
  simp at hm
  rcases hm with rfl | rfl | rfl
  · exact h1 r hr' a w hsa hh hg hon
  · exact h2 r hr' a w hsa hh hg hon
  · exact h3 r hr' a w hsa hh hg hon
theorem JD_done (hr : Region.ready .any ops listed = []) (h : N n A w0 Q .normal ρ Γ E) : JD P n A w0 w1 Γ1 ops O fuel listed Q ρ Γ E := by
  intro r hr' a w hsa hh hg hon
  exact wpAnyH_done (Q := noP (Q r)) hr (h r hr' a w hsa hh) fuel
theorem OwnNew.trans {w : World} (h1 : OwnNew Γ1 Γ w1) (hg : Grow w1 w O) (h2 : OwnNew Γ Γ' w) : OwnNew Γ1 Γ' w1 := fun b hb => by
  rcases h2 b hb with h | h
  · exact h1 b h
  · exact .inr (Nat.le_trans hg.size h)
theorem Grow.more {w w' : World} {T : List Nat} (h1 : Grow w1 w O) (h2 : Grow w w' T) (hT : ∀ k ∈ T, k ∈ O) : Grow w1 w' O :=
  h1.trans ⟨h2.os, h2.tape, h2.output, h2.size, fun k hk hk' => h2.block k hk (fun hm => hk' (hT k hm))⟩
/-- A reading that hangs on what stood at the region's begin, taken first at any time. -/
theorem JD_sq {i d : Nat} {op : Op} {G : Type} {v : G → Value} {fs : G → Ctx} (js : List Nat) (h1 : SH A w0 w1 Γ1) (hO : (sel js Γ1).owns = O) (hi : ops[i]? = some ⟨some d, op, ty, pos, after, g⟩) (hs : Region.noSelect ops = true) (hf : Region.free .any ops listed i = true) (hr : (Region.ready .any ops listed).contains i = true)
    (hw : Wants n ρ ops ⟨some d, op, ty, pos, after, g⟩) (hd : Nat.blt d n = true) (hx : Sq P n A w0 ρ Γ1 ⟨some d, op, ty, pos, after, g⟩ v (fun x => fs x ++ Γ1)) (hfs : ∀ x, (fs x).all (fun f => f.owns.isEmpty && f.toks.isEmpty) = true)
    (h : ∀ x, SH A w0 w1 (fs x ++ Γ1) → JD P n A w0 w1 (fs x ++ Γ1) ops O fuel (listed.setIfInBounds i true) Q ((d, v x) :: ρ) (fs x ++ Γ) E) : JD P n A w0 w1 Γ1 ops O (fuel + 1) listed Q ρ Γ E := by
  intro r hr' a w hsa hh hg hon
  obtain ⟨x, hrun, hh'⟩ := hx a w1 hsa h1
  have hsubO : ∀ b ∈ O, b ∈ Γ1.owns := fun b hb => by
    rw [← hO] at hb
    obtain ⟨i', _, f, hf', hbf⟩ := sel_owns js Γ1 b hb
    exact List.mem_flatMap.2 ⟨f, List.mem_of_getElem? hf', hbf⟩
  have hem2 : ∀ f ∈ fs x, f.owns = [] ∧ f.toks = [] := fun f hf' => by
    have := List.all_eq_true.1 (hfs x) f hf'
    simpa using this
  have hem : ∀ f ∈ fs x, f.owns = [] := fun f hf' => (hem2 f hf').1
  have ho1 : Ctx.owns (fs x ++ Γ1) = Γ1.owns := by
    have : Ctx.owns (fs x) = [] := by
      simp only [Ctx.owns, List.flatMap_eq_nil_iff]
      exact hem
    simp only [Ctx.owns, List.flatMap_append] at this ⊢
    rw [this, List.nil_append]
  have ho2 : Ctx.owns (fs x ++ Γ) = Γ.owns := by
    have : Ctx.owns (fs x) = [] := by
      simp only [Ctx.owns, List.flatMap_eq_nil_iff]
      exact hem
    simp only [Ctx.owns, List.flatMap_append] at this ⊢
    rw [this, List.nil_append]
  refine wpAnyH_take hi hs hf hr (fun _ _ _ hq => hq) (.inl ⟨hw a hsa, fun w' hg' => hrun w' (fun k hk hk' => hg'.block k hk (fun hm => hk' (hsubO k hm)))⟩) hg ?_
  refine h x hh' r hr' _ w (hsa.put (by simpa [Nat.blt_eq] using hd)) ?_ hg (by unfold OwnNew; rw [ho1, ho2]; exact hon)
  refine hh.adds fun f hf' => ⟨hem2 f hf', ?_⟩
  have h2 := hh'.all f (List.mem_append_left _ hf')
  rw [ho1] at h2
  refine Fact.frame h2 (fun b hb => by rw [hem f hf'] at hb; simp at hb) (fun k hk => hg.block k (Nat.lt_of_lt_of_le hk h1.lt) (fun hm => absurd (h1.ge k (hsubO k hm)).1 (by omega))) (fun k hk ha => ⟨hg.block k hk (fun hm => ha (.inr (hsubO k hm))), ?_⟩)
  rintro (hk' | hk')
  · exact ha (.inl hk')
  · rcases hon k hk' with h' | h'
    · exact ha (.inr h')
    · omega
theorem JO_q {i d : Nat} {op : Op} {v : Value} (hi : ops[i]? = some ⟨some d, op, ty, pos, after, g⟩) (hw : Wants n ρ ops ⟨some d, op, ty, pos, after, g⟩) (hd : Nat.blt d n = true) (hx : Ex P n A w0 ρ Γ ⟨some d, op, ty, pos, after, g⟩ v)
    (h : JD P n A w0 w1 Γ1 ops O fuel (listed.setIfInBounds i true) Q ((d, v) :: ρ) Γ E) : JO P n A w0 w1 Γ1 ops O fuel listed Q i ρ Γ E := by
  intro r hr' a w hsa hh hg hon
  unfold wpOp
  simp only [hi, hw a hsa, if_true]
  refine .inl ?_
  unfold Oper.wp
  rw [hx a w hsa hh, Oper.upon_value]
  exact ⟨hg, h r hr' _ _ (hsa.put (by simpa [Nat.blt_eq] using hd)) hh hg hon⟩
theorem JO_st {i d : Nat} {op : Op} {G : Type} {v : G → Value} {Γ' : G → Ctx} {T : List Nat} (hi : ops[i]? = some ⟨some d, op, ty, pos, after, g⟩) (hw : Wants n ρ ops ⟨some d, op, ty, pos, after, g⟩) (hd : Nat.blt d n = true) (hx : St P n A w0 ρ Γ ⟨some d, op, ty, pos, after, g⟩ v Γ' T) (hT : ∀ k ∈ T, k ∈ O)
    (h : ∀ x, JD P n A w0 w1 Γ1 ops O fuel (listed.setIfInBounds i true) Q ((d, v x) :: ρ) (Γ' x) E) : JO P n A w0 w1 Γ1 ops O fuel listed Q i ρ Γ E := by
  intro r hr' a w hsa hh hg hon
  obtain ⟨x, w', hrun, hh', hgr, hno⟩ := hx a w hsa hh
  unfold wpOp
  simp only [hi, hw a hsa, if_true]
  refine .inl ?_
  unfold Oper.wp
  rw [hrun, Oper.upon_value]
  exact ⟨hg.more hgr hT, h x r hr' _ _ (hsa.put (by simpa [Nat.blt_eq] using hd)) hh' (hg.more hgr hT) (hon.trans hg hno)⟩
theorem JO_sk {i : Nat} {op : Op} {T : List Nat} (hi : ops[i]? = some ⟨none, op, ty, pos, after, g⟩) (hw : Wants n ρ ops ⟨none, op, ty, pos, after, g⟩) (hx : Sk P n A w0 ρ Γ ⟨none, op, ty, pos, after, g⟩ Γ' T) (hT : ∀ k ∈ T, k ∈ O)
    (h : JD P n A w0 w1 Γ1 ops O fuel (listed.setIfInBounds i true) Q ρ Γ' E) : JO P n A w0 w1 Γ1 ops O fuel listed Q i ρ Γ E := by
  intro r hr' a w hsa hh hg hon
  obtain ⟨w', hrun, hh', hgr, hno⟩ := hx a w hsa hh
  unfold wpOp
  simp only [hi, hw a hsa, if_true]
  refine .inl ?_
  unfold Oper.wp
  rw [hrun, Oper.upon_skip]
  exact ⟨hg.more hgr hT, h r hr' _ _ hsa hh' (hg.more hgr hT) (hon.trans hg hno)⟩
theorem JO_call {i d : Nat} {f : FuncId} {args : List Operand} {ats : Array TypeId} {vs : List Value} {G : Type} {v : G → Value} {Γ' : G → Ctx}
    (hi : ops[i]? = some ⟨some d, .call ⟨.value (.func f), args.toArray, ats⟩, ty, pos, after, g⟩) (hw : Wants n ρ ops ⟨some d, .call ⟨.value (.func f), args.toArray, ats⟩, ty, pos, after, g⟩) (hd : Nat.blt d n = true)
    (hf : ∀ args w, (callFunc f args).run P w = .ok (.enter f args) w) (hargs : evL ρ args = some vs) (hC : Ca P A w0 Γ f vs v Γ')
    (h : ∀ x, JD P n A w0 w1 Γ1 ops O fuel (listed.setIfInBounds i true) Q ((d, v x) :: ρ) (Γ' x) E) : JO P n A w0 w1 Γ1 ops O fuel listed Q i ρ Γ E := by
  intro r hr' a w hsa hh hg hon
  unfold wpOp
  simp only [hi, hw a hsa, if_true]
  refine .inl ?_
  have hrun : (execOp a.eval ⟨some d, .call ⟨.value (.func f), args.toArray, ats⟩, ty, pos, after, g⟩).run P w = .ok (.enter f vs.toArray) w := by
    simp [execOp, resolve, Act.eval, Deferred.ofValue, invoke, hsa.evalL hargs, hf]
  unfold Oper.wp
  rw [hrun, Oper.upon_enter]
  refine (hC w hh).mono ?_
  rintro e w' ⟨x, rfl, hh', hgr, hno⟩
  exact ⟨hg.more hgr (by simp), h x r hr' _ _ (hsa.put (by simpa [Nat.blt_eq] using hd)) hh' (hg.more hgr (by simp)) (hon.trans hg hno)⟩
end
end Go.Tc
