/-
  The calculus, further: the forms that the generated proofs use. No condition.
-/
import Derived.Test.YtfklpjdenigohaaLoop
namespace Go.Tc
open Go Go.RowKit

section
variable {A : Nat → Prop} {w0 w w' : World} {Γ Γ' Δ : Ctx}
/-- Facts are chosen, in any order. -/
def sel : List Nat → Ctx → Ctx
  | [], _ => []
  | i :: is, Γ => match Γ[i]? with
    | some f => f :: sel is Γ
    | none => sel is Γ
def ndup : List Nat → Bool
  | [] => true
  | i :: is => !(is.any (Nat.beq i)) && ndup is
theorem flatMap_sub {g : Fact → List Nat} {f : Fact} : ∀ {Γ : Ctx}, f ∈ Γ → (g f).Sublist (Γ.flatMap g)
  | x :: Γ, h => by
    rw [List.flatMap_cons]
    rcases List.mem_cons.1 h with rfl | h
    · exact List.sublist_append_left _ _
    · exact (flatMap_sub h).trans (List.sublist_append_right _ _)
theorem nodup_at {g : Fact → List Nat} {f : Fact} {Γ : Ctx} {i : Nat} (h : (Γ.flatMap g).Nodup) (hi : Γ[i]? = some f) : (g f).Nodup := by
  refine h.sublist ?_
  exact flatMap_sub (List.mem_of_getElem? hi)
theorem nodup_twoG {g : Fact → List Nat} {f f' : Fact} : ∀ {Γ : Ctx} {i j : Nat} {b : Nat}, (Γ.flatMap g).Nodup → Γ[i]? = some f → Γ[j]? = some f' → i ≠ j → b ∈ g f → b ∈ g f' → False
  | [], _, _, _, _, hi, _, _, _, _ => by simp at hi
  | x :: Γ, i, j, b, hn, hi, hj, hij, hbf, hbg => by
    simp only [List.flatMap_cons, List.nodup_append] at hn
    cases i with
    | zero =>
      cases j with
      | zero => exact hij rfl
      | succ j =>
        simp at hi hj
        subst hi
        exact hn.2.2 b hbf b (List.mem_flatMap.2 ⟨f', List.mem_of_getElem? hj, hbg⟩) rfl
    | succ i =>
      cases j with
      | zero =>
        simp at hi hj
        subst hj
        exact hn.2.2 b hbg b (List.mem_flatMap.2 ⟨f, List.mem_of_getElem? hi, hbf⟩) rfl
      | succ j => exact nodup_twoG (Γ := Γ) hn.2.1 (by simpa using hi) (by simpa using hj) (by omega) hbf hbg
theorem sel_mem : ∀ (is : List Nat) (Γ : Ctx) (f : Fact), f ∈ sel is Γ → ∃ i ∈ is, Γ[i]? = some f
  | [], _, _, h => by simp [sel] at h
  | i :: is, Γ, f, h => by
    simp only [sel] at h
    split at h
    · rename_i g hg
      rcases List.mem_cons.1 h with rfl | h
      · exact ⟨i, by simp, hg⟩
      · obtain ⟨j, hj, e⟩ := sel_mem is Γ f h
        exact ⟨j, by simp [hj], e⟩
    · obtain ⟨j, hj, e⟩ := sel_mem is Γ f h
      exact ⟨j, by simp [hj], e⟩
theorem sel_owns : ∀ (is : List Nat) (Γ : Ctx) (b : Nat), b ∈ (sel is Γ).owns → ∃ i ∈ is, ∃ f, Γ[i]? = some f ∧ b ∈ f.owns := by
  intro is Γ b hb
  obtain ⟨f, hf, hbf⟩ := List.mem_flatMap.1 hb
  obtain ⟨i, hi, e⟩ := sel_mem is Γ f hf
  exact ⟨i, hi, f, e, hbf⟩
theorem sel_nodupG {r : Fact → List Nat} : ∀ (is : List Nat) (Γ : Ctx), ndup is = true → (Γ.flatMap r).Nodup → ((sel is Γ).flatMap r).Nodup
  | [], _, _, _ => by simp [sel]
  | i :: is, Γ, hn, h => by
    simp only [ndup, Bool.and_eq_true, Bool.not_eq_true', List.any_eq_false] at hn
    simp only [sel]
    split
    · rename_i f hf
      simp only [List.flatMap_cons, List.nodup_append]
      refine ⟨nodup_at h hf, sel_nodupG is Γ hn.2 h, ?_⟩
      rintro a ha b hb rfl
      obtain ⟨f', hf', hbg⟩ := List.mem_flatMap.1 hb
      obtain ⟨j, hj, hg⟩ := sel_mem is Γ f' hf'
      refine nodup_twoG h hf hg ?_ ha hbg
      rintro rfl
      exact hn.1 i hj (Nat.beq_refl i)
    · exact sel_nodupG is Γ hn.2 h
theorem sel_nodup (is : List Nat) (Γ : Ctx) (hn : ndup is = true) (h : Γ.owns.Nodup) : (sel is Γ).owns.Nodup := sel_nodupG is Γ hn h
theorem sel_toks (is : List Nat) (Γ : Ctx) (b : Nat) (hb : b ∈ (sel is Γ).toks) : b ∈ Γ.toks := by
  obtain ⟨f, hf, hbf⟩ := List.mem_flatMap.1 hb
  obtain ⟨i, hi, e⟩ := sel_mem is Γ f hf
  exact List.mem_flatMap.2 ⟨f, List.mem_of_getElem? e, hbf⟩
theorem SH.sel (h : SH A w0 w Γ) (is : List Nat) (hn : ndup is = true) : SH A w0 w (sel is Γ) := by
  have hsub : ∀ b ∈ (Tc.sel is Γ).owns, b ∈ Γ.owns := fun b hb => by
    obtain ⟨i, _, f, hf, hbf⟩ := sel_owns is Γ b hb
    exact List.mem_flatMap.2 ⟨f, List.mem_of_getElem? hf, hbf⟩
  refine ⟨h.below, h.av, sel_nodup is Γ hn h.nd, fun b hb => h.ge b (hsub b hb), sel_nodupG is Γ hn h.tnd, fun b hb => h.tge b (sel_toks is Γ b hb), fun f hf => ?_⟩
  obtain ⟨i, _, hi⟩ := sel_mem is Γ f hf
  refine Fact.frame (h.all f (List.mem_of_getElem? hi)) (fun _ _ => rfl) (fun _ _ => rfl) (fun k _ ha => ⟨rfl, ?_⟩)
  rintro (hk | hk)
  · exact ha (.inl hk)
  · exact ha (.inr (hsub k hk))

/-- Facts that own nothing are added. -/
theorem SH.adds : ∀ {Δ : Ctx}, SH A w0 w Γ → (∀ f ∈ Δ, (f.owns = [] ∧ f.toks = []) ∧ f.holds (fun k => A k ∨ k ∈ Γ.owns) w0.heap.size w) → SH A w0 w (Δ ++ Γ)
  | [], h, _ => h
  | f :: Δ, h, hd => by
    have ih := SH.adds (Δ := Δ) h (fun g hg => hd g (by simp [hg]))
    have ho : Ctx.owns (Δ ++ Γ) = Γ.owns := by
      have : Ctx.owns Δ = [] := by
        simp only [Ctx.owns, List.flatMap_eq_nil_iff]
        exact fun g hg => (hd g (by simp [hg])).1.1
      simp [Ctx.owns] at this ⊢
      intro x hx
      exact this x hx
    obtain ⟨⟨h1, h3⟩, h2⟩ := hd f (by simp)
    refine ih.cons (Grow.refl w []) (by simp [h1]) (by simp [h1]) ?_ h3
    have e : Ctx.owns (f :: (Δ ++ Γ)) = Γ.owns := by
      simp only [Ctx.owns, List.flatMap_cons, h1, List.nil_append]
      exact ho
    rw [e]
    exact h2

theorem SH.pa {α : Type} [Rep α] {p : Value} {x : α} (h : SH A w0 w Γ) (i : Nat) (hi : Γ[i]? = some (.pa p x)) : RdA (fun k => A k ∨ k ∈ Γ.owns) w.heap.size w p x := by
  obtain ⟨b, off, cs, h1, h2, h3, h4⟩ := h.get i hi
  exact ⟨b, off, cs, h1, Nat.lt_of_lt_of_le h2 h.lt, h3, h4⟩
theorem RdA.weak {α : Type} [Rep α] {A A' : Nat → Prop} {B : Nat} {w : World} {p : Value} {x : α} (h : RdA A B w p x) (hA : ∀ k, A' k → A k) : RdA A' B w p x := by
  obtain ⟨b, off, cs, h1, h2, h3, h4⟩ := h
  exact ⟨b, off, cs, h1, h2, h3, Rep.frame h4 fun k _ ha => ⟨rfl, fun hk => ha (hA k hk)⟩⟩
theorem SH.pa0 {α : Type} [Rep α] {p : Value} {x : α} (h : SH A w0 w Γ) (i : Nat) (hi : Γ[i]? = some (.pa p x)) : RdA nowhere w.heap.size w p x := (h.pa i hi).weak fun _ hk => hk.elim
theorem SH.pt_pa {α : Type} [Rep α] {p : Value} {x : α} (h : SH A w0 w Γ) (i : Nat) (hi : Γ[i]? = some (.pt p x)) : RdA (fun k => A k ∨ k ∈ Γ.owns) w.heap.size w p x := by
  obtain ⟨b, off, cs, h1, _, h2, h3, h4⟩ := h.get i hi
  exact ⟨b, off, cs, h1, h2, h3, h4⟩
theorem SH.pt_pa0 {α : Type} [Rep α] {p : Value} {x : α} (h : SH A w0 w Γ) (i : Nat) (hi : Γ[i]? = some (.pt p x)) : RdA nowhere w.heap.size w p x := (h.pt_pa i hi).weak fun _ hk => hk.elim
theorem SH.start_rd {α : Type} [Rep α] {v : Value} {x : α} (h : SH A w w Γ) (hΓ : Γ.owns = []) (hx : Rd A w v x) : SH A w w (.rd v x :: Γ) := h.cons_rd (by rw [hΓ]; simpa using hx)
theorem SH.start_pa' {α : Type} [Rep α] {p : Value} {x : α} (h : SH A w w Γ) (hΓ : Γ.owns = []) (hx : RdA A w.heap.size w p x) : SH A w w (.pa p x :: Γ) := h.start_pa (by rw [hΓ]; simpa using hx)
def AllO : List Value → Prop
  | [] => True
  | v :: r => CV v [v] ∧ AllO r
theorem AllO.out : ∀ {l : List Value}, AllO l → ∀ u ∈ l, u.oneCell' = true
  | [], _, _, hu => by simp at hu
  | v :: r, ⟨h1, h2⟩, u, hu => by
    rcases List.mem_cons.1 hu with rfl | hu
    · exact h1.one
    · exact AllO.out h2 u hu
theorem cv_aggs {cs : List Value} (h : AllO cs) : CV (.agg cs.toArray) cs := cv_agg h.out
/-- A box as a pointer that is handed to a callee. -/
theorem SH.bx_pa {α : Type} [Rep α] {A' : Nat → Prop} {b : Nat} {t : TypeId} {cs : List Value} {x : α} (h : SH A w0 w Γ) (i : Nat) (hi : Γ[i]? = some (.bx b t cs)) (hx : Rd A' w (.agg cs.toArray) x) (ha : Rep.agg α = true) : RdA A' w.heap.size w (.pointer (some ⟨b, 0, none⟩)) x := by
  have hb : w.heap[b]? = some (.cells cs.toArray t (0, 0)) := h.get i hi
  obtain ⟨cs', e, hr⟩ := hx
  simp only [Rep.val, ha, if_true, Value.agg.injEq] at e
  have e2 := congrArg Array.toList e
  simp only at e2
  subst e2
  exact ⟨b, 0, cs, rfl, lt_of_some hb, fun j u hj => by simpa using cell_of_bx hb (by simpa using hj), hr⟩
end

theorem zero_int {A : Nat → Prop} {w : World} : ∃ zc : List Value, (Value.int .i64 0).cells = zc.toArray ∧ Rep.rdc A w zc (0 : Int) := ⟨_, rfl, rfl⟩
theorem zero_bool {A : Nat → Prop} {w : World} : ∃ zc : List Value, (Value.bool false).cells = zc.toArray ∧ Rep.rdc A w zc false := ⟨_, rfl, rfl⟩
theorem zero_str {A : Nat → Prop} {w : World} : ∃ zc : List Value, (Value.string ⟨#[]⟩).cells = zc.toArray ∧ Rep.rdc A w zc (⟨#[]⟩ : ByteArray) := ⟨_, rfl, rfl⟩
theorem zero_sl {α : Type} [Rep α] {A : Nat → Prop} {w : World} : ∃ zc : List Value, (Value.slice none 0 0).cells = zc.toArray ∧ Rep.rdc A w zc ([] : List α) := ⟨[_], rfl, _, rfl, RdS.nil⟩

def Out.elim {S R β : Type} (f : S → β) (g : R → β) : Out S R → β
  | .brk s => f s
  | .ret r => g r

section
variable {R R0 S S' G G' : Type} {P : Program} {n : Nat} {A : Nat → Prop} {w0 : World} {Q : R → Exit → Act → World → Prop} {ρ ρ' : Env} {Γ Γ' : Ctx} {E : Option R}
variable {d : Option Nat} {ty : TypeId} {pos : String} {after : Array Edge} {g : Option (Nat × Bool)}

theorem JL_q {ops : Array Oper} {rest : List Oper} {d : Nat} {op : Op} {v : Value} (hw : Wants n ρ ops ⟨some d, op, ty, pos, after, g⟩) (hd : Nat.blt d n = true)
    (hx : Ex P n A w0 ρ Γ ⟨some d, op, ty, pos, after, g⟩ v) (h : JL P n A w0 ops rest Q ((d, v) :: ρ) Γ E) : JL P n A w0 ops (⟨some d, op, ty, pos, after, g⟩ :: rest) Q ρ Γ E := by
  intro r hr a w hs hh
  refine wpList_step fun K hK => ?_
  rw [hw a hs]
  simp only [if_true]
  unfold Oper.wp
  rw [hx a w hs hh, Oper.upon_value]
  exact hK _ _ (h r hr _ _ (hs.put (by simpa [Nat.blt_eq] using hd)) hh)

theorem ex_conv_i64 {x : Operand} {s t : TypeId} {ds : TypeDesc} {k' : IntKind} {m : Int} (hs' : P.underlying s = some ds) (ht : P.underlying t = some (.int .i64)) (hx : ev ρ x = some (.int k' m)) : Ex P n A w0 ρ Γ ⟨d, .convert s t x, ty, pos, after, g⟩ (.int .i64 (w64 m)) := ex_conv_int hs' ht hx
theorem ex_nilCheck_pt {α : Type} [Rep α] {x : Operand} {p : Value} {y : α} (i : Nat) (hx : ev ρ x = some p) (hi : Γ[i]? = some (.pt p y)) : Ex P n A w0 ρ Γ ⟨d, .nilCheck x, ty, pos, after, g⟩ p := by
  intro a w hs hh
  obtain ⟨b, off, cs, rfl, _⟩ := hh.get i hi
  simp [execOp, hs.eval hx]
theorem ex_nilCheck_pa {α : Type} [Rep α] {x : Operand} {p : Value} {y : α} (i : Nat) (hx : ev ρ x = some p) (hi : Γ[i]? = some (.pa p y)) : Ex P n A w0 ρ Γ ⟨d, .nilCheck x, ty, pos, after, g⟩ p := by
  intro a w hs hh
  obtain ⟨b, off, cs, rfl, _⟩ := hh.get i hi
  simp [execOp, hs.eval hx]

/-! ### Opening what was read -/
/-- A datum's value, written out. -/
def Opens {α : Type} [Rep α] (y : α) {G : Type} (val : G → Value) (fs : G → Ctx) : Prop :=
  ∀ A B w v, Rd A w v y → ∃ x, v = val x ∧ ∀ f ∈ fs x, (f.owns = [] ∧ f.toks = []) ∧ f.holds A B w
theorem opens_int (y : Int) : Opens y (fun _ : Unit => .int .i64 y) (fun _ => []) := fun _ _ _ _ h => ⟨(), h.int, by simp⟩
theorem opens_bool (y : Bool) : Opens y (fun _ : Unit => .bool y) (fun _ => []) := fun _ _ _ _ h => ⟨(), h.bool, by simp⟩
theorem opens_str (y : ByteArray) : Opens y (fun _ : Unit => .string y) (fun _ => []) := fun _ _ _ _ h => ⟨(), h.str, by simp⟩
theorem opens_sl {α : Type} [Rep α] (y : List α) : Opens y (fun v : Value => v) (fun v => [.rd v y]) := fun _ _ _ v h => ⟨v, rfl, by simpa [Fact.owns, Fact.toks, Fact.holds] using h⟩

theorem st_opens {α : Type} [Rep α] {o : Oper} {y : α} {G : Type} {val : G → Value} {fs : G → Ctx} (hO : Opens y val fs) {T : List Nat} (h : St P n A w0 ρ Γ o (fun v : Value => v) (fun v => .rd v y :: Γ) T) : St P n A w0 ρ Γ o val (fun x => fs x ++ Γ) T := by
  intro a w hs hh
  obtain ⟨v, w', hrun, hh', hg', ho'⟩ := h a w hs hh
  obtain ⟨x, rfl, hx⟩ := hO _ w0.heap.size w' v (hh'.get 0 rfl)
  refine ⟨x, w', hrun, ?_, hg', fun b hb => ?_⟩
  case refine_2 =>
    have he : Ctx.owns (fs x ++ Γ) = Γ.owns := by
      have : Ctx.owns (fs x) = [] := by
        simp only [Ctx.owns, List.flatMap_eq_nil_iff]
        exact fun f hf => (hx f hf).1.1
      simp only [Ctx.owns, List.flatMap_append] at this ⊢
      rw [this, List.nil_append]
    rw [he] at hb
    exact .inl hb
  have h1 : SH A w0 w' Γ := hh'.sublist (List.sublist_cons_self _ _)
  exact h1.adds fun f hf => by
    obtain ⟨e1, e2⟩ := hx f hf
    exact ⟨e1, by simpa [Ctx.owns, Fact.owns] using e2⟩
theorem st_load_pt_o {α : Type} [Rep α] {x : Operand} {t : TypeId} {p : Value} {y : α} {G : Type} {val : G → Value} {fs : G → Ctx} (i : Nat) (hO : Opens y val fs) (ht : tinf P t = some (Rep.sz α, Rep.agg α)) (hx : ev ρ x = some p) (hi : Γ[i]? = some (.pt p y)) :
    St P n A w0 ρ Γ ⟨d, .load t x, ty, pos, after, g⟩ val (fun x => fs x ++ Γ) [] := st_opens hO (st_load_pt i ht hx hi)
theorem st_load_ow_o {α : Type} [Rep α] {x : Operand} {t e : TypeId} {b cap len : Nat} {xs : List α} {j : Int} {y : α} {G : Type} {val : G → Value} {fs : G → Ctx} (i : Nat) (hO : Opens y val fs) (ht : tinf P t = some (Rep.sz α, Rep.agg α)) (hx : ev ρ x = some (.pointer (some ⟨b, j.toNat * Rep.sz α, none⟩)))
    (hi : Γ[i]? = some (.ow e (.slice (some ⟨b, 0, none⟩) len cap) xs)) (hy : idx xs j = some y) :
    St P n A w0 ρ Γ ⟨d, .load t x, ty, pos, after, g⟩ val (fun x => fs x ++ Γ) [] := st_opens hO (st_load_ow i ht hx hi hy)
theorem st_load_pa {α : Type} [Rep α] {x : Operand} {t : TypeId} {p : Value} {y : α} (i : Nat) (ht : tinf P t = some (Rep.sz α, Rep.agg α)) (hx : ev ρ x = some p) (hi : Γ[i]? = some (.pa p y)) :
    St P n A w0 ρ Γ ⟨d, .load t x, ty, pos, after, g⟩ (fun v : Value => v) (fun v => .rd v y :: Γ) [] := by
  intro a w hs hh
  obtain ⟨b, off, cs, rfl, h2, h3, h4⟩ := hh.get i hi
  have hl := Rep.len h4
  refine ⟨Rep.val α cs, w, ?_, hh.cons_rd ⟨cs, rfl, h4⟩, Grow.refl w _, .plain rfl⟩
  cases ha : Rep.agg α with
  | true =>
    rw [ha] at ht
    have hc := run_loadCells_list (P := P) w ⟨b, off, none⟩ cs (fun j v hj => by rw [Addr.add_lit]; exact h3 j v hj)
    rw [hl] at hc
    simp [execOp, hs.eval hx, Instr.loadAt, Instr.sureAddr, loadVar, tinf_agg ht, tinf_size ht, hc, Rep.val, ha]
  | false =>
    rw [ha, Rep.single ha] at ht
    rw [Rep.single ha] at hl
    match cs, hl with
    | [c], _ =>
      have hc := h3 0 c rfl
      simp at hc
      simp [execOp, hs.eval hx, Instr.loadAt, Instr.sureAddr, loadVar, tinf_agg ht, run_load, hc, Rep.val, ha]
theorem st_load_pa_o {α : Type} [Rep α] {x : Operand} {t : TypeId} {p : Value} {y : α} {G : Type} {val : G → Value} {fs : G → Ctx} (i : Nat) (hO : Opens y val fs) (ht : tinf P t = some (Rep.sz α, Rep.agg α)) (hx : ev ρ x = some p) (hi : Γ[i]? = some (.pa p y)) :
    St P n A w0 ρ Γ ⟨d, .load t x, ty, pos, after, g⟩ val (fun x => fs x ++ Γ) [] := st_opens hO (st_load_pa i ht hx hi)

/-- y is the part of x that lies o cells behind its begin. -/
def Part {α β : Type} [Rep α] [Rep β] (o : Nat) (x : α) (y : β) : Prop :=
  ∀ A w cs, Rep.rdc A w cs x → ∃ c, (∀ j u, c[j]? = some u → cs[o + j]? = some u) ∧ Rep.rdc A w c y
theorem st_field_pt {α β : Type} [Rep α] [Rep β] {x : Operand} {t : TypeId} {p : Value} {y : α} {z : β} {f o s : Nat} (i : Nat) (hP : Part o y z) (hf : finf P t f = some (o, s)) (hs' : Nat.blt 0 s = true) (hx : ev ρ x = some p) (hi : Γ[i]? = some (.pt p y)) :
    St P n A w0 ρ Γ ⟨d, .fieldAddr t x f, ty, pos, after, g⟩ (fun q : Value => q) (fun q => .pt q z :: Γ) [] := by
  intro a w hs hh
  obtain ⟨b, off, cs, rfl, h1, h2, h3, h4⟩ := hh.get i hi
  obtain ⟨c, hc1, hc2⟩ := hP _ _ _ h4
  refine ⟨.pointer (some ⟨b, off + o, none⟩), w, by simp [execOp, hs.eval hx, run_fieldAt hf hs'], ?_, Grow.refl w _, .plain rfl⟩
  refine hh.cons (Grow.refl w []) (by simp [Fact.owns]) (by simp [Fact.owns]) ?_
  refine ⟨b, off + o, c, rfl, by simpa [Ctx.owns, Fact.owns] using h1, h2, fun j u hj => ?_, by simpa [Ctx.owns, Fact.owns] using hc2⟩
  rw [Nat.add_assoc]
  exact h3 _ _ (hc1 j u hj)
theorem st_field_pa {α β : Type} [Rep α] [Rep β] {x : Operand} {t : TypeId} {p : Value} {y : α} {z : β} {f o s : Nat} (i : Nat) (hP : Part o y z) (hf : finf P t f = some (o, s)) (hs' : Nat.blt 0 s = true) (hx : ev ρ x = some p) (hi : Γ[i]? = some (.pa p y)) :
    St P n A w0 ρ Γ ⟨d, .fieldAddr t x f, ty, pos, after, g⟩ (fun q : Value => q) (fun q => .pa q z :: Γ) [] := by
  intro a w hs hh
  obtain ⟨b, off, cs, rfl, h2, h3, h4⟩ := hh.get i hi
  obtain ⟨c, hc1, hc2⟩ := hP _ _ _ h4
  refine ⟨.pointer (some ⟨b, off + o, none⟩), w, by simp [execOp, hs.eval hx, run_fieldAt hf hs'], ?_, Grow.refl w _, .plain rfl⟩
  refine hh.cons (Grow.refl w []) (by simp [Fact.owns]) (by simp [Fact.owns]) ?_
  refine ⟨b, off + o, c, rfl, h2, fun j u hj => ?_, by simpa [Ctx.owns, Fact.owns] using hc2⟩
  rw [Nat.add_assoc]
  exact h3 _ _ (hc1 j u hj)

/-! ### Turning facts between operations -/
theorem JL_ctx {ops : Array Oper} {l : List Oper} (hΓ : ∀ w, SH A w0 w Γ → SH A w0 w Γ') (h : JL P n A w0 ops l Q ρ Γ' E) : JL P n A w0 ops l Q ρ Γ E := fun r hr a w hs hh => h r hr a w hs (hΓ w hh)
theorem J_ctx {c : Code} (hΓ : ∀ w, SH A w0 w Γ → SH A w0 w Γ') (h : J P n A w0 c Q ρ Γ' E) : J P n A w0 c Q ρ Γ E := fun r hr a w hs hh => h r hr a w hs (hΓ w hh)
theorem N_ctx {e : Exit} (hΓ : ∀ w, SH A w0 w Γ → SH A w0 w Γ') (h : N n A w0 Q e ρ Γ' E) : N n A w0 Q e ρ Γ E := fun r hr a w hs hh => h r hr a w hs (hΓ w hh)
theorem J_sel {c : Code} (ρ' : Env) (hρ : SubE ρ' ρ) (is : List Nat) (hn : ndup is = true) (hΓ : sel is Γ = Γ') (h : J P n A w0 c Q ρ' Γ' E) : J P n A w0 c Q ρ Γ E :=
  fun r hr a w hs hh => h r hr a w (hs.sub hρ) (hΓ ▸ hh.sel is hn)

/-- A loop, from whatever is known before it. -/
theorem J_loop' {c : Code} {id : Nat} (body : S → Option (S ⊕ Out S R0)) (ρs : S → G → Env) (Γs : S → G → Ctx) {fa : S → Option R} {fr : R0 → Option R} (s0 : S) (g0 : G) (hρ : SubE (ρs s0 g0) ρ) (is : List Nat) (hn : ndup is = true) (hΓ : sel is Γ = Γs s0 g0)
    (hround : ∀ s g, J P n A w0 c (QRound n A w0 id Q ρs Γs ρs Γs (Out.elim fa fr)) (ρs s g) (Γs s g) (body s))
    (hafter : ∀ s g, N n A w0 Q .normal (ρs s g) (Γs s g) (fa s)) :
    J P n A w0 (.block id (.loop c)) Q ρ Γ (bnd (run body s0) (Out.elim fa fr)) :=
  J_sel _ hρ is hn hΓ (J_loop body ρs Γs ρs Γs (Out.elim fa fr) s0 g0 hround hafter)
theorem N_next' {id : Nat} {ρs : S → G → Env} {Γs : S → G → Ctx} {ρe : S' → G' → Env} {Γe : S' → G' → Ctx} {K : Out S' R0 → Option R} {s : S} (g : G) (hρ : SubE (ρs s g) ρ) (is : List Nat) (hn : ndup is = true) (hΓ : sel is Γ = Γs s g) :
    N n A w0 (QRound n A w0 id Q ρs Γs ρe Γe K) .normal ρ Γ (some (.inl s)) := by
  intro x hx a w hs hh
  cases hx
  exact ⟨rfl, g, hs.sub hρ, hΓ ▸ hh.sel is hn⟩
theorem N_break' {id : Nat} {ρs : S → G → Env} {Γs : S → G → Ctx} {ρe : S' → G' → Env} {Γe : S' → G' → Ctx} {K : Out S' R0 → Option R} {s : S'} (g : G') (hρ : SubE (ρe s g) ρ) (is : List Nat) (hn : ndup is = true) (hΓ : sel is Γ = Γe s g) :
    N n A w0 (QRound n A w0 id Q ρs Γs ρe Γe K) (.exit id) ρ Γ (some (.inr (.brk s))) := by
  intro x hx a w hs hh
  cases hx
  exact ⟨rfl, g, hs.sub hρ, hΓ ▸ hh.sel is hn⟩
theorem J_cut' {c : Code} {Ex : Option (Out S' R0)} (ρe : S' → G' → Env) (Γe : S' → G' → Ctx) {fa : S' → Option R} {fr : R0 → Option R}
    (h : J P n A w0 c (QMid n A w0 Q ρe Γe (Out.elim fa fr)) ρ Γ Ex) (hafter : ∀ s g, N n A w0 Q .normal (ρe s g) (Γe s g) (fa s)) : J P n A w0 c Q ρ Γ (bnd Ex (Out.elim fa fr)) :=
  J_cut ρe Γe (Out.elim fa fr) h hafter
theorem N_meet' {ρe : S' → G' → Env} {Γe : S' → G' → Ctx} {K : Out S' R0 → Option R} {s : S'} (g : G') (hρ : SubE (ρe s g) ρ) (is : List Nat) (hn : ndup is = true) (hΓ : sel is Γ = Γe s g) :
    N n A w0 (QMid n A w0 Q ρe Γe K) .normal ρ Γ (some (.brk s)) := by
  intro x hx a w hs hh
  cases hx
  exact ⟨rfl, g, hs.sub hρ, hΓ ▸ hh.sel is hn⟩

def nz (b : Int) : Option Unit := if b = 0 then none else some ()
theorem nz_ne {b : Int} {u : Unit} (h : nz b = some u) : b ≠ 0 := by
  intro e
  simp [nz, e] at h
theorem rdNil {α : Type} [Rep α] {A : Nat → Prop} {w : World} : Rd A w (.slice none 0 0) ([] : List α) := .mk_sl RdS.nil
end
end Go.Tc
