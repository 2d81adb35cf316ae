/-
  The operations of the walk, one law each, in the calculus of XCalc. No condition.
-/
import Derived.Test.YtfklpjdenigohaaCalc
namespace Go.Tc
open Go Go.RowKit

def w64 (n : Int) : Int := IntKind.i64.wrap n
theorem w64_in {n : Int} (h1 : -9223372036854775808 ≤ n) (h2 : n ≤ 9223372036854775807) : w64 n = n := by
  exact IntWalk.i64_in n ⟨h1, h2⟩

section
variable {R : Type} {P : Program} {n : Nat} {A : Nat → Prop} {w0 : World} {Q : R → Exit → Act → World → Prop} {ρ ρ' : Env} {Γ Γ' : Ctx} {E : Option R}
variable {d : Option Nat} {ty : TypeId} {pos : String} {after : Array Edge} {g : Option (Nat × Bool)}

theorem ex_move {x : Operand} {v : Value} (hx : ev ρ x = some v) : Ex P n A w0 ρ Γ ⟨d, .move x, ty, pos, after, g⟩ v := by
  intro a w hs hh
  simp [execOp, hs.eval hx]
theorem ex_assign {x : Operand} {v : Value} (hx : ev ρ x = some v) : Ex P n A w0 ρ Γ ⟨d, .assign x, ty, pos, after, g⟩ v := by
  intro a w hs hh
  simp [execOp, hs.eval hx]
theorem ex_pick_true {c x y : Operand} {v : Value} {b : Bool} (hc : ev ρ c = some (.bool b)) (hb : b = true) (hx : ev ρ x = some v) : Ex P n A w0 ρ Γ ⟨d, .pick c x y, ty, pos, after, g⟩ v := by
  intro a w hs hh
  subst hb
  simp [execOp, hs.eval hc, hs.eval hx, asBool]
theorem ex_pick_false {c x y : Operand} {v : Value} {b : Bool} (hc : ev ρ c = some (.bool b)) (hb : b = false) (hy : ev ρ y = some v) : Ex P n A w0 ρ Γ ⟨d, .pick c x y, ty, pos, after, g⟩ v := by
  intro a w hs hh
  subst hb
  simp [execOp, hs.eval hc, hs.eval hy, asBool]
theorem ex_add {x y : Operand} {t u : TypeId} {m l : Int} (hx : ev ρ x = some (.int .i64 m)) (hy : ev ρ y = some (.int .i64 l)) : Ex P n A w0 ρ Γ ⟨d, .binOp .add t x y u, ty, pos, after, g⟩ (.int .i64 (w64 (m + l))) := by
  intro a w hs hh
  simp [execOp, hs.eval hx, hs.eval hy, eqGuard, binOp, Op.intArith, w64]
theorem ex_sub {x y : Operand} {t u : TypeId} {m l : Int} (hx : ev ρ x = some (.int .i64 m)) (hy : ev ρ y = some (.int .i64 l)) : Ex P n A w0 ρ Γ ⟨d, .binOp .sub t x y u, ty, pos, after, g⟩ (.int .i64 (w64 (m - l))) := by
  intro a w hs hh
  simp [execOp, hs.eval hx, hs.eval hy, eqGuard, binOp, Op.intArith, w64]
theorem ex_mul {x y : Operand} {t u : TypeId} {m l : Int} (hx : ev ρ x = some (.int .i64 m)) (hy : ev ρ y = some (.int .i64 l)) : Ex P n A w0 ρ Γ ⟨d, .binOp .mul t x y u, ty, pos, after, g⟩ (.int .i64 (w64 (m * l))) := by
  intro a w hs hh
  simp [execOp, hs.eval hx, hs.eval hy, eqGuard, binOp, Op.intArith, w64]
theorem ex_quo {x y : Operand} {t u : TypeId} {m l : Int} (hx : ev ρ x = some (.int .i64 m)) (hy : ev ρ y = some (.int .i64 l)) (hl : l ≠ 0) : Ex P n A w0 ρ Γ ⟨d, .binOp .quo t x y u, ty, pos, after, g⟩ (.int .i64 (w64 (m.tdiv l))) := by
  intro a w hs hh
  simp [execOp, hs.eval hx, hs.eval hy, eqGuard, binOp, Op.intDiv, w64, hl]
theorem ex_rem {x y : Operand} {t u : TypeId} {m l : Int} (hx : ev ρ x = some (.int .i64 m)) (hy : ev ρ y = some (.int .i64 l)) (hl : l ≠ 0) : Ex P n A w0 ρ Γ ⟨d, .binOp .rem t x y u, ty, pos, after, g⟩ (.int .i64 (m.tmod l)) := by
  intro a w hs hh
  simp [execOp, hs.eval hx, hs.eval hy, eqGuard, binOp, Op.intDiv, hl]
theorem ex_lss {k : IntKind} {x y : Operand} {t u : TypeId} {m l : Int} (hx : ev ρ x = some (.int k m)) (hy : ev ρ y = some (.int k l)) : Ex P n A w0 ρ Γ ⟨d, .binOp .lss t x y u, ty, pos, after, g⟩ (.bool (decide (m < l))) := by
  intro a w hs hh
  simp [execOp, hs.eval hx, hs.eval hy, eqGuard, binOp, Op.intCmp]
theorem ex_leq {k : IntKind} {x y : Operand} {t u : TypeId} {m l : Int} (hx : ev ρ x = some (.int k m)) (hy : ev ρ y = some (.int k l)) : Ex P n A w0 ρ Γ ⟨d, .binOp .leq t x y u, ty, pos, after, g⟩ (.bool (decide (m ≤ l))) := by
  intro a w hs hh
  simp [execOp, hs.eval hx, hs.eval hy, eqGuard, binOp, Op.intCmp]
theorem ex_gtr {k : IntKind} {x y : Operand} {t u : TypeId} {m l : Int} (hx : ev ρ x = some (.int k m)) (hy : ev ρ y = some (.int k l)) : Ex P n A w0 ρ Γ ⟨d, .binOp .gtr t x y u, ty, pos, after, g⟩ (.bool (decide (l < m))) := by
  intro a w hs hh
  simp [execOp, hs.eval hx, hs.eval hy, eqGuard, binOp, Op.intCmp]
theorem ex_geq {k : IntKind} {x y : Operand} {t u : TypeId} {m l : Int} (hx : ev ρ x = some (.int k m)) (hy : ev ρ y = some (.int k l)) : Ex P n A w0 ρ Γ ⟨d, .binOp .geq t x y u, ty, pos, after, g⟩ (.bool (decide (l ≤ m))) := by
  intro a w hs hh
  simp [execOp, hs.eval hx, hs.eval hy, eqGuard, binOp, Op.intCmp]
theorem ex_eql {k : IntKind} {x y : Operand} {t u : TypeId} {m l : Int} (hx : ev ρ x = some (.int k m)) (hy : ev ρ y = some (.int k l)) : Ex P n A w0 ρ Γ ⟨d, .binOp .eql t x y u, ty, pos, after, g⟩ (.bool (decide (m = l))) := by
  intro a w hs hh
  simp [execOp, hs.eval hx, hs.eval hy, eqGuard, binOp, Op.intCmp]
  by_cases e : m = l <;> simp [e]
theorem ex_neq {k : IntKind} {x y : Operand} {t u : TypeId} {m l : Int} (hx : ev ρ x = some (.int k m)) (hy : ev ρ y = some (.int k l)) : Ex P n A w0 ρ Γ ⟨d, .binOp .neq t x y u, ty, pos, after, g⟩ (.bool (decide (m ≠ l))) := by
  intro a w hs hh
  simp [execOp, hs.eval hx, hs.eval hy, eqGuard, binOp, Op.intCmp]
  by_cases e : m = l <;> simp [e]
theorem ex_eql_bool {x y : Operand} {t u : TypeId} {m l : Bool} (ht : P.underlying t = some .bool) (hx : ev ρ x = some (.bool m)) (hy : ev ρ y = some (.bool l)) : Ex P n A w0 ρ Γ ⟨d, .binOp .eql t x y u, ty, pos, after, g⟩ (.bool (m == l)) := by
  intro a w hs hh
  simp only [execOp, hs.eval hx, hs.eval hy, eqGuard, Sem.run_bind]
  simp [run_eql_bool w t m l ht]
theorem ex_neq_bool {x y : Operand} {t u : TypeId} {m l : Bool} (ht : P.underlying t = some .bool) (hx : ev ρ x = some (.bool m)) (hy : ev ρ y = some (.bool l)) : Ex P n A w0 ρ Γ ⟨d, .binOp .neq t x y u, ty, pos, after, g⟩ (.bool (m != l)) := by
  intro a w hs hh
  simp only [execOp, hs.eval hx, hs.eval hy, eqGuard, Sem.run_bind]
  simp [run_neq_bool w t m l ht]
  cases m <;> cases l <;> rfl
theorem ex_eql_str {x y : Operand} {t u : TypeId} {m l : ByteArray} (hx : ev ρ x = some (.string m)) (hy : ev ρ y = some (.string l)) : Ex P n A w0 ρ Γ ⟨d, .binOp .eql t x y u, ty, pos, after, g⟩ (.bool (m.toList == l.toList)) := by
  intro a w hs hh
  simp [execOp, hs.eval hx, hs.eval hy, eqGuard, binOp, Op.stringOp]
theorem ex_neq_str {x y : Operand} {t u : TypeId} {m l : ByteArray} (hx : ev ρ x = some (.string m)) (hy : ev ρ y = some (.string l)) : Ex P n A w0 ρ Γ ⟨d, .binOp .neq t x y u, ty, pos, after, g⟩ (.bool (!(m.toList == l.toList))) := by
  intro a w hs hh
  simp [execOp, hs.eval hx, hs.eval hy, eqGuard, binOp, Op.stringOp]
theorem ex_not {x : Operand} {t : TypeId} {b : Bool} (hx : ev ρ x = some (.bool b)) : Ex P n A w0 ρ Γ ⟨d, .unOp .not t x, ty, pos, after, g⟩ (.bool (!b)) := by
  intro a w hs hh
  simp [execOp, hs.eval hx, Op.unary]
theorem ex_neg {x : Operand} {t : TypeId} {m : Int} (hx : ev ρ x = some (.int .i64 m)) : Ex P n A w0 ρ Γ ⟨d, .unOp .neg t x, ty, pos, after, g⟩ (.int .i64 (w64 (0 - m))) := by
  intro a w hs hh
  simp [execOp, hs.eval hx, Op.unary, Op.intArith, w64]
theorem ex_conv_int {x : Operand} {s t : TypeId} {ds : TypeDesc} {k k' : IntKind} {m : Int} (hs' : P.underlying s = some ds) (ht : P.underlying t = some (.int k)) (hx : ev ρ x = some (.int k' m)) : Ex P n A w0 ρ Γ ⟨d, .convert s t x, ty, pos, after, g⟩ (.int k (k.wrap m)) := by
  intro a w hs hh
  simp [execOp, hs.eval hx, convert, run_underlying hs', run_underlying ht, Conv.intToInt]
theorem ex_extract {x : Operand} {i : Nat} {vs : Array Value} {v : Value} (hx : ev ρ x = some (.tuple vs)) (hv : vs[i]? = some v) : Ex P n A w0 ρ Γ ⟨d, .extract x i, ty, pos, after, g⟩ v := by
  intro a w hs hh
  simp [execOp, hs.eval hx, Instr.extract, hv]
theorem ex_nilCheck {x : Operand} {p : Addr} (hx : ev ρ x = some (.pointer (some p))) : Ex P n A w0 ρ Γ ⟨d, .nilCheck x, ty, pos, after, g⟩ (.pointer (some p)) := by
  intro a w hs hh
  simp [execOp, hs.eval hx]
theorem ex_len_str {x : Operand} {t : TypeId} {s : ByteArray} (ht : P.underlying t = some .string) (hx : ev ρ x = some (.string s)) : Ex P n A w0 ρ Γ ⟨d, .call ⟨.builtin .len, #[x], #[t]⟩, ty, pos, after, g⟩ (.int .i64 (s.size : Int)) := by
  intro a w hs hh
  simp [execOp, resolve, invoke, builtin, hs.eval hx, Builtin.len_, run_underlying ht, goInt]
theorem ex_len_nil {x : Operand} {t e : TypeId} {m c : Nat} {ad : Option Addr} (ht : P.underlying t = some (.slice e)) (hx : ev ρ x = some (.slice ad m c)) : Ex P n A w0 ρ Γ ⟨d, .call ⟨.builtin .len, #[x], #[t]⟩, ty, pos, after, g⟩ (.int .i64 (m : Int)) := by
  intro a w hs hh
  simp [execOp, resolve, invoke, builtin, hs.eval hx, Builtin.len_, run_underlying ht, goInt]
theorem ex_len_rd {α : Type} [Rep α] {x : Operand} {t e : TypeId} {v : Value} {xs : List α} (i : Nat) (ht : P.underlying t = some (.slice e)) (hx : ev ρ x = some v) (hi : Γ[i]? = some (.rd v xs)) : Ex P n A w0 ρ Γ ⟨d, .call ⟨.builtin .len, #[x], #[t]⟩, ty, pos, after, g⟩ (.int .i64 (xs.length : Int)) := by
  intro a w hs hh
  have h := Rd.sl (hh.get i hi)
  rcases h with ⟨rfl, ad, cap, rfl, _⟩ | ⟨b, off, cap, cells, rfl, _⟩ <;>
  simp [execOp, resolve, invoke, builtin, hs.eval hx, Builtin.len_, run_underlying ht, goInt]
theorem ex_len_ow {α : Type} [Rep α] {x : Operand} {t e e' : TypeId} {v : Value} {xs : List α} (i : Nat) (ht : P.underlying t = some (.slice e)) (hx : ev ρ x = some v) (hi : Γ[i]? = some (.ow e' v xs)) : Ex P n A w0 ρ Γ ⟨d, .call ⟨.builtin .len, #[x], #[t]⟩, ty, pos, after, g⟩ (.int .i64 (xs.length : Int)) := by
  intro a w hs hh
  obtain ⟨cells, ⟨_, h⟩, _⟩ := hh.get i hi
  rcases h with ⟨rfl, h0⟩ | ⟨gg, cap, cur, rfl, _⟩
  · simp [execOp, resolve, invoke, builtin, hs.eval hx, Builtin.len_, run_underlying ht, goInt, h0]
  · simp [execOp, resolve, invoke, builtin, hs.eval hx, Builtin.len_, run_underlying ht, goInt]

/-! ### Types -/
/-- The size in cells, and whether a value is an aggregate. -/
def tinf (P : Program) (t : TypeId) : Option (Nat × Bool) :=
  match P.info? t, P.underlying t with
  | some i, some u => some (i.size, match u with | .struct _ | .array _ _ => true | _ => false)
  | _, _ => none
theorem tinf_size {t : TypeId} {s : Nat} {b : Bool} (h : tinf P t = some (s, b)) (w : World) : (sizeOf t).run P w = .ok s w := by
  unfold tinf at h
  split at h
  · rename_i i u hi hu
    simp at h
    simp [sizeOf, typeInfo, hi, h.1]
  · simp at h
theorem tinf_agg {t : TypeId} {s : Nat} {b : Bool} (h : tinf P t = some (s, b)) (w : World) : (isAgg t).run P w = .ok b w := by
  unfold tinf at h
  split at h
  · rename_i i u hi hu
    simp at h
    obtain ⟨_, rfl⟩ := h
    simp [isAgg, run_underlying hu]
    cases u <;> rfl
  · simp at h
/-- A field's offset and its size in cells. -/
def finf (P : Program) (t : TypeId) (f : Nat) : Option (Nat × Nat) :=
  match P.underlying t with
  | some (.struct fields) => match fields[f]? with
    | some fl => match tinf P fl.type with
      | some (s, _) => some (fl.offset, s)
      | none => none
    | none => none
  | _ => none
theorem run_fieldAt {t : TypeId} {f o s : Nat} {b off : Nat} (h : finf P t f = some (o, s)) (hs : Nat.blt 0 s = true) (w : World) :
    (Instr.fieldAt t (.pointer (some ⟨b, off, none⟩)) f).run P w = .ok (.pointer (some ⟨b, off + o, none⟩)) w := by
  unfold finf at h
  split at h
  · rename_i fields hu
    split at h
    · rename_i fl hf
      split at h
      · rename_i s' b' ht
        simp at h
        obtain ⟨rfl, rfl⟩ := h
        have hs' : ¬ s' = 0 := by simp [Nat.blt_eq] at hs; omega
        simp [Instr.fieldAt, run_underlying hu, hf, Instr.sureAddr, fieldPlace, tinf_size ht, hs', Addr.add_lit]
      · simp at h
    · simp at h
  · simp at h

/-! ### Fields and loads -/
theorem ex_fieldAddr {x : Operand} {t : TypeId} {f o s b off : Nat} (hf : finf P t f = some (o, s)) (hs' : Nat.blt 0 s = true) (hx : ev ρ x = some (.pointer (some ⟨b, off, none⟩))) :
    Ex P n A w0 ρ Γ ⟨d, .fieldAddr t x f, ty, pos, after, g⟩ (.pointer (some ⟨b, off + o, none⟩)) := by
  intro a w hs hh
  simp [execOp, hs.eval hx, run_fieldAt hf hs']
theorem cell_of_bx {w : World} {b t off : Nat} {cs : List Value} {v : Value} (h : w.heap[b]? = some (.cells cs.toArray t (0, 0))) (hv : cs[off]? = some v) : w.cell? ⟨b, off, none⟩ = some v := by
  simp [World.cell?, h, hv]
theorem ex_load_bx {x : Operand} {t t' : TypeId} {b off : Nat} {cs : List Value} {v : Value} (i : Nat) (ht : tinf P t = some (1, false)) (hx : ev ρ x = some (.pointer (some ⟨b, off, none⟩))) (hi : Γ[i]? = some (.bx b t' cs)) (hv : cs[off]? = some v) :
    Ex P n A w0 ρ Γ ⟨d, .load t x, ty, pos, after, g⟩ v := by
  intro a w hs hh
  have hb := hh.get i hi
  have hc := cell_of_bx hb hv
  simp [execOp, hs.eval hx, Instr.loadAt, Instr.sureAddr, loadVar, tinf_agg ht, run_load, hc]
theorem ex_load_bx_agg {x : Operand} {t t' : TypeId} {b off s : Nat} {cs cs' : List Value} (i : Nat) (ht : tinf P t = some (s, true)) (hx : ev ρ x = some (.pointer (some ⟨b, off, none⟩))) (hi : Γ[i]? = some (.bx b t' cs)) (hv : (cs.drop off).take s = cs') (hl : cs'.length = s) :
    Ex P n A w0 ρ Γ ⟨d, .load t x, ty, pos, after, g⟩ (.agg cs'.toArray) := by
  intro a w hs hh
  have hb := hh.get i hi
  have hc := run_loadCells_list (P := P) w ⟨b, off, none⟩ cs' (fun j v hj => by
    rw [Addr.add_lit]
    refine cell_of_bx hb ?_
    rw [← hv] at hj
    rw [List.getElem?_take] at hj
    split at hj
    · simpa using hj
    · simp at hj)
  rw [hl] at hc
  simp [execOp, hs.eval hx, Instr.loadAt, Instr.sureAddr, loadVar, tinf_agg ht, tinf_size ht, hc]

/-! ### Steps that make facts -/
def Wants (n : Nat) (ρ : Env) (ops : Array Oper) (o : Oper) : Prop := ∀ a, Sat n ρ a → Region.wanted o (yielded ops a.tmps) = true
theorem wants_none {ops : Array Oper} {o : Oper} (h : o.guard = none) : Wants n ρ ops o := fun a _ => by simp [Region.wanted, h]
theorem wants_some {ops : Array Oper} {o : Oper} {j dj : Nat} {want b : Bool} (hg : o.guard = some (j, want)) (hj : (ops[j]?).bind (·.dst) = some dj) (hb : ρ.get dj = some (.bool b)) (hbw : b = want) : Wants n ρ ops o := fun a hs => by
  rw [wanted_of hs hg hj hb, hbw]
  simp
/-- What is owned behind a step was owned before, or is new. -/
def OwnNew (Γ Γ' : Ctx) (w : World) : Prop := ∀ b ∈ Γ'.owns, b ∈ Γ.owns ∨ w.heap.size ≤ b
theorem OwnNew.refl (Γ : Ctx) (w : World) : OwnNew Γ Γ w := fun _ hb => .inl hb
theorem OwnNew.cons {f : Fact} {w : World} (h : ∀ b ∈ f.owns, w.heap.size ≤ b) : OwnNew Γ (f :: Γ) w := fun b hb => by
  simp only [Ctx.owns, List.flatMap_cons, List.mem_append] at hb
  rcases hb with hb | hb
  · exact .inr (h b hb)
  · exact .inl hb
theorem OwnNew.set {f f' : Fact} {i : Nat} {w : World} (hi : Γ[i]? = some f) (h : ∀ b ∈ f'.owns, b ∈ f.owns ∨ w.heap.size ≤ b) : OwnNew Γ (Γ.set i f') w := fun b hb => by
  obtain ⟨l1, l2, e1, e2⟩ := owns_set (f' := f') hi
  rw [e2] at hb
  rw [e1]
  simp only [List.append_assoc, List.mem_append] at hb ⊢
  rcases hb with hb | hb | hb
  · exact .inl (.inl hb)
  · rcases h b hb with h' | h'
    · exact .inl (.inr (.inl h'))
    · exact .inr h'
  · exact .inl (.inr (.inr hb))
theorem OwnNew.plain {f : Fact} {w : World} (h : f.owns = []) : OwnNew Γ (f :: Γ) w := .cons (by simp [h])
/-- An operation that gives a value and turns the heap; G: what is not known before. -/
def St (P : Program) (n : Nat) (A : Nat → Prop) (w0 : World) (ρ : Env) (Γ : Ctx) (o : Oper) {G : Type} (v : G → Value) (Γ' : G → Ctx) (T : List Nat) : Prop :=
  ∀ a w, Sat n ρ a → SH A w0 w Γ → ∃ x w', (execOp a.eval o).run P w = .ok (.value (v x)) w' ∧ SH A w0 w' (Γ' x) ∧ Grow w w' T ∧ OwnNew Γ (Γ' x) w
theorem JL_st {ops : Array Oper} {rest : List Oper} {d : Nat} {op : Op} {G : Type} {v : G → Value} {Γ' : G → Ctx} (hw : Wants n ρ ops ⟨some d, op, ty, pos, after, g⟩) (hd : Nat.blt d n = true)
    {T : List Nat} (hx : St P n A w0 ρ Γ ⟨some d, op, ty, pos, after, g⟩ v Γ' T) (h : ∀ x, JL P n A w0 ops rest Q ((d, v x) :: ρ) (Γ' x) E) : JL P n A w0 ops (⟨some d, op, ty, pos, after, g⟩ :: rest) Q ρ Γ E := by
  intro r hr a w hs hh
  refine wpList_step fun K hK => ?_
  rw [hw a hs]
  simp only [if_true]
  obtain ⟨x, w', hrun, hh', _⟩ := hx a w hs hh
  unfold Oper.wp
  rw [hrun, Oper.upon_value]
  exact hK _ _ (h x r hr _ _ (hs.put (by simpa [Nat.blt_eq] using hd)) hh')
/-- A store. -/
def Sk (P : Program) (n : Nat) (A : Nat → Prop) (w0 : World) (ρ : Env) (Γ : Ctx) (o : Oper) (Γ' : Ctx) (T : List Nat) : Prop :=
  ∀ a w, Sat n ρ a → SH A w0 w Γ → ∃ w', (execOp a.eval o).run P w = .ok .skip w' ∧ SH A w0 w' Γ' ∧ Grow w w' T ∧ OwnNew Γ Γ' w
theorem JL_sk {ops : Array Oper} {rest : List Oper} {op : Op} (hw : Wants n ρ ops ⟨none, op, ty, pos, after, g⟩)
    {T : List Nat} (hx : Sk P n A w0 ρ Γ ⟨none, op, ty, pos, after, g⟩ Γ' T) (h : JL P n A w0 ops rest Q ρ Γ' E) : JL P n A w0 ops (⟨none, op, ty, pos, after, g⟩ :: rest) Q ρ Γ E := by
  intro r hr a w hs hh
  refine wpList_step fun K hK => ?_
  rw [hw a hs]
  simp only [if_true]
  obtain ⟨w', hrun, hh', _⟩ := hx a w hs hh
  unfold Oper.wp
  rw [hrun, Oper.upon_skip]
  exact hK _ _ (h r hr _ _ hs hh')

def idx {α : Type} (xs : List α) (i : Int) : Option α := if i < 0 then none else xs[i.toNat]?

theorem st_index {α : Type} [Rep α] {x ix : Operand} {t e : TypeId} {k : IntKind} {b : Bool} {v : Value} {xs : List α} {j : Int} {y : α} (i : Nat) (ht : P.underlying t = some (.slice e)) (he : tinf P e = some (Rep.sz α, b))
    (hx : ev ρ x = some v) (hix : ev ρ ix = some (.int k j)) (hi : Γ[i]? = some (.rd v xs)) (hy : idx xs j = some y) :
    St P n A w0 ρ Γ ⟨d, .indexAddr t x ix, ty, pos, after, g⟩ (fun p : Value => p) (fun p => .pt p y :: Γ) [] := by
  intro a w hs hh
  have hr := Rd.sl (hh.get i hi)
  unfold idx at hy
  split at hy
  · simp at hy
  rename_i hj
  have hlt : j.toNat < xs.length := (List.getElem?_eq_some_iff.1 hy).1
  rcases hr with ⟨rfl, _⟩ | ⟨bb, off, cap, cells, rfl, h1, h2, h3, h4, h5, h6⟩
  · simp at hlt
  obtain ⟨c, hc1, hc2, hc3⟩ := RdL.get xs cells j.toNat y h6 hy
  refine ⟨.pointer (some ⟨bb, off + j.toNat * Rep.sz α, none⟩), w, ?_, ?_, Grow.refl w _, .plain rfl⟩
  · have hb : 0 ≤ j ∧ j < (xs.length : Int) := ⟨by omega, by omega⟩
    simp [execOp, hs.eval hx, hs.eval hix, Instr.indexAt, asIntOf, run_underlying ht, hb, tinf_size he, Addr.add_lit]
  · refine hh.cons (Grow.refl w []) (by simp [Fact.owns]) (by simp [Fact.owns]) ?_
    refine ⟨bb, _, c, rfl, by simpa [Ctx.owns, Fact.owns] using h1, h2, fun jj u hu => ?_, by simpa [Ctx.owns, Fact.owns] using hc2⟩
    rw [Nat.add_assoc]
    exact h5 _ _ (hc3 jj u hu)

/-- A load through a pointer to an element, of whatever type. -/
theorem st_load_pt {α : Type} [Rep α] {x : Operand} {t : TypeId} {p : Value} {y : α} (i : Nat) (ht : tinf P t = some (Rep.sz α, Rep.agg α)) (hx : ev ρ x = some p) (hi : Γ[i]? = some (.pt p y)) :
    St P n A w0 ρ Γ ⟨d, .load t x, ty, pos, after, g⟩ (fun v : Value => v) (fun v => .rd v y :: Γ) [] := by
  intro a w hs hh
  obtain ⟨b, off, cs, rfl, h1, h2, h3, h4⟩ := hh.get i hi
  have hl := Rep.len h4
  refine ⟨Rep.val α cs, w, ?_, hh.cons_rd ⟨cs, rfl, h4⟩, Grow.refl w _, .plain rfl⟩
  cases ha : Rep.agg α with
  | true =>
    rw [ha] at ht
    have hc := run_loadCells_list (P := P) w ⟨b, off, none⟩ cs (fun j v hj => by rw [Addr.add_lit]; exact h3 j v hj)
    rw [hl] at hc
    simp [execOp, hs.eval hx, Instr.loadAt, Instr.sureAddr, loadVar, tinf_agg ht, tinf_size ht, hc, Rep.val, ha]
  | false =>
    rw [ha, Rep.single ha] at ht
    rw [Rep.single ha] at hl
    match cs, hl with
    | [c], _ =>
      have hc := h3 0 c rfl
      simp at hc
      simp [execOp, hs.eval hx, Instr.loadAt, Instr.sureAddr, loadVar, tinf_agg ht, run_load, hc, Rep.val, ha]
theorem ex_load_pt_int {x : Operand} {t : TypeId} {p : Value} {y : Int} (i : Nat) (ht : tinf P t = some (1, false)) (hx : ev ρ x = some p) (hi : Γ[i]? = some (.pt p y)) :
    Ex P n A w0 ρ Γ ⟨d, .load t x, ty, pos, after, g⟩ (.int .i64 y) := by
  intro a w hs hh
  obtain ⟨b, off, cs, rfl, h1, h2, h3, h4⟩ := hh.get i hi
  simp only [Rep.rdc] at h4
  subst h4
  have hc := h3 0 _ rfl
  simp at hc
  simp [execOp, hs.eval hx, Instr.loadAt, Instr.sureAddr, loadVar, tinf_agg ht, run_load, hc]

/-! ### Making memory -/
theorem run_newVar' (P : Program) (w : World) (t : TypeId) (v : Value) : (newVar t v).run P w = .ok ⟨w.heap.size, 0, none⟩ (w.alloc (.cells v.cells t)) := rfl
theorem st_box {x : Operand} {t : TypeId} {v : Value} {cs : List Value} (hx : ev ρ x = some v) (hv : v.cells = cs.toArray) :
    St P n A w0 ρ Γ ⟨d, .box t x, ty, pos, after, g⟩ (fun b : Nat => .pointer (some ⟨b, 0, none⟩)) (fun b => .bx b t cs :: Γ) [] := by
  intro a w hs hh
  refine ⟨w.heap.size, w.alloc (.cells cs.toArray t), ?_, hh.box, Grow.alloc w _ _, .cons (by simp [Fact.owns])⟩
  simp [execOp, hs.eval hx, Instr.box, run_newVar', hv]
theorem st_alloc {t : TypeId} {z : Value} {cs : List Value} (hz : ((P.info? t).bind (·.zero)) = some z) (hv : z.cells = cs.toArray) :
    St P n A w0 ρ Γ ⟨d, .alloc t, ty, pos, after, g⟩ (fun b : Nat => .pointer (some ⟨b, 0, none⟩)) (fun b => .bx b t cs :: Γ) [] := by
  intro a w hs hh
  refine ⟨w.heap.size, w.alloc (.cells cs.toArray t), ?_, hh.box, Grow.alloc w _ _, .cons (by simp [Fact.owns])⟩
  obtain ⟨i, hi, hz⟩ := Option.bind_eq_some_iff.1 hz
  simp [execOp, Instr.alloc, zeroValue, typeInfo, hi, hz, run_newVar', hv]
/-- A store into a box: 'cs'' is what it holds then. -/
theorem sk_store_bx {x y : Operand} {t t' : TypeId} {b off s : Nat} {ag : Bool} {cs cs' : List Value} {v : Value} {vs : List Value} (i : Nat) (ht : tinf P t = some (s, ag)) (hx : ev ρ x = some (.pointer (some ⟨b, off, none⟩))) (hy : ev ρ y = some v)
    (hvs : v.cells = vs.toArray) (hlen : vs.length = s) (hone : vs.all (·.oneCell') = true) (hi : Γ[i]? = some (.bx b t' cs)) (hfit : Nat.ble (off + vs.length) cs.length = true) (hcs : cs.take off ++ vs ++ cs.drop (off + vs.length) = cs') (hΓ : Γ.set i (.bx b t' cs') = Γ') :
    Sk P n A w0 ρ Γ ⟨d, .store t x y, ty, pos, after, g⟩ Γ' [b] := by
  intro a w hs hh
  have hb : w.heap[b]? = some (.cells cs.toArray t' (0, 0)) := hh.get i hi
  have hst := run_storeCells_at P b off t' vs 0 cs.toArray w hb (by simp [Nat.ble_eq] at hfit; simpa using hfit) (fun u hu => by simp at hone; exact hone u hu)
  simp only [Nat.add_zero, hcs] at hst
  refine ⟨w.setRow b cs'.toArray, ?_, ?_, ⟨rfl, rfl, rfl, by simp, fun k _ hk => setRow_other w b k _ (fun e => hk (by simp [e]))⟩, hΓ ▸ .set hi (fun c hc => .inl hc)⟩
  · simp [execOp, hs.eval hx, hs.eval hy, Instr.storeAt, Instr.sureAddr, storeVar, tinf_size ht, hvs, hlen, hst]
  · subst hΓ
    refine hh.set hi ⟨rfl, rfl, rfl, by simp, fun k _ hk => setRow_other w b k _ (fun e => hk (by simp [Fact.owns, e]))⟩ (by simp [Fact.owns]) (fun c hc => ?_) ?_
    · simp [Fact.owns] at hc
      subst hc
      exact ⟨.inl (by simp [Fact.owns]), by simpa using lt_of_some hb⟩
    · exact setRow_heap w b _ _ _ _ hb
end
end Go.Tc
