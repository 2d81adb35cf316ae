/-
  The calculus, further: reading and writing a row of the call's own by index, sub-slices, struct values. No condition.
-/
import Derived.Test.YtfklpjdenigohaaOwn
namespace Go.Tc
open Go Go.RowKit

section
variable {R : Type} {P : Program} {n : Nat} {A : Nat → Prop} {w0 : World} {Q : R → Exit → Act → World → Prop} {ρ ρ' : Env} {Γ Γ' : Ctx} {E : Option R}
variable {d : Option Nat} {ty : TypeId} {pos : String} {after : Array Edge} {g : Option (Nat × Bool)}

theorem idx_eq {α : Type} {xs : List α} {j : Int} {y : α} (h : idx xs j = some y) : 0 ≤ j ∧ j.toNat < xs.length ∧ xs[j.toNat]? = some y := by
  unfold idx at h
  split at h
  · simp at h
  · exact ⟨by omega, (List.getElem?_eq_some_iff.1 h).1, h⟩

/-- A row of the call's own that is not empty has an address. -/
theorem JL_ow_open {α : Type} [Rep α] {ops : Array Oper} {l : List Oper} {e : TypeId} {v : Value} {xs : List α} {j : Int} {y : α} (i : Nat) (hi : Γ[i]? = some (.ow e v xs)) (hj : idx xs j = some y)
    (h : ∀ b cap, v = .slice (some ⟨b, 0, none⟩) xs.length cap → JL P n A w0 ops l Q ρ Γ E) : JL P n A w0 ops l Q ρ Γ E := by
  intro r hr a w hs hh
  obtain ⟨cells, ⟨_, hown⟩, _⟩ := hh.get i hi
  rcases hown with ⟨rfl, h0⟩ | ⟨gg, cap, cur, hv, _⟩
  · have := (idx_eq hj).2.1
    omega
  · exact h gg cap hv r hr a w hs hh
theorem J_ow_open {α : Type} [Rep α] {c : Code} {e : TypeId} {v : Value} {xs : List α} {j : Int} {y : α} (i : Nat) (hi : Γ[i]? = some (.ow e v xs)) (hj : idx xs j = some y)
    (h : ∀ b cap, v = .slice (some ⟨b, 0, none⟩) xs.length cap → J P n A w0 c Q ρ Γ E) : J P n A w0 c Q ρ Γ E := by
  intro r hr a w hs hh
  obtain ⟨cells, ⟨_, hown⟩, _⟩ := hh.get i hi
  rcases hown with ⟨rfl, h0⟩ | ⟨gg, cap, cur, hv, _⟩
  · have := (idx_eq hj).2.1
    omega
  · exact h gg cap hv r hr a w hs hh
theorem ex_index_ow {α : Type} [Rep α] {x ix : Operand} {t e : TypeId} {k : IntKind} {ag : Bool} {b cap len : Nat} {xs : List α} {j : Int} {y : α} (i : Nat) (ht : P.underlying t = some (.slice e)) (he : tinf P e = some (Rep.sz α, ag))
    (hx : ev ρ x = some (.slice (some ⟨b, 0, none⟩) len cap)) (hix : ev ρ ix = some (.int k j)) (hi : Γ[i]? = some (.ow e (.slice (some ⟨b, 0, none⟩) len cap) xs)) (hy : idx xs j = some y) :
    Ex P n A w0 ρ Γ ⟨d, .indexAddr t x ix, ty, pos, after, g⟩ (.pointer (some ⟨b, j.toNat * Rep.sz α, none⟩)) := by
  intro a w hs hh
  obtain ⟨h0, h1, h2⟩ := idx_eq hy
  obtain ⟨cells, ⟨_, hown⟩, _⟩ := hh.get i hi
  have hl : len = xs.length := by
    rcases hown with ⟨h, _⟩ | ⟨gg, cap', cur, hv, _⟩
    · simp at h
    · simp at hv; exact hv.2.1
  have hb : 0 ≤ j ∧ j < (len : Int) := ⟨by omega, by omega⟩
  simp [execOp, hs.eval hx, hs.eval hix, Instr.indexAt, asIntOf, run_underlying ht, hb, tinf_size he, Addr.add_lit]
/-- A load out of a row of the call's own. -/
theorem st_load_ow {α : Type} [Rep α] {x : Operand} {t e : TypeId} {b cap len : Nat} {xs : List α} {j : Int} {y : α} (i : Nat) (ht : tinf P t = some (Rep.sz α, Rep.agg α)) (hx : ev ρ x = some (.pointer (some ⟨b, j.toNat * Rep.sz α, none⟩)))
    (hi : Γ[i]? = some (.ow e (.slice (some ⟨b, 0, none⟩) len cap) xs)) (hy : idx xs j = some y) :
    St P n A w0 ρ Γ ⟨d, .load t x, ty, pos, after, g⟩ (fun v : Value => v) (fun v => .rd v y :: Γ) [] := by
  intro a w hs hh
  obtain ⟨h0, h1, h2⟩ := idx_eq hy
  obtain ⟨cells, ⟨hl0, hown⟩, hr⟩ := hh.get i hi
  rcases hown with ⟨h, _⟩ | ⟨gg, cap', cur, hv, _, hg, hnc, hcm, hcs, htake⟩
  · simp at h
  simp at hv
  obtain ⟨rfl, rfl, rfl⟩ := hv
  obtain ⟨c, hc1, hc2, hc3⟩ := RdL.get xs cells j.toNat y hr h2
  have hcell : ∀ jj u, c[jj]? = some u → w.cell? ⟨b, j.toNat * Rep.sz α + jj, none⟩ = some u := by
    intro jj u hu
    have := hc3 jj u hu
    rw [← htake, List.getElem?_take] at this
    split at this
    · simpa [World.cell?, hg] using this
    · simp at this
  refine ⟨Rep.val α c, w, ?_, hh.cons_rd ⟨c, rfl, hc2⟩, Grow.refl w _, .plain rfl⟩
  cases ha : Rep.agg α with
  | true =>
    rw [ha] at ht
    have hc := run_loadCells_list (P := P) w ⟨b, j.toNat * Rep.sz α, none⟩ c (fun j v hj => by rw [Addr.add_lit]; exact hcell j v hj)
    rw [hc1] at hc
    simp [execOp, hs.eval hx, Instr.loadAt, Instr.sureAddr, loadVar, tinf_agg ht, tinf_size ht, hc, Rep.val, ha]
  | false =>
    rw [ha, Rep.single ha] at ht
    have hc1' := hc1
    rw [Rep.single ha] at hc1'
    match c, hc1' with
    | [c0], _ =>
      have hc := hcell 0 c0 rfl
      simp at hc
      simp [execOp, hs.eval hx, Instr.loadAt, Instr.sureAddr, loadVar, tinf_agg ht, run_load, hc, Rep.val, ha]
theorem ex_load_ow_int {x : Operand} {t e : TypeId} {b cap len : Nat} {xs : List Int} {j : Int} {y : Int} (i : Nat) (ht : tinf P t = some (1, false)) (hx : ev ρ x = some (.pointer (some ⟨b, j.toNat * Rep.sz Int, none⟩)))
    (hi : Γ[i]? = some (.ow e (.slice (some ⟨b, 0, none⟩) len cap) xs)) (hy : idx xs j = some y) :
    Ex P n A w0 ρ Γ ⟨d, .load t x, ty, pos, after, g⟩ (.int .i64 y) := by
  intro a w hs hh
  obtain ⟨v, w', h1, h2, _⟩ := st_load_ow (α := Int) (d := d) (ty := ty) (pos := pos) (after := after) (g := g) i ht hx hi hy a w hs hh
  have h3 := h2.get 0 rfl
  have := Rd.int h3
  subst this
  have hw : w' = w := by
    have h4 := h1
    obtain ⟨h0, hlt, hy2⟩ := idx_eq hy
    obtain ⟨cells, ⟨hl0, hown⟩, hr⟩ := hh.get i hi
    rcases hown with ⟨h, _⟩ | ⟨gg, cap', cur, hv, _, hg, hnc, hcm, hcs, htake⟩
    · simp at h
    simp at hv
    obtain ⟨rfl, rfl, rfl⟩ := hv
    obtain ⟨c, hc1, hc2, hc3⟩ := RdL.get xs cells j.toNat y hr hy2
    simp only [Rep.rdc] at hc2
    subst hc2
    have hc : w.cell? ⟨b, j.toNat * Rep.sz Int, none⟩ = some (.int .i64 y) := by
      have := hc3 0 _ rfl
      rw [← htake, List.getElem?_take] at this
      split at this
      · simpa [World.cell?, hg] using this
      · simp at this
    simp [execOp, hs.eval hx, Instr.loadAt, Instr.sureAddr, loadVar, tinf_agg ht, run_load, hc] at h4
    exact h4.symm
  rw [hw] at h1
  exact h1

/-- A list with its cells, one element replaced. -/
theorem RdL.set {α : Type} [Rep α] {A : Nat → Prop} {w : World} {y : α} {vs : List Value} (hy : Rep.rdc A w vs y) : ∀ (xs : List α) (cs : List Value) (k : Nat), k < xs.length → RdL A w cs xs →
    RdL A w (cs.take (k * Rep.sz α) ++ vs ++ cs.drop (k * Rep.sz α + vs.length)) (xs.set k y)
  | [], _, k, hk, _ => by simp at hk
  | x :: r, _, 0, _, ⟨c1, c2, e, h1, h2⟩ => by
    subst e
    have l1 := Rep.len h1
    have l2 := Rep.len hy
    refine ⟨vs, c2, ?_, hy, h2⟩
    simp [l2, ← l1]
  | x :: r, _, k + 1, hk, ⟨c1, c2, e, h1, h2⟩ => by
    subst e
    have l1 := Rep.len h1
    refine ⟨c1, _, ?_, h1, RdL.set hy r c2 k (by simpa using hk) h2⟩
    have e1 : (k + 1) * Rep.sz α = c1.length + k * Rep.sz α := by rw [Nat.add_mul, l1]; omega
    rw [e1, List.take_length_add_append, Nat.add_assoc, List.drop_length_add_append]
    simp

theorem splice_take {β : Type} (l vs : List β) (a N : Nat) (h1 : a + vs.length ≤ N) (h2 : N ≤ l.length) :
    (l.take a ++ vs ++ l.drop (a + vs.length)).take N = (l.take N).take a ++ vs ++ (l.take N).drop (a + vs.length) := by
  have e1 : (l.take a ++ vs).length = a + vs.length := by simp; omega
  rw [List.take_append, e1, List.take_of_length_le (by omega), List.take_take, Nat.min_eq_left (by omega), List.drop_take]

/-- A store into a row of the call's own. -/
theorem at_store_ow {α : Type} [Rep α] {x y : Operand} {t e : TypeId} {ag : Bool} {b cap len : Nat} {xs : List α} {j : Int} {o y' : α} {u : Value} (i : Nat) (ht : tinf P t = some (Rep.sz α, ag)) (hx : ev ρ x = some (.pointer (some ⟨b, j.toNat * Rep.sz α, none⟩))) (hy : ev ρ y = some u)
    (hi : Γ[i]? = some (.ow e (.slice (some ⟨b, 0, none⟩) len cap) xs)) (hj : idx xs j = some o) {w : World} (hu : Rd (fun k => A k ∨ k ∈ Γ.owns) w u y') (a : Act) (hs : Sat n ρ a) (hh : SH A w0 w Γ) :
    ∃ w', (execOp a.eval ⟨d, .store t x y, ty, pos, after, g⟩).run P w = .ok .skip w' ∧ SH A w0 w' (Γ.set i (.ow e (.slice (some ⟨b, 0, none⟩) len cap) (xs.set j.toNat y'))) ∧ Grow w w' [b] ∧ OwnNew Γ (Γ.set i (.ow e (.slice (some ⟨b, 0, none⟩) len cap) (xs.set j.toNat y'))) w := by
  obtain ⟨h0, h1, h2⟩ := idx_eq hj
  obtain ⟨cells, ⟨hl0, hown⟩, hr⟩ := hh.get i hi
  obtain ⟨vs, hvs, hrv⟩ := hu.cells
  have hvl := Rep.len hrv
  rcases hown with ⟨h, _⟩ | ⟨gg, cap', cur, hv, _, hg, hnc, hcm, hcs, htake⟩
  · simp at h
  simp at hv
  obtain ⟨rfl, rfl, rfl⟩ := hv
  have hle : j.toNat * Rep.sz α + vs.length ≤ xs.length * Rep.sz α := by
    rw [hvl]
    have := Nat.mul_le_mul_right (Rep.sz α) (show j.toNat + 1 ≤ xs.length by omega)
    rw [Nat.add_mul] at this; omega
  have hle2 : xs.length * Rep.sz α ≤ cur.size := by rw [hcs]; exact Nat.mul_le_mul_right _ hnc
  have hst := run_storeCells_at P b (j.toNat * Rep.sz α) e vs 0 cur w hg (by simpa using (by omega : j.toNat * Rep.sz α + vs.length ≤ cur.size)) (Rep.one hrv)
  simp only [Nat.add_zero] at hst
  refine ⟨w.setRow b (cur.toList.take (j.toNat * Rep.sz α) ++ vs ++ cur.toList.drop (j.toNat * Rep.sz α + vs.length)).toArray, ?_, ?_, ⟨rfl, rfl, rfl, by simp, fun k _ hk => setRow_other w b k _ (fun e => hk (by simp [e]))⟩, .set hi (fun c hc => .inl hc)⟩
  · simp only [execOp, hs.eval hx, hs.eval hy, Sem.run_bind, Instr.storeAt, Instr.sureAddr, storeVar, Sem.run_pure, Result.andThen_ok, tinf_size ht, hvs, List.size_toArray, hvl]
    simp only [ne_eq, not_true_eq_false, if_false]
    simp [hst]
    rw [hvl]
  · have hsize : ((cur.toList.take (j.toNat * Rep.sz α) ++ vs ++ cur.toList.drop (j.toNat * Rep.sz α + vs.length)).toArray).size = cur.size := by
      simp only [List.size_toArray, List.length_append, List.length_take, List.length_drop, Array.length_toList]
      omega
    have hA : ∀ k, k < w.heap.size → ¬ (A k ∨ k ∈ Γ.owns) → (w.setRow b (cur.toList.take (j.toNat * Rep.sz α) ++ vs ++ cur.toList.drop (j.toNat * Rep.sz α + vs.length)).toArray).heap[k]? = w.heap[k]? ∧ ¬ (A k ∨ k ∈ Ctx.owns (Γ.set i (.ow e (.slice (some ⟨b, 0, none⟩) xs.length cap) (xs.set j.toNat y')))) := by
      intro k hk hna
      obtain ⟨l1, l2, e1, e2⟩ := owns_set (f' := .ow e (.slice (some ⟨b, 0, none⟩) xs.length cap) (xs.set j.toNat y')) hi
      have e3 : Ctx.owns (Γ.set i (.ow e (.slice (some ⟨b, 0, none⟩) xs.length cap) (xs.set j.toNat y'))) = Γ.owns := by rw [e1, e2]; rfl
      rw [e3]
      refine ⟨setRow_other w b k _ ?_, hna⟩
      intro hkb
      apply hna
      right; rw [e1]; simp [Fact.owns, Value.ownBlock, hkb]
    refine hh.set hi ⟨rfl, rfl, rfl, by simp, fun k _ hk => setRow_other w b k _ (fun e => hk (by simp [Fact.owns, Value.ownBlock, e]))⟩ (by simp [Fact.owns, Value.ownBlock]) (fun c hc => ?_) ?_
    · simp [Fact.owns, Value.ownBlock] at hc
      subst hc
      exact ⟨.inl (by simp [Fact.owns, Value.ownBlock]), by simpa using lt_of_some hg⟩
    · refine ⟨cells.take (j.toNat * Rep.sz α) ++ vs ++ cells.drop (j.toNat * Rep.sz α + vs.length), ?_, ?_⟩
      · refine ⟨?_, .inr ⟨b, cap, _, ?_, Nat.zero_le _, setRow_heap w b cur _ e _ hg, ?_, hcm, ?_, ?_⟩⟩
        · simp only [List.length_append, List.length_take, List.length_drop, List.length_set, hl0]; omega
        · simp
        · simpa using hnc
        · rw [hsize, hcs]
        · rw [List.length_set, ← htake]
          exact splice_take _ _ _ _ hle (by simpa using hle2)
      · exact RdL.frame hA _ _ (RdL.set hrv xs cells j.toNat h1 hr)

theorem sk_store_ow {α : Type} [Rep α] {x y : Operand} {t e : TypeId} {ag : Bool} {b cap len : Nat} {xs : List α} {j : Int} {o y' : α} {u : Value} (i : Nat) (ht : tinf P t = some (Rep.sz α, ag)) (hx : ev ρ x = some (.pointer (some ⟨b, j.toNat * Rep.sz α, none⟩))) (hy : ev ρ y = some u)
    (hi : Γ[i]? = some (.ow e (.slice (some ⟨b, 0, none⟩) len cap) xs)) (hj : idx xs j = some o) (hu : ∀ w, SH A w0 w Γ → Rd (fun k => A k ∨ k ∈ Γ.owns) w u y') :
    Sk P n A w0 ρ Γ ⟨d, .store t x y, ty, pos, after, g⟩ (Γ.set i (.ow e (.slice (some ⟨b, 0, none⟩) len cap) (xs.set j.toNat y'))) [b] :=
  fun a w hs hh => at_store_ow i ht hx hy hi hj (hu w hh) a hs hh

/-! ### Sub-slices -/
def slc {α : Type} (xs : List α) (lo hi : Int) : Option (List α) := if 0 ≤ lo ∧ lo ≤ hi ∧ hi ≤ xs.length then some ((xs.take hi.toNat).drop lo.toNat) else none
theorem slc_eq {α : Type} {xs ys : List α} {lo hi : Int} (h : slc xs lo hi = some ys) : 0 ≤ lo ∧ lo ≤ hi ∧ hi ≤ xs.length ∧ ys = (xs.take hi.toNat).drop lo.toNat := by
  unfold slc at h
  split at h
  · rename_i hk; simp at h; exact ⟨hk.1, hk.2.1, hk.2.2, h.symm⟩
  · simp at h
theorem RdL.take {α : Type} [Rep α] {A : Nat → Prop} {w : World} : ∀ (xs : List α) (cs : List Value) (k : Nat), RdL A w cs xs → RdL A w (cs.take (k * Rep.sz α)) (xs.take k)
  | [], cs, k, h => by simp [RdL] at h; simp [RdL, h]
  | x :: r, cs, 0, h => by simp [RdL]
  | x :: r, cs, k + 1, ⟨c1, c2, e, h1, h2⟩ => by
    subst e
    have l1 := Rep.len h1
    refine ⟨c1, c2.take (k * Rep.sz α), ?_, h1, RdL.take r c2 k h2⟩
    rw [show (k + 1) * Rep.sz α = c1.length + k * Rep.sz α by rw [Nat.add_mul, l1]; omega, List.take_length_add_append]
theorem RdL.drop {α : Type} [Rep α] {A : Nat → Prop} {w : World} : ∀ (xs : List α) (cs : List Value) (k : Nat), RdL A w cs xs → RdL A w (cs.drop (k * Rep.sz α)) (xs.drop k)
  | [], cs, k, h => by simp [RdL] at h; simp [RdL, h]
  | x :: r, cs, 0, h => by simpa using h
  | x :: r, cs, k + 1, ⟨c1, c2, e, h1, h2⟩ => by
    subst e
    have l1 := Rep.len h1
    rw [show (k + 1) * Rep.sz α = c1.length + k * Rep.sz α by rw [Nat.add_mul, l1]; omega, List.drop_length_add_append]
    exact RdL.drop r c2 k h2
/-- The bounds of a slice expression: a missing one is 0, or the length. -/
def bound (ρ : Env) : Option Operand → Int → Option Int
  | none, dflt => some dflt
  | some x, _ => match ev ρ x with | some (.int .i64 j) => some j | _ => none
theorem RdS.slice {α : Type} [Rep α] {w : World} {A : Nat → Prop} {t e : TypeId} {ag : Bool} {v : Value} {xs ys : List α} {lo hi : Option Value} {l h : Int} (ht : P.underlying t = some (.slice e)) (he : tinf P e = some (Rep.sz α, ag)) (hr : RdS A w v xs)
    (hlo : lo = none ∧ l = 0 ∨ lo = some (.int .i64 l)) (hhi : hi = none ∧ h = xs.length ∨ hi = some (.int .i64 h)) (hy : slc xs l h = some ys) :
    ∃ v', (Instr.sliceAt t v lo hi none).run P w = .ok v' w ∧ RdS A w v' ys := by
  obtain ⟨h0, h1, h2, rfl⟩ := slc_eq hy
  rcases hr with ⟨rfl, ad, cap, rfl, hn, hcm⟩ | ⟨b, off, cap, cells, rfl, g1, g2, g3, g4, g5, g6⟩
  · simp at h2
    have hl : l = 0 := by omega
    have hh : h = 0 := by omega
    subst hl hh
    refine ⟨.slice (if cap = 0 then ad else ad.map (·.add 0)) 0 cap, ?_, .inl ⟨by simp, _, cap, rfl, fun e => ?_, hcm⟩⟩
    case refine_2 =>
      by_cases hc : cap = 0
      · exact hc
      · rw [if_neg hc] at e
        cases ad with
        | none => exact hn rfl
        | some a => simp at e
    rcases hlo with ⟨rfl, _⟩ | rfl <;> rcases hhi with ⟨rfl, _⟩ | rfl <;>
      simp [Instr.sliceAt, Instr.slice, run_underlying ht, Instr.sliceBounds, Instr.sliceBound, asIntOf, tinf_size he]
  · have hrun : (Instr.sliceAt t (.slice (some ⟨b, off, none⟩) xs.length cap) lo hi none).run P w = .ok (.slice (if cap = l.toNat then some ⟨b, off, none⟩ else some ⟨b, off + l.toNat * Rep.sz α, none⟩) (h.toNat - l.toNat) (cap - l.toNat)) w := by
      have hb1 : 0 ≤ l ∧ l ≤ (h.toNat : Int) := ⟨h0, by omega⟩
      have hb2 : 0 ≤ h ∧ h ≤ (cap : Int) := ⟨by omega, by omega⟩
      have hb3 : 0 ≤ l ∧ l ≤ (xs.length : Int) := ⟨h0, by omega⟩
      have hb4 : ¬ max h 0 < l := by omega
      rcases hlo with ⟨rfl, rfl⟩ | rfl <;> rcases hhi with ⟨rfl, rfl⟩ | rfl <;>
        simp [Instr.sliceAt, Instr.slice, run_underlying ht, Instr.sliceBounds, Instr.sliceBound, asIntOf, tinf_size he, Addr.add_lit, hb2, hb3]
      intro hb5
      exact absurd hb5 hb4
    refine ⟨_, hrun, ?_⟩
    have hlen : ((xs.take h.toNat).drop l.toNat).length = h.toNat - l.toNat := by simp; omega
    refine .inr ⟨b, if cap = l.toNat then off else off + l.toNat * Rep.sz α, cap - l.toNat, (cells.take (h.toNat * Rep.sz α)).drop (l.toNat * Rep.sz α), ?_, g1, g2, ?_, ?_, ?_, RdL.drop _ _ _ (RdL.take _ _ _ g6)⟩
    · rw [hlen]; split <;> rfl
    · rw [hlen]; omega
    · omega
    · intro j u hj
      have hlt := (List.getElem?_eq_some_iff.1 hj).1
      simp at hlt
      by_cases hc : cap = l.toNat
      · exfalso
        have : h.toNat ≤ l.toNat := by omega
        have := Nat.mul_le_mul_right (Rep.sz α) this
        omega
      · rw [if_neg hc, Nat.add_assoc]
        refine g5 _ _ ?_
        rw [List.getElem?_drop, List.getElem?_take] at hj
        split at hj
        · exact hj
        · simp at hj
theorem bound_val {a : Act} {o : Option Operand} {dflt j : Int} (hs : Sat n ρ a) (h : bound ρ o dflt = some j) : o.map a.eval = none ∧ j = dflt ∨ o.map a.eval = some (.int .i64 j) := by
  cases o with
  | none => simp [bound] at h; exact .inl ⟨rfl, h.symm⟩
  | some x =>
    simp only [bound] at h
    split at h
    · rename_i jj e
      simp at h
      subst h
      right
      simp [hs.eval e]
    · simp at h
theorem st_slice {α : Type} [Rep α] {x : Operand} {t e : TypeId} {ag : Bool} {v : Value} {xs ys : List α} {lo hi : Option Operand} {l h : Int} (i : Nat) (ht : P.underlying t = some (.slice e)) (he : tinf P e = some (Rep.sz α, ag)) (hx : ev ρ x = some v) (hlo : bound ρ lo 0 = some l) (hhi : bound ρ hi xs.length = some h)
    (hi' : Γ[i]? = some (.rd v xs)) (hy : slc xs l h = some ys) : St P n A w0 ρ Γ ⟨d, .slice t x lo hi none, ty, pos, after, g⟩ (fun v' : Value => v') (fun v' => .rd v' ys :: Γ) [] := by
  intro a w hs hh
  obtain ⟨v', hrun, hr⟩ := RdS.slice (P := P) ht he (Rd.sl (hh.get i hi')) (bound_val hs hlo) (bound_val hs hhi) hy
  refine ⟨v', w, ?_, hh.cons_rd (.mk_sl hr), Grow.refl w _, .plain rfl⟩
  simp only [execOp, hs.eval hx, Option.map_none]
  simp [hrun]

/-! ### Struct values -/
/-- The cells of a value. -/
def CV (v : Value) (vs : List Value) : Prop := v.cells = vs.toArray ∧ ∀ u ∈ vs, u.oneCell' = true
theorem cv_int {k : IntKind} {m : Int} : CV (.int k m) [.int k m] := ⟨rfl, by simp [Value.oneCell']⟩
theorem cv_bool {b : Bool} : CV (.bool b) [.bool b] := ⟨rfl, by simp [Value.oneCell']⟩
theorem cv_str {b : ByteArray} : CV (.string b) [.string b] := ⟨rfl, by simp [Value.oneCell']⟩
theorem cv_ptr {p : Option Addr} : CV (.pointer p) [.pointer p] := ⟨rfl, by simp [Value.oneCell']⟩
theorem cv_slice {p : Option Addr} {m c : Nat} : CV (.slice p m c) [.slice p m c] := ⟨rfl, by simp [Value.oneCell']⟩
theorem cv_one {v : Value} (h : v.oneCell' = true) : CV v [v] := ⟨by cases v <;> simp_all [Value.cells, Value.oneCell'], by simpa using h⟩
theorem cv_rd {α : Type} [Rep α] {A : Nat → Prop} {w : World} {v : Value} {x : α} (h : Rd A w v x) (ha : Rep.agg α = false) : CV v [v] := cv_one (Rep.one (Rd.cell h ha) v (by simp))
theorem SH.cv {α : Type} [Rep α] {w : World} {v : Value} {xs : List α} (h : SH A w0 w Γ) (i : Nat) (hi : Γ[i]? = some (.rd v xs)) : CV v [v] := cv_one (Rd.sl (h.get i hi)).oneCell
theorem SH.cv_ow {α : Type} [Rep α] {w : World} {e : TypeId} {v : Value} {xs : List α} (h : SH A w0 w Γ) (i : Nat) (hi : Γ[i]? = some (.ow e v xs)) : CV v [v] := by
  obtain ⟨cells, ⟨_, hown⟩, _⟩ := h.get i hi
  rcases hown with ⟨rfl, _⟩ | ⟨g, cap, cur, rfl, _⟩ <;> exact cv_slice
theorem cv_agg {cs : List Value} (h : ∀ u ∈ cs, u.oneCell' = true) : CV (.agg cs.toArray) cs := ⟨rfl, h⟩
theorem CV.one {v : Value} (h : CV v [v]) : v.oneCell' = true := h.2 v (by simp)

inductive Bld (P : Program) (t : TypeId) : List Value → List (Nat × Value) → List Value → Prop
  | nil {cs : List Value} : Bld P t cs [] cs
  | cons {cs cs' cs'' : List Value} {i off : Nat} {v : Value} {r : List (Nat × Value)} (hf : finf P t i = some (off, 1)) (hlt : Nat.blt off cs.length = true) (hs : cs.set off v = cs'') (h : Bld P t cs'' r cs') : Bld P t cs ((i, v) :: r) cs'
theorem Bld.fill {t : TypeId} {places : Array (Nat × Nat)} (hp : ∀ i off s, finf P t i = some (off, s) → places[i]? = some (off, s)) :
    ∀ {cs : List Value} {parts : List (Nat × Value)} {cs' : List Value}, Bld P t cs parts cs' → (∀ p ∈ parts, p.2.cells = #[p.2]) → Instr.fill (places[·]?) cs.toArray parts = some cs'.toArray := by
  intro cs parts cs' h
  induction h with
  | nil => intro _; simp [Instr.fill]
  | cons hf hlt hs h ih =>
    rename_i cs cs' cs'' i off v r
    intro hc
    have hv := hc (i, v) (by simp)
    simp only at hv
    simp only [Nat.blt_eq] at hlt
    simp only [Instr.fill, hp _ _ _ hf, hv]
    rw [if_neg (by simp; omega)]
    rw [← ih (fun p hp' => hc p (by simp [hp'])), ← hs]
    simp
def placeOf (P : Program) (f : Field) : Nat × Nat := (f.offset, ((tinf P f.type).map (·.1)).getD 0)
theorem run_places (w : World) : ∀ (fs : List Field), (∀ f ∈ fs, (tinf P f.type).isSome) → (fs.mapM (fun f => do pure (f.offset, ← sizeOf f.type) : Field → Sem (Nat × Nat))).run P w = .ok (fs.map (placeOf P)) w
  | [], _ => rfl
  | f :: fs, h => by
    obtain ⟨⟨s, b⟩, hf⟩ := Option.isSome_iff_exists.1 (h f (by simp))
    have ih := run_places w fs (fun x hx => h x (by simp [hx]))
    rw [List.mapM_cons]
    simp only [Sem.run_bind, tinf_size hf, Result.andThen_ok, Sem.run_pure, ih, List.map_cons]
    simp [placeOf, hf]
theorem run_build {t : TypeId} {fields : Array Field} {z : Value} {zc cs' : List Value} {parts : List (Nat × Value)} (w : World) (hu : P.underlying t = some (.struct fields)) (hz : zinf P t = some z) (hzc : z.cells = zc.toArray) (hb : Bld P t zc parts cs') (hc : ∀ p ∈ parts, p.2.cells = #[p.2])
    (hall : fields.toList.all (fun f => (tinf P f.type).isSome) = true) : (Instr.build t parts.toArray).run P w = .ok (.agg cs'.toArray) w := by
  have hplaces : ∀ i off s, finf P t i = some (off, s) → ((fields.toList.map (placeOf P)).toArray)[i]? = some (off, s) := by
    intro i off s hf
    unfold finf at hf
    rw [hu] at hf
    simp only at hf
    split at hf
    · rename_i fl hfl
      split at hf
      · rename_i s' b' ht
        simp at hf
        obtain ⟨rfl, rfl⟩ := hf
        simp [hfl, ht, placeOf]
      · simp at hf
    · simp at hf
  have hfill := Bld.fill hplaces hb hc
  have hm := run_places (P := P) w fields.toList (List.all_eq_true.1 hall)
  simp only [Instr.build, Sem.run_bind, run_zinf hz, Result.andThen_ok, run_underlying hu, hzc, Array.mapM_eq_mapM_toList, map_eq_pure_bind, hm, Sem.run_pure]
  simp only [hfill, Sem.run_pure]

def AllC : List (Nat × Value) → Prop
  | [] => True
  | (_, v) :: r => CV v [v] ∧ AllC r
theorem AllC.out : ∀ {l : List (Nat × Value)}, AllC l → ∀ p ∈ l, p.2.cells = #[p.2]
  | [], _, p, hp => by simp at hp
  | (i, v) :: r, ⟨h1, h2⟩, p, hp => by
    rcases List.mem_cons.1 hp with rfl | hp
    · exact h1.1
    · exact AllC.out h2 p hp
/-- What is asked of a struct's type for a literal of it. -/
structure SInf (P : Program) (t : TypeId) (zc : List Value) : Prop where
  ex : ∃ fields z, P.underlying t = some (.struct fields) ∧ zinf P t = some z ∧ z.cells = zc.toArray ∧ fields.toList.all (fun f => (tinf P f.type).isSome) = true
theorem ex_build {t : TypeId} {zc cs' : List Value} {parts : List (Nat × Operand)} {vs : List (Nat × Value)} (hS : SInf P t zc) (hparts : evP ρ parts = some vs) (hb : Bld P t zc vs cs') (hc : ∀ w, SH A w0 w Γ → AllC vs) :
    Ex P n A w0 ρ Γ ⟨d, .build t parts.toArray, ty, pos, after, g⟩ (.agg cs'.toArray) := by
  intro a w hs hh
  obtain ⟨fields, z, h1, h2, h3, h4⟩ := hS.ex
  have hp : parts.toArray.map (fun p => (p.1, a.eval p.2)) = vs.toArray := by
    apply Array.ext'
    simp [hs.evalP hparts]
  have := run_build (P := P) w h1 h2 h3 hb (hc w hh).out h4
  simp only [execOp, Sem.run_bind]
  rw [hp, this]
  rfl
/-- A value boxed; a store: the value's cells are told under the heap's facts. -/
theorem st_box' {x : Operand} {t : TypeId} {v : Value} {cs : List Value} (hx : ev ρ x = some v) (hv : ∀ w, SH A w0 w Γ → CV v cs) :
    St P n A w0 ρ Γ ⟨d, .box t x, ty, pos, after, g⟩ (fun b : Nat => .pointer (some ⟨b, 0, none⟩)) (fun b => .bx b t cs :: Γ) [] := by
  intro a w hs hh
  exact st_box (P := P) hx (hv w hh).1 a w hs hh
theorem sk_store_bx' {x y : Operand} {t t' : TypeId} {b off s : Nat} {ag : Bool} {cs cs' : List Value} {v : Value} {vs : List Value} (i : Nat) (ht : tinf P t = some (s, ag)) (hx : ev ρ x = some (.pointer (some ⟨b, off, none⟩))) (hy : ev ρ y = some v)
    (hvs : ∀ w, SH A w0 w Γ → CV v vs) (hlen : vs.length = s) (hi : Γ[i]? = some (.bx b t' cs)) (hfit : Nat.ble (off + vs.length) cs.length = true) (hcs : cs.take off ++ vs ++ cs.drop (off + vs.length) = cs') :
    Sk P n A w0 ρ Γ ⟨d, .store t x y, ty, pos, after, g⟩ (Γ.set i (.bx b t' cs')) [b] := by
  intro a w hs hh
  exact sk_store_bx (P := P) i ht hx hy (hvs w hh).1 hlen (by simpa using (hvs w hh).2) hi hfit hcs rfl a w hs hh
end
end Go.Tc
