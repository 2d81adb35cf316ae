/-
  Functions that write marks into all numbers of a datum: their contracts, and the steps by which these are walked. No condition.
-/
import Derived.Test.YtfklpjdenigohaaTok
namespace Go.Tc
open Go Go.RowKit

/-- What a function that marks a row does: it gives the next mark; the row reads as told then, in the same blocks; nothing else is changed. -/
def MarkCon (P : Program) (f : FuncId) {α : Type} [Rep α] (F : List α → Int → Option (Int × List α)) : Prop :=
  ∀ (w : World) (v : Value) (xs : List α) (B : List Nat) (k : Int) (r : Int × List α), DS w v xs B → B.Nodup → F xs k = some r →
    Calls P f #[v, .int .i64 k] w fun e w' => e = .returned (.int .i64 r.1) ∧ DS w' v r.2 B ∧ Grow w w' B
abbrev mkr {α : Type} [Rep α] (v : Value) (xs : List α) (B : List Nat) : Fact := .inv B (fun w => DS w v xs B)
def bare (w : World) : World := { w with heap := #[] }
abbrev rest (w : World) (B : List Nat) : Fact := .fz w (fun k => k < w.heap.size ∧ k ∉ B)
theorem mark_start {α : Type} [Rep α] {w : World} {v : Value} {xs : List α} {B : List Nat} (h : DS w v xs B) (hn : B.Nodup) : SH nowhere (bare w) w [mkr v xs B, rest w B] := by
  refine ⟨⟨rfl, rfl, rfl, by simp [bare], fun k hk => by simp [bare] at hk⟩, fun k hk => hk.elim, by simpa [Ctx.owns, Fact.owns] using hn, fun b hb => ⟨by simp [bare], ?_⟩, by simp [Ctx.toks, Fact.toks], by simp [Ctx.toks, Fact.toks], fun f hf => ?_⟩
  · simp [Ctx.owns, Fact.owns] at hb
    exact h.lt b hb
  · simp only [List.mem_cons, List.not_mem_nil, or_false] at hf
    rcases hf with rfl | rfl
    · exact fun w' hw' => h.frame hw'
    · intro k hk
      refine ⟨?_, hk.1, rfl⟩
      rintro (hk' | hk')
      · exact hk'.elim
      · simp [Ctx.owns, Fact.owns] at hk'
        exact hk.2 hk'
theorem mark_end {α : Type} [Rep α] {w w' : World} {v : Value} {xs : List α} {B : List Nat} (h : SH nowhere (bare w) w' [mkr v xs B, rest w B]) : DS w' v xs B ∧ Grow w w' B := by
  have h1 : DS w' v xs B := h.get 0 rfl w' (fun _ _ => rfl)
  have h2 := h.get 1 rfl
  refine ⟨h1, h.below.os, h.below.tape, h.below.output, ?_, fun k hk hb => (h2 k ⟨hk, hb⟩).2.2⟩
  rcases Nat.eq_zero_or_pos w.heap.size with h0 | h0
  · omega
  · by_cases hb : w.heap.size - 1 ∈ B
    · have := h1.lt _ hb
      omega
    · have := (h2 (w.heap.size - 1) ⟨by omega, hb⟩).2.1
      omega
theorem DL.focus {α : Type} [Rep α] {w : World} : ∀ (xs : List α) (cs : List Value) (B : List Nat) (k : Nat) (y : α), DL w cs xs B → xs[k]? = some y →
    ∃ c1 c c2 Bi, cs = c1 ++ (c ++ c2) ∧ c1.length = k * Rep.sz α ∧ (∀ b ∈ Bi, b ∈ B) ∧ (B.Nodup → Bi.Nodup) ∧ Rep.dc w c y Bi ∧ c.length = Rep.sz α ∧
      ∀ w' c' y', Rep.dc w' c' y' Bi → (∀ b ∈ B, b ∉ Bi → w'.heap[b]? = w.heap[b]?) → B.Nodup → DL w' (c1 ++ (c' ++ c2)) (xs.set k y') B
  | [], _, _, k, y, _, hk => by simp at hk
  | x :: r, _, _, 0, y, ⟨c1, c2, B1, B2, e, eB, h1, h2⟩, hk => by
    simp at hk
    subst hk e eB
    refine ⟨[], c1, c2, B1, rfl, by simp, fun b hb => by simp [hb], fun hn => (List.nodup_append.1 hn).1, h1, Rep.len (Rep.dcr (A := nowhere) h1 fun _ _ h => h), ?_⟩
    intro w' c' y' h3 hf hn
    rw [List.nodup_append] at hn
    exact ⟨c', c2, B1, B2, rfl, rfl, h3, DL.frame _ _ _ h2 fun b hb => hf b (by simp [hb]) (fun hm => hn.2.2 b hm b hb rfl)⟩
  | x :: r, _, _, k + 1, y, ⟨c1, c2, B1, B2, e, eB, h1, h2⟩, hk => by
    subst e eB
    obtain ⟨d1, d, d2, Bi, e1, e2, e3, e4, e5, e6, e7⟩ := DL.focus r c2 B2 k y h2 (by simpa using hk)
    have hl := Rep.len (Rep.dcr (A := nowhere) h1 fun _ _ h => h)
    refine ⟨c1 ++ d1, d, d2, Bi, by rw [e1]; simp, by rw [List.length_append, hl, e2, Nat.add_mul]; omega, fun b hb => by simp [e3 b hb], fun hn => e4 (List.nodup_append.1 hn).2.1, e5, e6, ?_⟩
    intro w' c' y' h3 hf hn
    have hn' := List.nodup_append.1 hn
    refine ⟨c1, d1 ++ (c' ++ d2), B1, B2, by simp, rfl, Rep.dcf h1 fun b hb => hf b (by simp [hb]) (fun hm => hn'.2.2 b hb b (e3 b hm) rfl), ?_⟩
    exact e7 w' c' y' h3 (fun b hb hbi => hf b (by simp [hb]) hbi) hn'.2.1

/-- A part that is a row: at the offset o. -/
def FC {α β : Type} [Rep α] [Rep β] (o : Nat) (y : α) (z : List β) (st : List β → α) : Prop :=
  ∀ w c Bi, Rep.dc w c y Bi → ∃ u Bf, c[o]? = some u ∧ DS w u z Bf ∧ (Bi.Nodup → Bf.Nodup) ∧ (∀ b ∈ Bf, b ∈ Bi) ∧
    ∀ w' z', DS w' u z' Bf → Bi.Nodup → (∀ b ∈ Bi, b ∉ Bf → w'.heap[b]? = w.heap[b]?) → Rep.dc w' c (st z') Bi
/-- A part that is a number. -/
def FSt {α : Type} [Rep α] (o : Nat) (y : α) (st : Int → α) : Prop :=
  ∀ w c Bi, Rep.dc w c y Bi → o < c.length ∧ ∀ k, Rep.dc w (c.set o (.int .i64 k)) (st k) Bi
theorem fc_self {β : Type} [Rep β] (y : List β) : FC 0 y y (fun z => z) := by
  rintro w c Bi ⟨v, rfl, h⟩
  exact ⟨v, Bi, rfl, h, fun h => h, fun _ h => h, fun w' z' h' _ _ => ⟨v, rfl, h'⟩⟩
theorem fs_self (y : Int) : FSt 0 y (fun k => k) := by
  rintro w c Bi ⟨rfl, rfl⟩
  exact ⟨by simp, fun k => ⟨rfl, rfl⟩⟩
theorem Dc.ds {β : Type} [Rep β] {w : World} {v : Value} {z : List β} {B : List Nat} (h : Dc w v z B) : DS w v z B := by
  obtain ⟨cs, rfl, u, rfl, h⟩ := h
  exact h
theorem DS.dc {β : Type} [Rep β] {w : World} {v : Value} {z : List β} {B : List Nat} (h : DS w v z B) : Dc w v z B := ⟨[v], rfl, v, rfl, h⟩

section
variable {R : Type} {P : Program} {n : Nat} {A : Nat → Prop} {w0 w w' : World} {Q : R → Exit → Act → World → Prop} {ρ ρ' : Env} {Γ Γ' : Ctx} {E : Option R}
variable {d : Option Nat} {ty : TypeId} {pos : String} {after : Array Edge} {g : Option (Nat × Bool)}
theorem ConM_of {f : FuncId} {fn : Func} {body : Code} {vs : List Value} {G : Type} {v : R → G → Value} {fs : R → G → Ctx} {r : R}
    (hf : P.funcs[f]? = some fn) (hb : fn.body = some body) (hn : fn.ntmps = n) (hl : Nat.ble vs.length n = true) (hΓ : SH A w0 w Γ) (hρ : enum 0 vs = ρ)
    (h : J P n A w0 body (QBody P fn (Post A w0 v fs)) ρ Γ E) (hE : E = some r) : Calls P f vs.toArray w fun e w' => ∃ x, e = .returned (v r x) ∧ SH A w0 w' (fs r x) := by
  refine calls_of_wp hf hb ?_
  refine h r hE _ w ⟨?_, rfl, ?_⟩ hΓ
  · simp [Nat.ble_eq] at hl
    simp [hn]; omega
  · intro t u ht
    rw [← hρ] at ht
    obtain ⟨_, h2⟩ := enum_get vs 0 t u ht
    simp at h2
    have hlt : t < vs.length := (List.getElem?_eq_some_iff.1 h2).1
    simp [Nat.ble_eq] at hl
    refine ⟨?_, by omega⟩
    simp [Array.getD_eq_getD_getElem?, Array.getElem?_append_left (show t < vs.toArray.size by simpa using hlt), h2]
theorem SH.mkd {α : Type} [Rep α] {v : Value} {xs : List α} {B : List Nat} (h : SH A w0 w Γ) (i : Nat) (hi : Γ[i]? = some (mkr v xs B)) : DS w v xs B := h.get i hi w (fun _ _ => rfl)
theorem ex_len_mk {α : Type} [Rep α] {x : Operand} {t e : TypeId} {v : Value} {xs : List α} {B : List Nat} (i : Nat) (ht : P.underlying t = some (.slice e)) (hx : ev ρ x = some v) (hi : Γ[i]? = some (mkr v xs B)) : Ex P n A w0 ρ Γ ⟨d, .call ⟨.builtin .len, #[x], #[t]⟩, ty, pos, after, g⟩ (.int .i64 (xs.length : Int)) := by
  intro a w hs hh
  have h := hh.mkd i hi
  rcases h with ⟨rfl, _, ad, cap, rfl, _⟩ | ⟨b, off, cap, cells, Bs, arr, t', rfl, _⟩ <;>
  simp [execOp, resolve, invoke, builtin, hs.eval hx, Builtin.len_, run_underlying ht, goInt]
theorem JL_mk_open {α : Type} [Rep α] {ops : Array Oper} {l : List Oper} {v : Value} {xs : List α} {B : List Nat} {j : Int} {y : α} (i : Nat) (hi : Γ[i]? = some (mkr v xs B)) (hj : idx xs j = some y)
    (h : ∀ b off cap, v = .slice (some ⟨b, off, none⟩) xs.length cap → JL P n A w0 ops l Q ρ Γ E) : JL P n A w0 ops l Q ρ Γ E := by
  intro r hr a w hs hh
  rcases hh.mkd i hi with ⟨rfl, _⟩ | ⟨b, off, cap, cells, Bs, arr, t', hv, _⟩
  · have := (idx_eq hj).2.1
    simp at this
  · exact h b off cap hv r hr a w hs hh
theorem ex_index_lit {α : Type} {x ix : Operand} {t e : TypeId} {k : IntKind} {ag : Bool} {b off cap len s : Nat} {xs : List α} {j : Int} {y : α} (ht : P.underlying t = some (.slice e)) (he : tinf P e = some (s, ag))
    (hx : ev ρ x = some (.slice (some ⟨b, off, none⟩) len cap)) (hix : ev ρ ix = some (.int k j)) (hy : idx xs j = some y) (hl : len = xs.length) :
    Ex P n A w0 ρ Γ ⟨d, .indexAddr t x ix, ty, pos, after, g⟩ (.pointer (some ⟨b, off + j.toNat * s, none⟩)) := by
  intro a w hs hh
  obtain ⟨h0, h1, h2⟩ := idx_eq hy
  have hb : 0 ≤ j ∧ j < (len : Int) := ⟨by omega, by omega⟩
  simp [execOp, hs.eval hx, hs.eval hix, Instr.indexAt, asIntOf, run_underlying ht, hb, tinf_size he, Addr.add_lit]
theorem ex_index_own {α : Type} {x ix : Operand} {t e : TypeId} {k : IntKind} {ag : Bool} {b cap len s : Nat} {xs : List α} {j : Int} {y : α} (ht : P.underlying t = some (.slice e)) (he : tinf P e = some (s, ag))
    (hx : ev ρ x = some (.slice (some ⟨b, 0, none⟩) len cap)) (hix : ev ρ ix = some (.int k j)) (hy : idx xs j = some y) (hl : len = xs.length) :
    Ex P n A w0 ρ Γ ⟨d, .indexAddr t x ix, ty, pos, after, g⟩ (.pointer (some ⟨b, j.toNat * s, none⟩)) := by
  intro a w hs hh
  have := ex_index_lit (P := P) (A := A) (w0 := w0) (Γ := Γ) (d := d) (ty := ty) (pos := pos) (after := after) (g := g) ht he hx hix hy hl a w hs hh
  rw [Nat.zero_add] at this
  exact this
/-- A part that is a row is read. -/
theorem st_load_mk {α β : Type} [Rep α] [Rep β] {x : Operand} {t : TypeId} {b off cap len o : Nat} {xs : List α} {B : List Nat} {j : Int} {y : α} {z : List β} {st : List β → α} (i : Nat) (hF : FC o y z st) (ht : tinf P t = some (1, false)) (hx : ev ρ x = some (.pointer (some ⟨b, off + j.toNat * Rep.sz α + o, none⟩)))
    (hi : Γ[i]? = some (mkr (.slice (some ⟨b, off, none⟩) len cap) xs B)) (hy : idx xs j = some y) :
    St P n A w0 ρ Γ ⟨d, .load t x, ty, pos, after, g⟩ (fun u : Value => u) (fun u => Γ.set i (.inv B (fun w => DS w (.slice (some ⟨b, off, none⟩) len cap) xs B ∧ w.cell? ⟨b, off + j.toNat * Rep.sz α + o, none⟩ = some u))) [] := by
  intro a w hs hh
  obtain ⟨h0, h1, h2⟩ := idx_eq hy
  have hds := hh.mkd i hi
  rcases hds with ⟨rfl, _⟩ | ⟨b', off', cap', cells, Bs, arr, t', hv, hb, h3, h4, h5, h6, rfl⟩
  · simp at h1
  simp only [Value.slice.injEq, Option.some.injEq, Addr.mk.injEq, and_true] at hv
  obtain ⟨⟨rfl, rfl⟩, rfl, rfl⟩ := hv
  obtain ⟨c1, c, c2, Bi, e1, e2, e3, e4, e5, e6, e7⟩ := DL.focus xs cells Bs j.toNat y h6 h2
  obtain ⟨u, Bf, f1, f2, f3, f4, f5⟩ := hF w c Bi e5
  have hc : w.cell? ⟨b, off + j.toNat * Rep.sz α + o, none⟩ = some u := by
    rw [Nat.add_assoc]
    refine h5 _ _ ?_
    rw [e1, ← e2, List.getElem?_append_right (by omega)]
    have : o < c.length := (List.getElem?_eq_some_iff.1 f1).1
    rw [List.getElem?_append_left (by omega)]
    rw [← f1]; congr 1; omega
  refine ⟨u, w, ?_, hh.set hi (Grow.refl w _) (by have := nodup_at (g := Fact.owns) hh.nd hi; exact this) (fun c hc => ⟨.inl hc, (hh.ge c (List.mem_flatMap.2 ⟨_, List.mem_of_getElem? hi, hc⟩)).2⟩) ?_, Grow.refl w _, .set hi (fun c hc => .inl hc)⟩
  · simp [execOp, hs.eval hx, Instr.loadAt, Instr.sureAddr, loadVar, tinf_agg ht, run_load, hc]
  · intro w' hw'
    refine ⟨hh.get i hi w' hw', ?_⟩
    have := hw' b (by simp)
    simpa [World.cell?, this] using hc
theorem run_mark {f : FuncId} {args : List Operand} {ats : Array TypeId} {vs : List Value} {a : Act} {d : Nat} (hs : Sat n ρ a) (hf : ∀ args w, (callFunc f args).run P w = .ok (.enter f args) w) (hargs : evL ρ args = some vs) :
    (execOp a.eval ⟨some d, .call ⟨.value (.func f), args.toArray, ats⟩, ty, pos, after, g⟩).run P w = .ok (.enter f vs.toArray) w := by
  simp [execOp, resolve, Act.eval, Deferred.ofValue, invoke, hs.evalL hargs, hf]
/-- A part that is a row is marked. -/
theorem JL_markc {α β : Type} [Rep α] [Rep β] {ops : Array Oper} {rest : List Oper} {d : Nat} {f : FuncId} {args : List Operand} {ats : Array TypeId} {b off cap len o : Nat} {xs : List α} {B : List Nat} {j k : Int} {y : α} {z : List β} {st : List β → α} {u : Value} {F : List β → Int → Option (Int × List β)} {r' : Int × List β} (i : Nat) (hM : MarkCon P f F) (hF : FC o y z st)
    (hw : Wants n ρ ops ⟨some d, .call ⟨.value (.func f), args.toArray, ats⟩, ty, pos, after, g⟩) (hd : Nat.blt d n = true)
    (hf : ∀ args w, (callFunc f args).run P w = .ok (.enter f args) w) (hargs : evL ρ args = some [u, .int .i64 k])
    (hi : Γ[i]? = some (.inv B (fun w => DS w (.slice (some ⟨b, off, none⟩) len cap) xs B ∧ w.cell? ⟨b, off + j.toNat * Rep.sz α + o, none⟩ = some u))) (hy : idx xs j = some y) (hr' : F z k = some r')
    (h : JL P n A w0 ops rest Q ((d, .int .i64 r'.1) :: ρ) (Γ.set i (mkr (.slice (some ⟨b, off, none⟩) len cap) (xs.set j.toNat (st r'.2)) B)) E) : JL P n A w0 ops (⟨some d, .call ⟨.value (.func f), args.toArray, ats⟩, ty, pos, after, g⟩ :: rest) Q ρ Γ E := by
  intro r hr a w hs hh
  obtain ⟨h0, h1, h2⟩ := idx_eq hy
  refine wpList_step fun K hK => ?_
  rw [hw a hs]
  simp only [if_true]
  unfold Oper.wp
  rw [run_mark hs hf hargs, Oper.upon_enter]
  have hnB : B.Nodup := nodup_at hh.nd hi
  obtain ⟨hds, hcell⟩ := hh.get i hi w (fun _ _ => rfl)
  rcases hds with ⟨rfl, _⟩ | ⟨b', off', cap', cells, Bs, arr, t', hv, hb, h3, h4, h5, h6, rfl⟩
  · simp at h1
  simp only [Value.slice.injEq, Option.some.injEq, Addr.mk.injEq, and_true] at hv
  obtain ⟨⟨rfl, rfl⟩, rfl, rfl⟩ := hv
  have hnBs := (List.nodup_cons.1 hnB).2
  have hbBs := (List.nodup_cons.1 hnB).1
  obtain ⟨c1, c, c2, Bi, e1, e2, e3, e4, e5, e6, e7⟩ := DL.focus xs cells Bs j.toNat y h6 h2
  obtain ⟨u', Bf, f1, f2, f3, f4, f5⟩ := hF w c Bi e5
  have hc : w.cell? ⟨b, off + j.toNat * Rep.sz α + o, none⟩ = some u' := by
    rw [Nat.add_assoc]
    refine h5 _ _ ?_
    rw [e1, ← e2, List.getElem?_append_right (by omega)]
    have : o < c.length := (List.getElem?_eq_some_iff.1 f1).1
    rw [List.getElem?_append_left (by omega)]
    rw [← f1]; congr 1; omega
  rw [hcell] at hc
  cases hc
  have hsub : ∀ k ∈ Bf, k ∈ b :: Bs := fun k hk => List.mem_cons_of_mem _ (e3 k (f4 k hk))
  refine (hM w u z Bf k r' f2 (f3 (e4 hnBs)) hr').mono ?_
  rintro e w' ⟨rfl, hd', hg⟩
  refine hK _ _ (h r hr _ _ (hs.put (by simpa [Nat.blt_eq] using hd)) ?_)
  have hgB : Grow w w' (b :: Bs) := ⟨hg.os, hg.tape, hg.output, hg.size, fun k hk hk' => hg.block k hk (fun hm => hk' (hsub k hm))⟩
  have hlt : ∀ k ∈ b :: Bs, k < w.heap.size := fun k hk => (hh.ge k (List.mem_flatMap.2 ⟨_, List.mem_of_getElem? hi, hk⟩)).2
  have hbf : b ∉ Bf := fun hm => hbBs (e3 b (f4 b hm))
  have hb' : w'.heap[b]? = w.heap[b]? := hg.block b (hlt b (by simp)) hbf
  have hnew : DS w' (.slice (some ⟨b, off, none⟩) xs.length cap) (xs.set j.toNat (st r'.2)) (b :: Bs) := by
    refine .inr ⟨b, off, cap, cells, Bs, arr, t', by simp, by rw [hb', hb], by simpa using h3, h4, h5.frame hb', ?_, rfl⟩
    have hdc := f5 w' r'.2 hd' (e4 hnBs) (fun k hk hkf => hg.block k (hlt k (List.mem_cons_of_mem _ (e3 k hk))) hkf)
    rw [e1]
    exact e7 w' c (st r'.2) hdc (fun k hk hki => hg.block k (hlt k (List.mem_cons_of_mem _ hk)) (fun hm => hki (f4 k hm))) hnBs
  refine hh.set hi hgB hnB (fun c hc => ⟨.inl hc, Nat.lt_of_lt_of_le (hlt c hc) hg.size⟩) ?_
  exact fun w2 hw2 => hnew.frame hw2
/-- A part that is a number is marked. -/
theorem sk_store_mk {α : Type} [Rep α] {x y : Operand} {t : TypeId} {b off cap len o : Nat} {xs : List α} {B : List Nat} {j k : Int} {y' : α} {st : Int → α} (i : Nat) (hF : FSt o y' st) (ht : tinf P t = some (1, false)) (hx : ev ρ x = some (.pointer (some ⟨b, off + j.toNat * Rep.sz α + o, none⟩))) (hy : ev ρ y = some (.int .i64 k))
    (hi : Γ[i]? = some (mkr (.slice (some ⟨b, off, none⟩) len cap) xs B)) (hj : idx xs j = some y') :
    Sk P n A w0 ρ Γ ⟨d, .store t x y, ty, pos, after, g⟩ (Γ.set i (mkr (.slice (some ⟨b, off, none⟩) len cap) (xs.set j.toNat (st k)) B)) [b] := by
  intro a w hs hh
  obtain ⟨h0, h1, h2⟩ := idx_eq hj
  have hnB : B.Nodup := nodup_at hh.nd hi
  have hds := hh.mkd i hi
  rcases hds with ⟨rfl, _⟩ | ⟨b', off', cap', cells, Bs, arr, t', hv, hb, h3, h4, h5, h6, rfl⟩
  · simp at h1
  simp only [Value.slice.injEq, Option.some.injEq, Addr.mk.injEq, and_true] at hv
  obtain ⟨⟨rfl, rfl⟩, rfl, rfl⟩ := hv
  have hnBs := (List.nodup_cons.1 hnB).2
  have hbBs := (List.nodup_cons.1 hnB).1
  obtain ⟨c1, c, c2, Bi, e1, e2, e3, e4, e5, e6, e7⟩ := DL.focus xs cells Bs j.toNat y' h6 h2
  obtain ⟨ho, hst⟩ := hF w c Bi e5
  have hcell : ∃ u0, cells[j.toNat * Rep.sz α + o]? = some u0 := by
    have : j.toNat * Rep.sz α + o < cells.length := by rw [e1]; simp; omega
    exact ⟨_, List.getElem?_eq_getElem this⟩
  obtain ⟨u0, hu0⟩ := hcell
  have hin : off + (j.toNat * Rep.sz α + o) < arr.size := by
    have := h5 _ _ hu0
    simp only [World.cell?, hb] at this
    exact (Array.getElem?_eq_some_iff.1 (by simpa using this)).1
  have hstr := run_storeCells_at P b (off + (j.toNat * Rep.sz α + o)) t' [.int .i64 k] 0 arr w hb (by simp only [List.length_singleton, Nat.add_zero]; omega) (by simp [Value.oneCell'])
  simp only [Nat.add_zero, List.length_singleton] at hstr
  have hlt : ∀ k ∈ b :: Bs, k < w.heap.size := fun k hk => (hh.ge k (List.mem_flatMap.2 ⟨_, List.mem_of_getElem? hi, hk⟩)).2
  generalize harr : (arr.toList.take (off + (j.toNat * Rep.sz α + o)) ++ [Value.int .i64 k] ++ arr.toList.drop (off + (j.toNat * Rep.sz α + o) + 1)).toArray = arr' at hstr
  have harr' : ∀ m, arr'[m]? = if m = off + (j.toNat * Rep.sz α + o) then some (.int .i64 k) else arr[m]? := by
    intro m
    rw [← harr]
    simp only [List.getElem?_toArray, List.append_assoc, List.singleton_append]
    have hl : (arr.toList.take (off + (j.toNat * Rep.sz α + o))).length = off + (j.toNat * Rep.sz α + o) := by simp; omega
    by_cases hm : m < off + (j.toNat * Rep.sz α + o)
    · rw [List.getElem?_append_left (by omega), if_neg (by omega), List.getElem?_take, if_pos hm]
      simp
    · rw [List.getElem?_append_right (by omega), hl]
      by_cases he : m = off + (j.toNat * Rep.sz α + o)
      · rw [if_pos he, he]; simp
      · rw [if_neg he, show m - (off + (j.toNat * Rep.sz α + o)) = (m - (off + (j.toNat * Rep.sz α + o)) - 1) + 1 by omega, List.getElem?_cons_succ, List.getElem?_drop]
        rw [show off + (j.toNat * Rep.sz α + o) + 1 + (m - (off + (j.toNat * Rep.sz α + o)) - 1) = m by omega]
        simp
  have hgb : Grow w (w.setRow b arr') [b] := ⟨rfl, rfl, rfl, by simp, fun k _ hk => setRow_other w b k _ (fun e => hk (by simp [e]))⟩
  refine ⟨w.setRow b arr', ?_, ?_, hgb, .set hi (fun c hc => .inl hc)⟩
  · simp only [execOp, hs.eval hx, hs.eval hy, Sem.run_bind, Instr.storeAt, Instr.sureAddr, storeVar, Sem.run_pure, Result.andThen_ok, tinf_size ht, Value.cells]
    rw [Nat.add_assoc]
    simp [hstr]
  · refine hh.set hi ⟨rfl, rfl, rfl, by simp, fun k hk hk' => hgb.block k hk (fun hm => hk' (by simp at hm; simp [Fact.owns, hm]))⟩ hnB (fun c hc => ⟨.inl hc, by simpa using hlt c hc⟩) ?_
    have hnew : DS (w.setRow b arr') (.slice (some ⟨b, off, none⟩) xs.length cap) (xs.set j.toNat (st k)) (b :: Bs) := by
      refine .inr ⟨b, off, cap, c1 ++ (c.set o (.int .i64 k) ++ c2), Bs, arr', t', by simp, setRow_heap w b arr _ t' _ hb, by simpa using h3, h4, ?_, ?_, rfl⟩
      · intro m u hm
        have hmc : (cells.set (j.toNat * Rep.sz α + o) (.int .i64 k))[m]? = some u := by
          rw [← hm, e1]
          rw [List.set_append_right _ _ (by omega), List.set_append_left _ _ (by omega)]
          congr 4
          omega
        rw [List.getElem?_set] at hmc
        have hgoal : (w.setRow b arr').cell? ⟨b, off + m, none⟩ = arr'[off + m]? := by simp [World.cell?, setRow_heap w b arr _ t' _ hb]
        rw [hgoal, harr']
        by_cases he : j.toNat * Rep.sz α + o = m
        · rw [if_pos he] at hmc
          split at hmc
          · rw [if_pos (by omega)]; simpa using hmc
          · simp at hmc
        · rw [if_neg he] at hmc
          rw [if_neg (by omega)]
          have := h5 m u hmc
          simpa [World.cell?, hb] using this
      · refine e7 _ _ _ (Rep.dcf (hst k) fun k hk => ?_) (fun k hk _ => ?_) hnBs
        · exact setRow_other w b k _ (fun e => hbBs (by rw [← e]; exact e3 k hk))
        · exact setRow_other w b k _ (fun e => hbBs (by rw [← e]; exact hk))
    exact fun w2 hw2 => hnew.frame hw2
end
end Go.Tc
