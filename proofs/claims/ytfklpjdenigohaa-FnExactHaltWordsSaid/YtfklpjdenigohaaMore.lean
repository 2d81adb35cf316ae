/-
  The calculus, further: tokens of a part, copies, rows opened among orders, a row changed twice among orders, parts of rows handed on. No condition.
-/
import Derived.Test.YtfklpjdenigohaaCall
import Derived.Laws.CopyRow
namespace Go.Tc
open Go Go.RowKit

section
variable {R : Type} {P : Program} {n : Nat} {A : Nat → Prop} {w0 w w' : World} {Q : R → Exit → Act → World → Prop} {ρ ρ' : Env} {Γ Γ' : Ctx} {E : Option R}
variable {d : Option Nat} {ty : TypeId} {pos : String} {after : Array Edge} {g : Option (Nat × Bool)}

/-- A row that lies in a row with tokens is taken out, with its tokens; the others are left. -/
theorem st_load_od_take {α : Type} [Rep α] {x : Operand} {t e : TypeId} {b cap len : Nat} {xs : List (List α)} {B : List Nat} {j : Int} {y : List α} (i : Nat) (ht : tinf P t = some (1, false)) (hx : ev ρ x = some (.pointer (some ⟨b, j.toNat * Rep.sz (List α), none⟩)))
    (hi : Γ[i]? = some (.od e (.slice (some ⟨b, 0, none⟩) len cap) xs B)) (hy : idx xs j = some y) :
    St P n A w0 ρ Γ ⟨d, .load t x, ty, pos, after, g⟩ (fun p : Value × List Nat => p.1) (fun p => .rd p.1 y :: .tkn p.1 y p.2 :: Γ.set i (.ow e (.slice (some ⟨b, 0, none⟩) len cap) xs)) [] := by
  intro a w hs hh
  have hli := (List.getElem?_eq_some_iff.1 hi).1
  obtain ⟨ts, e1, e2, e3, h1⟩ := hh.od_down i hi
  obtain ⟨h0, hlt, hy'⟩ := idx_eq hy
  have hjt : j.toNat < ts.length := by rw [← dats_length, e1]; exact hlt
  have hyt : idx ts j = some ts[j.toNat] := by
    unfold idx
    rw [if_neg (by omega), List.getElem?_eq_getElem hjt]
  have hty : ts[j.toNat].x = y := by
    have : (dats ts)[j.toNat]? = some y := by rw [e1]; exact hy'
    simpa [dats, hjt] using this
  obtain ⟨v, w', hrun, h2, h3, _⟩ := st_load_ow (α := Tk (List α)) (d := d) (ty := ty) (pos := pos) (after := after) (g := g) i ht hx (get_set hli) hyt a w hs h1
  obtain ⟨cs, hv, hdc, hav⟩ := h2.get 0 rfl
  rw [hty] at hdc
  have hsub : ∀ c ∈ ts[j.toNat].B, c ∈ B := fun c hc => e3 c (List.mem_flatMap.2 ⟨_, List.getElem_mem hjt, hc⟩)
  have hBt : ∀ c ∈ B, c ∈ Γ.toks := fun c hc => List.mem_flatMap.2 ⟨_, List.mem_of_getElem? hi, hc⟩
  have hnd : (ts[j.toNat].B).Nodup := by
    have key : ∀ (ts : List (Tk (List α))) (k : Nat) (hk : k < ts.length), (tks ts).Nodup → (ts[k].B).Nodup := by
      intro ts
      induction ts with
      | nil => intro k hk; simp at hk
      | cons t ts ih =>
        intro k hk hn
        simp only [tks, List.flatMap_cons, List.nodup_append] at hn
        cases k with
        | zero => exact hn.1
        | succ k => exact ih k (by simpa using hk) hn.2.1
    exact key ts _ hjt e2
  have h4 := (hh.grow h3).od_ow i hi
  have hDc : Dc w' v y ts[j.toNat].B := ⟨cs, hv, hdc⟩
  have h5 : SH A w0 w' (.tkn v y ts[j.toNat].B :: Γ.set i (.ow e (.slice (some ⟨b, 0, none⟩) len cap) xs)) := by
    refine h4.consT (Grow.refl w' []) (by simp [Fact.owns]) (by simp [Fact.owns]) ⟨⟨_, hDc, hnd, fun _ h => h⟩, fun c hc => ⟨hDc.lt c hc, ?_⟩⟩ ?_ (fun c hc => hh.tge c (hBt c (hsub c hc)))
    · have ho : Ctx.owns (Fact.tkn v y ts[j.toNat].B :: Γ.set i (.ow e (.slice (some ⟨b, 0, none⟩) len cap) xs)) = Γ.owns := by
        have h6 : Ctx.owns (Fact.tkn v y ts[j.toNat].B :: Γ.set i (.ow e (.slice (some ⟨b, 0, none⟩) len cap) xs)) = Ctx.owns (Γ.set i (.ow e (.slice (some ⟨b, 0, none⟩) len cap) xs)) := by simp [Ctx.owns, Fact.owns]
        rw [h6, owns_set_eq (f' := .ow e (.slice (some ⟨b, 0, none⟩) len cap) xs) hi rfl]
      rw [ho]
      rintro (hk | hk)
      · have := hh.av c hk
        have := hh.tge c (hBt c (hsub c hc))
        omega
      · exact (hh.tlt c (hBt c (hsub c hc))).2 hk
    · show (ts[j.toNat].B ++ Ctx.toks (Γ.set i (.ow e (.slice (some ⟨b, 0, none⟩) len cap) xs))).Nodup
      have p1 := toks_perm0 hi
      have p2 := toks_perm (f' := .ow e (.slice (some ⟨b, 0, none⟩) len cap) xs) hi
      simp only [Fact.toks, List.nil_append] at p1 p2
      have p3 := p2.append_left ts[j.toNat].B
      refine p3.nodup_iff.2 ?_
      have p4 := p1.nodup_iff.1 hh.tnd
      rw [List.nodup_append] at p4 ⊢
      exact ⟨hnd, p4.2.1, fun a ha b hb e => p4.2.2 a (hsub a ha) b hb e⟩
  refine ⟨(v, ts[j.toNat].B), w', hrun, h5.tkn_rd 0 rfl, h3, fun c hc => .inl ?_⟩
  have h6 : Ctx.owns (Fact.rd v y :: Fact.tkn v y ts[j.toNat].B :: Γ.set i (.ow e (.slice (some ⟨b, 0, none⟩) len cap) xs)) = Ctx.owns (Γ.set i (.ow e (.slice (some ⟨b, 0, none⟩) len cap) xs)) := by simp [Ctx.owns, Fact.owns]
  rw [h6, owns_set_eq (f' := .ow e (.slice (some ⟨b, 0, none⟩) len cap) xs) hi rfl] at hc
  exact hc

/-! ### copy -/
def cpy {α : Type} (xs ys : List α) : List α := ys.take (min xs.length ys.length) ++ xs.drop (min xs.length ys.length)
theorem cpy_length {α : Type} (xs ys : List α) : (cpy xs ys).length = xs.length := by simp [cpy]; omega
theorem st_copy {α : Type} [Rep α] {x y : Operand} {t e : TypeId} {ag : Bool} {v u : Value} {xs ys : List α} (i : Nat) (h1 : Rep.sz α = 1) (ht : P.underlying t = some (.slice e)) (he : tinf P e = some (1, ag)) (hx : ev ρ x = some v) (hy : ev ρ y = some u) (hi : Γ[i]? = some (.ow e v xs)) (hs' : ∀ w, SH A w0 w Γ → Src (fun k => A k ∨ k ∈ Γ.owns) w u ys) :
    St P n A w0 ρ Γ ⟨d, .call ⟨.builtin .copy, #[x, y], #[t, t]⟩, ty, pos, after, g⟩ (fun _ : Unit => .int .i64 ((min xs.length ys.length : Nat) : Int)) (fun _ => Γ.set i (.ow e v (cpy xs ys))) v.ownBlock.toList := by
  intro a w hs hh
  obtain ⟨cells, hown, hr⟩ := hh.get i hi
  have hsz : (P.info? e).map (·.size) = some 1 := by
    unfold tinf at he
    split at he
    · rename_i inf u' e1 e2
      simp at he
      simp [e1, he.1]
    · simp at he
  have hlx := RdL.length _ _ hr
  rw [h1, Nat.mul_one] at hlx
  have hsame : cpy xs ys = xs → ∀ w', w' = w → SH A w0 w' (Γ.set i (.ow e v (cpy xs ys))) := fun hc w' hw => by
    subst hw
    rw [hc, set_self hi]
    exact hh
  have hON : OwnNew Γ (Γ.set i (.ow e v (cpy xs ys))) w := .set hi (fun c hc => .inl hc)
  have hexec : (execOp a.eval ⟨d, .call ⟨.builtin .copy, #[x, y], #[t, t]⟩, ty, pos, after, g⟩).run P w = ((Builtin.copy_ #[t, t] ty #[v, u]).run P w).andThen fun r w' => .ok (.value r) w' := by
    simp [execOp, resolve, invoke, builtin, hs.eval hx, hs.eval hy]
  rw [show ((min xs.length ys.length : Nat) : Int) = ((min ys.length xs.length : Nat) : Int) by rw [Nat.min_comm]]
  rcases hs' w hh with ⟨rfl, rfl⟩ | ⟨ad, cap, news, rfl, hnc, hnews⟩
  · have hc : cpy xs [] = xs := by simp [cpy]
    refine ⟨(), w, ?_, hsame hc w rfl, Grow.refl w _, hON⟩
    rw [hexec]
    have hv : ∃ ad c, v = .slice ad xs.length c := by
      obtain ⟨_, hown⟩ := hown
      rcases hown with ⟨rfl, h0⟩ | ⟨gg, c, cur, rfl, _⟩
      · exact ⟨none, 0, by rw [h0]⟩
      · exact ⟨_, c, rfl⟩
    obtain ⟨ad, c, rfl⟩ := hv
    rw [run_copy_none w t t ty e ad none xs.length c 0 0 ht hsz (by simp)]
    simp [goInt]
  · have hln := RdL.length _ _ hnews
    rw [h1, Nat.mul_one] at hln
    obtain ⟨hl0, hown'⟩ := hown
    rcases hown' with ⟨rfl, h0⟩ | ⟨gg, c, cur, rfl, _, hg, hnc', hcm, hcs, htake⟩
    · have hx0 : xs = [] := List.eq_nil_of_length_eq_zero h0
      subst hx0
      have hc : cpy ([] : List α) ys = [] := by simp [cpy]
      refine ⟨(), w, ?_, hsame hc w rfl, Grow.refl w _, hON⟩
      rw [hexec, run_copy_none w t t ty e none (some ad) 0 0 ys.length cap ht hsz (by simp)]
      simp [goInt]
    · generalize hm : min ys.length xs.length = m
      have hnt : (news.take m).length = m := by rw [List.length_take]; omega
      have hfit : 0 + (news.take m).length ≤ cur.size := by rw [hnt, hcs, h1]; omega
      have hrun := run_copy_row (P := P) w t t ty e gg 0 xs.length c ad ys.length cap cur e (news.take m) ht hsz hg (by rw [hnt, ← hm]) (fun k v hk => hnc k v (by
          rw [List.getElem?_take] at hk
          split at hk
          · exact hk
          · simp at hk)) hfit (fun v hv => RdL.one _ _ hnews v (List.mem_of_mem_take hv))
      simp only [List.take_zero, List.nil_append, Nat.zero_add, hnt] at hrun
      refine ⟨(), w.setRow gg (news.take m ++ cur.toList.drop m).toArray, ?_, ?_, ⟨rfl, rfl, rfl, by simp, fun k _ hk => setRow_other w gg k _ (fun e => hk (by simp [Value.ownBlock, e]))⟩, hON⟩
      · rw [hexec, hrun]
        simp [goInt]
      · have hOe : Ctx.owns (Γ.set i (.ow e (.slice (some ⟨gg, 0, none⟩) xs.length c) (cpy xs ys))) = Γ.owns := owns_set_eq hi rfl
        have hgA : gg ∈ Γ.owns := List.mem_flatMap.2 ⟨_, List.mem_of_getElem? hi, by simp [Fact.owns, Value.ownBlock]⟩
        have hA : ∀ k, k < w.heap.size → ¬ (A k ∨ k ∈ Γ.owns) → (w.setRow gg (news.take m ++ cur.toList.drop m).toArray).heap[k]? = w.heap[k]? ∧ ¬ (A k ∨ k ∈ Γ.owns) := fun k hk hna => ⟨setRow_other w gg k _ (fun e => hna (.inr (e ▸ hgA))), hna⟩
        refine hh.set hi ⟨rfl, rfl, rfl, by simp, fun k _ hk => setRow_other w gg k _ (fun e => hk (by simp [Fact.owns, Value.ownBlock, e]))⟩ (by simp [Fact.owns, Value.ownBlock]) (fun k hk => ?_) ?_
        · simp [Fact.owns, Value.ownBlock] at hk
          subst hk
          exact ⟨.inl (by simp [Fact.owns, Value.ownBlock]), by simpa using lt_of_some hg⟩
        · rw [hOe]
          have hms : m ≤ xs.length := by omega
          have hcsz : cur.size = c := by rw [hcs, h1, Nat.mul_one]
          refine ⟨news.take m ++ cells.drop m, ⟨?_, .inr ⟨gg, c, _, ?_, Nat.zero_le _, setRow_heap w gg cur _ e _ hg, ?_, hcm, ?_, ?_⟩⟩, ?_⟩
          · rw [cpy_length, List.length_append, hnt, List.length_drop, hlx, h1]; omega
          · rw [cpy_length]
          · rw [cpy_length]; exact hnc'
          · simp only [List.size_toArray, List.length_append, hnt, List.length_drop, Array.length_toList]
            rw [hcsz, h1]; omega
          · rw [cpy_length, h1, Nat.mul_one] at *
            rw [← htake, List.take_append, hnt, List.take_of_length_le (by omega), List.drop_take]
          · have e1 : cpy xs ys = ys.take m ++ xs.drop m := by unfold cpy; rw [Nat.min_comm, hm]
            rw [e1]
            have t1 := RdL.take ys news m hnews
            have t2 := RdL.drop xs cells m hr
            rw [h1, Nat.mul_one] at t1 t2
            exact RdL.append _ _ _ _ (RdL.frame hA _ _ t1) (RdL.frame hA _ _ t2)

/-! ### nil, capacities, rows of zeros -/
theorem ex_cap_lit {x : Operand} {t e : TypeId} {m c : Nat} {ad : Option Addr} (ht : P.underlying t = some (.slice e)) (hx : ev ρ x = some (.slice ad m c)) : Ex P n A w0 ρ Γ ⟨d, .call ⟨.builtin .cap, #[x], #[t]⟩, ty, pos, after, g⟩ (.int .i64 (c : Int)) := by
  intro a w hs hh
  simp [execOp, resolve, invoke, builtin, hs.eval hx, Builtin.cap_, run_underlying ht, goInt]
theorem ex_slice_nil {x hi : Operand} {t e : TypeId} {ag : Bool} {s : Nat} (ht : P.underlying t = some (.slice e)) (he : tinf P e = some (s, ag)) (hx : ev ρ x = some (.slice none 0 0)) (hh' : ev ρ hi = some (.int .i64 0)) : Ex P n A w0 ρ Γ ⟨d, .slice t x none (some hi) none, ty, pos, after, g⟩ (.slice none 0 0) := by
  intro a w hs hh
  simp [execOp, hs.eval hx, hs.eval hh', Instr.sliceAt, Instr.slice, run_underlying ht, Instr.sliceBounds, Instr.sliceBound, asIntOf, tinf_size he]
/-- The begin of an own row: it is the row. -/
theorem st_slice_own {α : Type} [Rep α] {x : Operand} {t e : TypeId} {ag : Bool} {v : Value} {xs ys : List α} {hi : Operand} {h : Int} (i : Nat) (ht : P.underlying t = some (.slice e)) (he : tinf P e = some (Rep.sz α, ag)) (hx : ev ρ x = some v) (hhi : ev ρ hi = some (.int .i64 h))
    (hi' : Γ[i]? = some (.ow e v xs)) (hy : slc xs 0 h = some ys) : St P n A w0 ρ Γ ⟨d, .slice t x none (some hi) none, ty, pos, after, g⟩ (fun v' : Value => v') (fun v' => Γ.set i (.ow e v' ys)) [] := by
  intro a w hs hh
  obtain ⟨h0, h1, h2, rfl⟩ := slc_eq hy
  simp only [Int.toNat_zero, List.drop_zero]
  obtain ⟨cells, ⟨hl0, hown⟩, hr⟩ := hh.get i hi'
  have hlen : (xs.take h.toNat).length = h.toNat := by rw [List.length_take]; omega
  rcases hown with ⟨rfl, hz⟩ | ⟨gg, c, cur, rfl, hb, hg, hnc, hcm, hcs, htake⟩
  · have hx0 : xs = [] := List.eq_nil_of_length_eq_zero hz
    subst hx0
    simp at h2
    have hh0 : h = 0 := by omega
    subst hh0
    refine ⟨.slice none 0 0, w, ?_, ?_, Grow.refl w _, .set hi' (fun c hc => .inl hc)⟩
    · simp [execOp, hs.eval hx, hs.eval hhi, Instr.sliceAt, Instr.slice, run_underlying ht, Instr.sliceBounds, Instr.sliceBound, asIntOf, tinf_size he]
    · rw [List.take_nil, set_self hi']
      exact hh
  · refine ⟨.slice (some ⟨gg, 0, none⟩) h.toNat c, w, ?_, ?_, Grow.refl w _, .set hi' (fun c hc => .inl (by simpa [Fact.owns, Value.ownBlock] using hc))⟩
    · have hb2 : 0 ≤ h ∧ h ≤ (c : Int) := ⟨by omega, by omega⟩
      by_cases hc0 : c = 0
      · simp [execOp, hs.eval hx, hs.eval hhi, Instr.sliceAt, Instr.slice, run_underlying ht, Instr.sliceBounds, Instr.sliceBound, asIntOf, tinf_size he, Addr.add_lit, hb2, hc0]
        omega
      · simp [execOp, hs.eval hx, hs.eval hhi, Instr.sliceAt, Instr.slice, run_underlying ht, Instr.sliceBounds, Instr.sliceBound, asIntOf, tinf_size he, Addr.add_lit, hb2, hc0]
        try omega
    · have hOe : Ctx.owns (Γ.set i (.ow e (.slice (some ⟨gg, 0, none⟩) h.toNat c) (xs.take h.toNat))) = Γ.owns := owns_set_eq hi' rfl
      refine hh.set hi' (Grow.refl w _) (by simp [Fact.owns, Value.ownBlock]) (fun k hk => ⟨.inl (by simpa [Fact.owns, Value.ownBlock] using hk), ?_⟩) ?_
      · simp [Fact.owns, Value.ownBlock] at hk
        subst hk
        exact lt_of_some hg
      · rw [hOe]
        refine ⟨cells.take (h.toNat * Rep.sz α), ⟨?_, .inr ⟨gg, c, cur, by rw [hlen], hb, hg, by rw [hlen]; omega, hcm, hcs, ?_⟩⟩, RdL.take _ _ _ hr⟩
        · rw [hlen, List.length_take, hl0]
          have := Nat.mul_le_mul_right (Rep.sz α) (show h.toNat ≤ xs.length by omega)
          omega
        · rw [hlen, ← htake, List.take_take, Nat.min_eq_left (Nat.mul_le_mul_right _ (by omega))]
/-- A row of zeros, made by an append. -/
theorem st_zeros {α : Type} [Rep α] {x y : Operand} {t tn e : TypeId} {ag : Bool} {bytes : Nat} {zv : Value} {z : α} {k : Int} {xs : List α} (ht : P.underlying t = some (.slice e)) (htn : P.underlying tn = some (.int .i64)) (he : tinf P e = some (Rep.sz α, ag)) (hz : zinf P e = some zv) (hb : binf P e = some bytes) (hby : Nat.ble bytes 128 = true)
    (hzr : ∀ A w, ∃ zc : List Value, zv.cells = zc.toArray ∧ Rep.rdc A w zc z) (hx : ev ρ x = some (.slice none 0 0)) (hy : ev ρ y = some (.int .i64 k)) (hk0 : 0 < k) (hk : mke k z = some xs) :
    St P n A w0 ρ Γ ⟨d, .call ⟨.builtin .append, #[x, y], #[t, tn]⟩, ty, pos, after, g⟩ (fun v : Value => v) (fun v => .ow e v xs :: Γ) [] := by
  intro a w hs hh
  obtain ⟨h0, h1, rfl⟩ := mke_eq hk
  obtain ⟨inf, hinf, hz'⟩ := Option.bind_eq_some_iff.1 hz
  have hsz : inf.size = Rep.sz α := by
    have h1 := he
    unfold tinf at h1
    rw [hinf] at h1
    split at h1
    · rename_i i' u' e1 e2
      simp at e1 h1
      rw [e1]; exact h1.1
    · simp at h1
  have hbb : inf.bytes = bytes := by simpa [binf, hinf] using hb
  simp only [Nat.ble_eq] at hby
  obtain ⟨m, rfl⟩ := Int.eq_ofNat_of_zero_le h0
  simp only [Int.toNat_natCast] at hk h1 hy ⊢
  have hm0 : 0 < m := by omega
  have h48 : m * inf.bytes ≤ 281474976710656 := by
    rw [hbb]
    have := Nat.mul_le_mul (show m ≤ 1099511627776 by omega) hby
    omega
  have hrun := Go.Lib.run_append_nil_zeros (P := P) w t tn ty e inf zv .i64 .i64 ht htn hinf hz' m hm0 (by rw [hsz]; exact Rep.pos) (by omega) h48
  obtain ⟨zc, hzc, hzr⟩ := hzr (fun k' => A k' ∨ k' ∈ Ctx.owns (.ow e (.slice (some ⟨w.heap.size, 0, none⟩) m (grownCap w m 0 e)) (List.replicate m z) :: Γ)) w
  have hgc : m ≤ grownCap w m 0 e := grownCap_ge w _ _ _
  have hzl : zc.length = Rep.sz α := Rep.len hzr
  generalize hG : grownCap w m 0 e = G at hrun hgc hzr
  have hzs : zv.cells.size = Rep.sz α := by rw [hzc]; simpa using hzl
  have hcs : ∀ q, q < m * Rep.sz α → (Builtin.zeroCells zv.cells m ++ Builtin.zeroCells zv.cells (G - m))[q]? = (madeCells zc.toArray (m * Rep.sz α))[q]? := by
    intro q hq
    rw [Array.getElem?_append_left (by rw [size_zeroCells, hzs]; exact hq)]
    rw [hzc]
    simp [Builtin.zeroCells, madeCells, hzl, hq]
  refine ⟨.slice (some ⟨w.heap.size, 0, none⟩) m G, w.drew.alloc (.cells (Builtin.zeroCells zv.cells m ++ Builtin.zeroCells zv.cells (G - m)) e), ?_, ?_, (Grow.drew w []).trans (Grow.alloc w.drew _ []), .cons (by simp [Fact.owns, Value.ownBlock])⟩
  · simp [execOp, resolve, invoke, builtin, hs.eval hx, hs.eval hy, hrun]
  · have hhe : w.drew.heap.size = w.heap.size := rfl
    refine hh.drew.cons (Grow.alloc w.drew _ []) (by simp [Fact.owns, Value.ownBlock]) (by simp [Fact.owns, Value.ownBlock, hhe]) ?_
    refine ⟨(madeCells zc.toArray (m * Rep.sz α)).toList, ⟨?_, .inr ⟨w.heap.size, G, _, by simp, Nat.zero_le _, heap_alloc_new w.drew _, by simpa using hgc, ?_, ?_, ?_⟩⟩, ?_⟩
    · simp [size_madeCells]
    · have := grownCap_le_maxLen w m 0 e (by unfold maxLen; omega)
      rw [hG] at this
      exact this
    · simp only [Array.size_append, size_zeroCells, hzs]
      rw [← Nat.add_mul]; congr 1; omega
    · simp only [List.length_replicate]
      apply List.ext_getElem?
      intro q
      rw [List.getElem?_take]
      by_cases hq : q < m * Rep.sz α
      · rw [if_pos hq]
        have := hcs q hq
        rw [← Array.getElem?_toList, ← Array.getElem?_toList] at this
        exact this
      · rw [if_neg hq, List.getElem?_eq_none]
        simp [size_madeCells]; omega
    · refine RdL.frame ?_ _ _ (madeCells_rdL hzr m)
      intro k hk ha
      exact ⟨heap_alloc_old w.drew _ (by rw [hhe]; exact hk), ha⟩

/-! ### Parts of rows, handed on -/
/-- v', read as ys, is a part of v, read as xs. -/
def Sub {α : Type} [Rep α] (v : Value) (xs : List α) (v' : Value) (ys : List α) : Prop := (∀ w B, Dn w v xs B → Dn w v' ys B) ∧ ∀ A w, Rd A w v xs → Rd A w v' ys
theorem Sub.refl {α : Type} [Rep α] {v : Value} {xs : List α} : Sub v xs v xs := ⟨fun _ _ h => h, fun _ _ h => h⟩
theorem Sub.nil {α : Type} [Rep α] {v : Value} {xs : List α} : Sub v xs (.slice none 0 0) ([] : List α) := ⟨fun _ _ _ => dn_nil, fun _ _ _ => rdNil⟩
theorem Sub.trans {α : Type} [Rep α] {v v' v'' : Value} {xs ys zs : List α} (h : Sub v xs v' ys) (k : Sub v' ys v'' zs) : Sub v xs v'' zs := ⟨fun w B d => k.1 w B (h.1 w B d), fun A w r => k.2 A w (h.2 A w r)⟩
theorem DL.take {α : Type} [Rep α] {w : World} : ∀ (xs : List α) (cs : List Value) (B : List Nat) (k : Nat), DL w cs xs B → ∃ B', B'.Sublist B ∧ DL w (cs.take (k * Rep.sz α)) (xs.take k) B'
  | [], cs, B, k, h => ⟨[], List.nil_sublist _, by rw [h.1]; simp [DL]⟩
  | x :: r, cs, B, 0, h => ⟨[], List.nil_sublist _, by simp [DL]⟩
  | x :: r, cs, B, k + 1, ⟨c1, c2, B1, B2, e, eB, h1, h2⟩ => by
    subst e eB
    have l1 := Rep.len (Rep.dcr (A := nowhere) h1 fun _ _ h => h)
    obtain ⟨B', s', h'⟩ := DL.take r c2 B2 k h2
    refine ⟨B1 ++ B', List.Sublist.append (List.Sublist.refl _) s', c1, c2.take (k * Rep.sz α), B1, B', ?_, rfl, h1, h'⟩
    rw [show (k + 1) * Rep.sz α = c1.length + k * Rep.sz α by rw [Nat.add_mul, l1]; omega, List.take_length_add_append]
theorem DL.drop {α : Type} [Rep α] {w : World} : ∀ (xs : List α) (cs : List Value) (B : List Nat) (k : Nat), DL w cs xs B → ∃ B', B'.Sublist B ∧ DL w (cs.drop (k * Rep.sz α)) (xs.drop k) B'
  | [], cs, B, k, h => ⟨[], List.nil_sublist _, by rw [h.1]; simp [DL]⟩
  | x :: r, cs, B, 0, h => ⟨B, List.Sublist.refl _, by simpa using h⟩
  | x :: r, cs, B, k + 1, ⟨c1, c2, B1, B2, e, eB, h1, h2⟩ => by
    subst e eB
    have l1 := Rep.len (Rep.dcr (A := nowhere) h1 fun _ _ h => h)
    obtain ⟨B', s', h'⟩ := DL.drop r c2 B2 k h2
    refine ⟨B', s'.trans (List.sublist_append_right _ _), ?_⟩
    rw [show (k + 1) * Rep.sz α = c1.length + k * Rep.sz α by rw [Nat.add_mul, l1]; omega, List.drop_length_add_append]
    exact h'
/-- The value of a sub-slice. -/
def subv (s l h : Nat) : Value → Value
  | .slice ad _ cap => .slice (if cap = l then ad else ad.map (·.add (l * s))) (h - l) (cap - l)
  | v => v
theorem run_subv {t e : TypeId} {s len cap : Nat} {ag : Bool} {ad : Option Addr} {lo hi : Option Value} {l h : Int} (ht : P.underlying t = some (.slice e)) (he : tinf P e = some (s, ag)) (hlo : lo = none ∧ l = 0 ∨ lo = some (.int .i64 l)) (hhi : hi = none ∧ h = len ∨ hi = some (.int .i64 h)) (h0 : 0 ≤ l) (h1 : l ≤ h) (h2 : h ≤ len) (hc : len ≤ cap) :
    (Instr.sliceAt t (.slice ad len cap) lo hi none).run P w = .ok (subv s l.toNat h.toNat (.slice ad len cap)) w := by
  have hb2 : 0 ≤ h ∧ h ≤ (cap : Int) := ⟨by omega, by omega⟩
  have hb3 : 0 ≤ l ∧ l ≤ (len : Int) := ⟨h0, by omega⟩
  have hb4 : ¬ max h 0 < l := by omega
  have hb5 : l ≤ max h 0 := by omega
  rcases hlo with ⟨rfl, rfl⟩ | rfl <;> rcases hhi with ⟨rfl, rfl⟩ | rfl <;>
    simp [Instr.sliceAt, Instr.slice, run_underlying ht, Instr.sliceBounds, Instr.sliceBound, asIntOf, tinf_size he, subv, hb2, hb3, hb5]
theorem sub_subv {α : Type} [Rep α] {ad : Option Addr} {cap : Nat} {xs ys : List α} {l h : Int} (hy : slc xs l h = some ys) (hsp : ∀ a, ad = some a → a.spot = none) (hn : ad = none → cap = 0) (hcap : xs.length ≤ cap) (hcm : cap ≤ maxLen) : Sub (.slice ad xs.length cap) xs (subv (Rep.sz α) l.toNat h.toNat (.slice ad xs.length cap)) ys := by
  obtain ⟨h0, h1, h2, rfl⟩ := slc_eq hy
  have hlen : ((xs.take h.toNat).drop l.toNat).length = h.toNat - l.toNat := by simp; omega
  have hnone : ad = none → xs = [] ∧ l = 0 ∧ h = 0 := fun e => by
    have := hn e
    have : xs.length = 0 := by omega
    exact ⟨List.eq_nil_of_length_eq_zero this, by omega, by omega⟩
  refine ⟨fun w B hd => ?_, fun A w hr => ?_⟩
  · obtain ⟨B0, hdc, hnd, hsub⟩ := hd
    have hds := hdc.ds
    cases ad with
    | none =>
      obtain ⟨rfl, rfl, rfl⟩ := hnone rfl
      have := hn rfl
      subst this
      exact dn_nil
    | some a =>
      obtain ⟨b, off, sp⟩ := a
      have := hsp _ rfl
      simp only at this
      subst this
      rcases hds with ⟨rfl, rfl, _⟩ | ⟨b', off', cap', cells, Bs, arr, t, hv, hb, h3, h4, h5, h6, rfl⟩
      · simp at h2
        have : l = 0 := by omega
        have : h = 0 := by omega
        subst l h
        refine ⟨[], DS.dc (.inl ⟨by simp, rfl, _, cap, rfl, ?_, hcm⟩), by simp, by simp⟩
        split <;> simp
      · simp only [Value.slice.injEq, Option.some.injEq, Addr.mk.injEq, and_true] at hv
        obtain ⟨⟨rfl, rfl⟩, _, rfl⟩ := hv
        obtain ⟨B1, s1, d1⟩ := DL.take xs cells Bs h.toNat h6
        obtain ⟨B2, s2, d2⟩ := DL.drop _ _ B1 l.toNat d1
        have hs := s2.trans s1
        refine ⟨b :: B2, DS.dc (.inr ⟨b, if cap = l.toNat then off else off + l.toNat * Rep.sz α, cap - l.toNat, _, B2, arr, t, ?_, hb, ?_, ?_, ?_, d2, rfl⟩), hnd.sublist (hs.cons_cons b), fun c hc => hsub c ((hs.cons_cons b).subset hc)⟩
        · rw [hlen]
          simp only [subv]
          by_cases hc : cap = l.toNat <;> simp [hc, Addr.add_lit]
        · rw [hlen]; omega
        · omega
        · intro j u hj
          have hlt := (List.getElem?_eq_some_iff.1 hj).1
          simp at hlt
          by_cases hc : cap = l.toNat
          · exfalso
            have : h.toNat ≤ l.toNat := by omega
            have := Nat.mul_le_mul_right (Rep.sz α) this
            omega
          · rw [if_neg hc, Nat.add_assoc]
            refine h5 _ _ ?_
            rw [List.getElem?_drop, List.getElem?_take] at hj
            split at hj
            · exact hj
            · simp at hj
  · refine .mk_sl ?_
    rcases Rd.sl hr with ⟨rfl, _⟩ | ⟨b, off, cap', cells, hv, g1, g2, g3, g4, g5, g6⟩
    · simp at h2
      have : l = 0 := by omega
      have : h = 0 := by omega
      subst l h
      refine .inl ⟨by simp, _, cap, rfl, fun e => ?_, hcm⟩
      cases ad with
      | none => exact hn rfl
      | some a => split at e <;> simp at e
    · simp only [Value.slice.injEq] at hv
      obtain ⟨rfl, _, rfl⟩ := hv
      refine .inr ⟨b, if cap = l.toNat then off else off + l.toNat * Rep.sz α, cap - l.toNat, (cells.take (h.toNat * Rep.sz α)).drop (l.toNat * Rep.sz α), ?_, g1, g2, ?_, ?_, ?_, RdL.drop _ _ _ (RdL.take _ _ _ g6)⟩
      · rw [hlen]
        simp only [subv]
        by_cases hc : cap = l.toNat <;> simp [hc, Addr.add_lit]
      · rw [hlen]; omega
      · omega
      · intro j u hj
        have hlt := (List.getElem?_eq_some_iff.1 hj).1
        simp at hlt
        by_cases hc : cap = l.toNat
        · exfalso
          have : h.toNat ≤ l.toNat := by omega
          have := Nat.mul_le_mul_right (Rep.sz α) this
          omega
        · rw [if_neg hc, Nat.add_assoc]
          refine g5 _ _ ?_
          rw [List.getElem?_drop, List.getElem?_take] at hj
          split at hj
          · exact hj
          · simp at hj
/-- A sub-slice, and that it is a part. -/
theorem st_slice_sub {α : Type} [Rep α] {x : Operand} {t e : TypeId} {ag : Bool} {v : Value} {xs ys : List α} {lo hi : Option Operand} {l h : Int} (i : Nat) (ht : P.underlying t = some (.slice e)) (he : tinf P e = some (Rep.sz α, ag)) (hx : ev ρ x = some v) (hlo : bound ρ lo 0 = some l) (hhi : bound ρ hi xs.length = some h)
    (hi' : Γ[i]? = some (.rd v xs)) (hy : slc xs l h = some ys) : St P n A w0 ρ Γ ⟨d, .slice t x lo hi none, ty, pos, after, g⟩ (fun v' : Value => v') (fun v' => .rd v' ys :: .pr (Sub v xs v' ys) :: Γ) [] := by
  intro a w hs hh
  have hr := Rd.sl (hh.get i hi')
  have hv : ∃ ad cap, v = .slice ad xs.length cap ∧ (∀ a, ad = some a → xs = [] ∨ a.spot = none) ∧ (ad = none → cap = 0) ∧ xs.length ≤ cap ∧ cap ≤ maxLen := by
    rcases hr with ⟨rfl, ad, cap, rfl, hn, hcm⟩ | ⟨b, off, cap, cells, rfl, g1, g2, g3, g4, g5, g6⟩
    · exact ⟨ad, cap, rfl, fun _ _ => .inl rfl, hn, Nat.zero_le _, hcm⟩
    · exact ⟨_, cap, rfl, fun a e => by cases e; exact .inr rfl, by simp, g3, g4⟩
  obtain ⟨ad, cap, rfl, hsp, hn, hcap, hcm⟩ := hv
  obtain ⟨h0, h1, h2, _⟩ := slc_eq hy
  have hrun := run_subv (P := P) (w := w) (ad := ad) (cap := cap) ht he (bound_val hs hlo) (bound_val hs hhi) h0 h1 h2 hcap
  have hsub : Sub (.slice ad xs.length cap) xs (subv (Rep.sz α) l.toNat h.toNat (.slice ad xs.length cap)) ys := by
    by_cases hx0 : xs = []
    · subst hx0
      obtain ⟨_, _, _, rfl⟩ := slc_eq hy
      simp at h2
      have : l = 0 := by omega
      have : h = 0 := by omega
      subst l h
      simp only [List.take_nil, List.drop_nil]
      have hform : ∃ ad', subv (Rep.sz α) (Int.toNat 0) (Int.toNat 0) (.slice ad ([] : List α).length cap) = .slice ad' 0 cap ∧ (ad' = none → cap = 0) := by
        refine ⟨_, rfl, fun e => ?_⟩
        cases ad with
        | none => exact hn rfl
        | some a => split at e <;> simp at e
      obtain ⟨ad', he', hn'⟩ := hform
      rw [he']
      exact ⟨fun w B _ => ⟨[], DS.dc (.inl ⟨rfl, rfl, ad', cap, rfl, hn', hcm⟩), by simp, by simp⟩, fun A w _ => .mk_sl (.inl ⟨rfl, ad', cap, rfl, hn', hcm⟩)⟩
    · exact sub_subv hy (fun a e => (hsp a e).resolve_left hx0) hn hcap hcm
  refine ⟨subv (Rep.sz α) l.toNat h.toNat (.slice ad xs.length cap), w, ?_, ?_, Grow.refl w _, .plain rfl⟩
  · simp only [execOp, hs.eval hx, Option.map_none]
    simp [hrun]
  · have h3 : SH A w0 w (.pr (Sub (.slice ad xs.length cap) xs (subv (Rep.sz α) l.toNat h.toNat (.slice ad xs.length cap)) ys) :: Γ) := hh.cons (Grow.refl w []) (by simp [Fact.owns]) (by simp [Fact.owns]) hsub
    refine h3.cons_rd ?_
    have := hsub.2 _ w (hh.get i hi')
    simpa [Ctx.owns, Fact.owns] using this
theorem sq_slice_sub {α : Type} [Rep α] {x : Operand} {t e : TypeId} {ag : Bool} {v : Value} {xs ys : List α} {lo hi : Option Operand} {l h : Int} (i : Nat) (ht : P.underlying t = some (.slice e)) (he : tinf P e = some (Rep.sz α, ag)) (hx : ev ρ x = some v) (hlo : bound ρ lo 0 = some l) (hhi : bound ρ hi xs.length = some h)
    (hi' : Γ[i]? = some (.rd v xs)) (hy : slc xs l h = some ys) : Sq P n A w0 ρ Γ ⟨d, .slice t x lo hi none, ty, pos, after, g⟩ (fun v' : Value => v') (fun v' => [.rd v' ys, .pr (Sub v xs v' ys)] ++ Γ) := by
  intro a w hs hh
  obtain ⟨v1, hrun1, hh1⟩ := sq_slice (d := d) (ty := ty) (pos := pos) (after := after) (g := g) i ht he hx hlo hhi hi' hy a w hs hh
  obtain ⟨v2, w2, hrun2, hh2, _⟩ := st_slice_sub (d := d) (ty := ty) (pos := pos) (after := after) (g := g) i ht he hx hlo hhi hi' hy a w hs hh
  have h3 := hrun1 w (fun _ _ _ => rfl)
  rw [h3] at hrun2
  cases hrun2
  exact ⟨v1, hrun1, hh2⟩
/-- A sub-slice of an own row, only read while the row stays. -/
theorem st_slice_bor {α : Type} [Rep α] {x : Operand} {t e e' : TypeId} {ag : Bool} {v : Value} {xs ys : List α} {lo hi : Option Operand} {l h : Int} (i : Nat) (ht : P.underlying t = some (.slice e)) (he : tinf P e = some (Rep.sz α, ag)) (hx : ev ρ x = some v) (hlo : bound ρ lo 0 = some l) (hhi : bound ρ hi xs.length = some h)
    (hi' : Γ[i]? = some (.ow e' v xs)) (hy : slc xs l h = some ys) : St P n A w0 ρ Γ ⟨d, .slice t x lo hi none, ty, pos, after, g⟩ (fun v' : Value => v') (fun v' => [.pr (Sub v xs v' ys)] ++ Γ) [] := by
  intro a w hs hh
  have hf := hh.freeze i hi'
  obtain ⟨v', w', hrun, h1, h2, _⟩ := st_slice_sub (Γ := Γ.set i (.rd v xs)) (d := d) (ty := ty) (pos := pos) (after := after) (g := g) i ht he hx hlo hhi (get_set (List.getElem?_eq_some_iff.1 hi').1) hy a w hs hf
  exact ⟨v', w', hrun, (hh.grow h2).cons (Grow.refl w' []) (by simp [Fact.owns]) (by simp [Fact.owns]) (h1.get 1 rfl), h2, .plain rfl⟩
theorem SH.pr {p : Prop} (h : SH A w0 w Γ) (i : Nat) (hi : Γ[i]? = some (.pr p)) : p := h.get i hi
/-- The tokens go over to the part. -/
theorem SH.sub_tkn {α : Type} [Rep α] {v v' : Value} {xs ys : List α} {B : List Nat} (h : SH A w0 w Γ) (i : Nat) (hi : Γ[i]? = some (.tkn v xs B)) (hs : Sub v xs v' ys) : SH A w0 w (Γ.set i (.tkn v' ys B)) := by
  refine h.retell hi rfl (fun hk => ⟨hs.1 _ _ hk.1, hk.2⟩) ?_ (fun b hb => h.tge b (List.mem_flatMap.2 ⟨_, List.mem_of_getElem? hi, hb⟩))
  refine (toks_perm (f' := .tkn v' ys B) hi).nodup_iff.2 ?_
  exact (toks_perm0 hi).nodup_iff.1 h.tnd
theorem SH.sub_rd {α : Type} [Rep α] {v v' : Value} {xs ys : List α} (h : SH A w0 w Γ) (i : Nat) (hi : Γ[i]? = some (.rd v xs)) (hs : Sub v xs v' ys) : SH A w0 w (.rd v' ys :: Γ) := h.cons_rd (hs.2 _ _ (h.get i hi))
theorem SH.cons_pr {p : Prop} (h : SH A w0 w Γ) (hp : p) : SH A w0 w (.pr p :: Γ) := h.cons (Grow.refl w []) (by simp [Fact.owns]) (by simp [Fact.owns]) hp

/-! ### Among orders -/
section
variable {w1 : World} {Γ1 : Ctx} {ops : Array Oper} {O : List Nat} {fuel : Nat} {listed : Array Bool}
theorem JP_ow_open {α : Type} [Rep α] {e : TypeId} {v : Value} {xs : List α} {j : Int} {y : α} (i : Nat) (hi : Γ[i]? = some (.ow e v xs)) (hj : idx xs j = some y)
    (h : ∀ b cap, v = .slice (some ⟨b, 0, none⟩) xs.length cap → JP P n A w0 ops O fuel listed Q ρ Γ E) : JP P n A w0 ops O fuel listed Q ρ Γ E := by
  intro r hr a w hs hh
  obtain ⟨cells, ⟨_, hown⟩, _⟩ := hh.get i hi
  rcases hown with ⟨rfl, h0⟩ | ⟨gg, cap, cur, hv, _⟩
  · have := (idx_eq hj).2.1
    omega
  · exact h gg cap hv r hr a w hs hh
theorem JP_od_open {α : Type} [Rep α] {e : TypeId} {v : Value} {xs : List α} {B : List Nat} {j : Int} {y : α} (i : Nat) (hi : Γ[i]? = some (.od e v xs B)) (hj : idx xs j = some y)
    (h : ∀ b cap, v = .slice (some ⟨b, 0, none⟩) xs.length cap → JP P n A w0 ops O fuel listed Q ρ Γ E) : JP P n A w0 ops O fuel listed Q ρ Γ E := by
  intro r hr a w hs hh
  obtain ⟨⟨cells, B0, ⟨_, hown⟩, _⟩, _⟩ := hh.get i hi
  rcases hown with ⟨rfl, h0⟩ | ⟨gg, cap, cur, hv, _⟩
  · have := (idx_eq hj).2.1
    omega
  · exact h gg cap hv r hr a w hs hh
theorem JD_ow_open {α : Type} [Rep α] {e : TypeId} {v : Value} {xs : List α} {j : Int} {y : α} (i : Nat) (hi : Γ[i]? = some (.ow e v xs)) (hj : idx xs j = some y)
    (h : ∀ b cap, v = .slice (some ⟨b, 0, none⟩) xs.length cap → JD P n A w0 w1 Γ1 ops O fuel listed Q ρ Γ E) : JD P n A w0 w1 Γ1 ops O fuel listed Q ρ Γ E := by
  intro r hr a w hs hh hg hn
  obtain ⟨cells, ⟨_, hown⟩, _⟩ := hh.get i hi
  rcases hown with ⟨rfl, h0⟩ | ⟨gg, cap, cur, hv, _⟩
  · have := (idx_eq hj).2.1
    omega
  · exact h gg cap hv r hr a w hs hh hg hn
theorem JD_od_open {α : Type} [Rep α] {e : TypeId} {v : Value} {xs : List α} {B : List Nat} {j : Int} {y : α} (i : Nat) (hi : Γ[i]? = some (.od e v xs B)) (hj : idx xs j = some y)
    (h : ∀ b cap, v = .slice (some ⟨b, 0, none⟩) xs.length cap → JD P n A w0 w1 Γ1 ops O fuel listed Q ρ Γ E) : JD P n A w0 w1 Γ1 ops O fuel listed Q ρ Γ E := by
  intro r hr a w hs hh hg hn
  obtain ⟨⟨cells, B0, ⟨_, hown⟩, _⟩, _⟩ := hh.get i hi
  rcases hown with ⟨rfl, h0⟩ | ⟨gg, cap, cur, hv, _⟩
  · have := (idx_eq hj).2.1
    omega
  · exact h gg cap hv r hr a w hs hh hg hn
theorem sub_od {α : Type} [Rep α] {js : List Nat} {e : TypeId} {v : Value} {xs : List α} {B : List Nat} (m : Nat) (hm : (sel js Γ)[m]? = some (.od e v xs B)) : ∀ k ∈ v.ownBlock.toList, k ∈ (sel js Γ).owns := owns_sub m hm
theorem sub_owl {α : Type} [Rep α] {js : List Nat} {e : TypeId} {b len cap : Nat} {xs : List α} (m : Nat) (hm : (sel js Γ)[m]? = some (.ow e (.slice (some ⟨b, 0, none⟩) len cap) xs)) : ∀ k ∈ [b], k ∈ (sel js Γ).owns := owns_sub m hm
theorem sub_odl {α : Type} [Rep α] {js : List Nat} {e : TypeId} {b len cap : Nat} {xs : List α} {B : List Nat} (m : Nat) (hm : (sel js Γ)[m]? = some (.od e (.slice (some ⟨b, 0, none⟩) len cap) xs B)) : ∀ k ∈ [b], k ∈ (sel js Γ).owns := owns_sub m hm
/-- What a fact owns that took the place of one that the region changes: it is that one's, or new. -/
theorem own_twice {f : Fact} (m : Nat) (js is1 is2 : List Nat) (hm : Γ[m]? = some f) (hnd : ndup (m :: is2) = true) (hcov : (List.range Γ1.length).all (fun i => (js ++ is1).any (Nat.beq i)) = true) (hs : sel is1 Γ1 = sel is2 Γ) (hO : (sel js Γ1).owns = O)
    (hh : SH A w0 w Γ) (hon : OwnNew Γ1 Γ w1) : ∀ k ∈ f.owns, k ∈ O ∨ w1.heap.size ≤ k := by
  intro k hk
  have hkΓ : k ∈ Γ.owns := List.mem_flatMap.2 ⟨f, List.mem_of_getElem? hm, hk⟩
  rcases hon k hkΓ with h1 | h1
  · left
    obtain ⟨f1, hf1, hk1⟩ := List.mem_flatMap.1 h1
    obtain ⟨i, hi⟩ := List.mem_iff_getElem?.1 hf1
    have hlt := (List.getElem?_eq_some_iff.1 hi).1
    have := List.all_eq_true.1 hcov i (List.mem_range.2 hlt)
    rw [List.any_eq_true] at this
    obtain ⟨i', hi', e⟩ := this
    have e := Nat.eq_of_beq_eq_true e
    subst e
    have selmem : ∀ (is : List Nat), i ∈ is → k ∈ (sel is Γ1).owns := by
      intro is
      induction is with
      | nil => intro h; simp at h
      | cons q is ih =>
        intro h
        simp only [sel]
        rcases List.mem_cons.1 h with rfl | h
        · rw [hi]
          simp only [Ctx.owns, List.flatMap_cons, List.mem_append]
          exact .inl hk1
        · have := ih h
          cases hq : Γ1[q]? with
          | none => exact this
          | some f' =>
            simp only [Ctx.owns, List.flatMap_cons, List.mem_append]
            exact .inr this
    rcases List.mem_append.1 hi' with hi' | hi'
    · rw [← hO]
      exact selmem js hi'
    · have h2 := selmem is1 hi'
      rw [hs] at h2
      obtain ⟨m2, hm2, f2, hf2, hk2⟩ := sel_owns is2 Γ k h2
      simp only [ndup, Bool.and_eq_true, Bool.not_eq_true', List.any_eq_false] at hnd
      exact (nodup_two hh.nd hm hf2 (fun e => by subst e; exact hnd.1 m hm2 (Nat.beq_refl m)) hk hk2).elim
  · exact .inr h1
theorem Grow.more2 {w w' : World} {T : List Nat} (h1 : Grow w1 w O) (h2 : Grow w w' T) (hT : ∀ k ∈ T, k ∈ O ∨ w1.heap.size ≤ k) : Grow w1 w' O :=
  ⟨h2.os.trans h1.os, h2.tape.trans h1.tape, h2.output.trans h1.output, Nat.le_trans h1.size h2.size, fun k hk hs => (h2.block k (Nat.lt_of_lt_of_le hk h1.size) (fun hm => (hT k hm).elim hs (fun h => by omega))).trans (h1.block k hk hs)⟩
variable {ty : TypeId} {pos : String} {after : Array Edge} {g : Option (Nat × Bool)}
theorem JO_st2 {i d : Nat} {op : Op} {G : Type} {v : G → Value} {Γ' : G → Ctx} {f : Fact} (m : Nat) (js is1 is2 : List Nat) (hm : Γ[m]? = some f) (hnd : ndup (m :: is2) = true) (hcov : (List.range Γ1.length).all (fun i => (js ++ is1).any (Nat.beq i)) = true) (hsl : sel is1 Γ1 = sel is2 Γ) (hO : (sel js Γ1).owns = O)
    (hi : ops[i]? = some ⟨some d, op, ty, pos, after, g⟩) (hw : Wants n ρ ops ⟨some d, op, ty, pos, after, g⟩) (hd : Nat.blt d n = true) {T : List Nat} (hx : St P n A w0 ρ Γ ⟨some d, op, ty, pos, after, g⟩ v Γ' T) (hTf : ∀ k ∈ T, k ∈ f.owns)
    (h : ∀ x, JD P n A w0 w1 Γ1 ops O fuel (listed.setIfInBounds i true) Q ((d, v x) :: ρ) (Γ' x) E) : JO P n A w0 w1 Γ1 ops O fuel listed Q i ρ Γ E := by
  intro r hr' a w hsa hh hg hon
  obtain ⟨x, w', hrun, hh', hgr, hno⟩ := hx a w hsa hh
  have hT : ∀ k ∈ T, k ∈ O ∨ w1.heap.size ≤ k := fun k hk => own_twice m js is1 is2 hm hnd hcov hsl hO hh hon k (hTf k hk)
  unfold wpOp
  simp only [hi, hw a hsa, if_true]
  refine .inl ?_
  unfold Oper.wp
  rw [hrun, Oper.upon_value]
  exact ⟨hg.more2 hgr hT, h x r hr' _ _ (hsa.put (by simpa [Nat.blt_eq] using hd)) hh' (hg.more2 hgr hT) (hon.trans hg hno)⟩
theorem JO_sk2 {i : Nat} {op : Op} {f : Fact} (m : Nat) (js is1 is2 : List Nat) (hm : Γ[m]? = some f) (hnd : ndup (m :: is2) = true) (hcov : (List.range Γ1.length).all (fun i => (js ++ is1).any (Nat.beq i)) = true) (hsl : sel is1 Γ1 = sel is2 Γ) (hO : (sel js Γ1).owns = O)
    (hi : ops[i]? = some ⟨none, op, ty, pos, after, g⟩) (hw : Wants n ρ ops ⟨none, op, ty, pos, after, g⟩) {T : List Nat} (hx : Sk P n A w0 ρ Γ ⟨none, op, ty, pos, after, g⟩ Γ' T) (hTf : ∀ k ∈ T, k ∈ f.owns)
    (h : JD P n A w0 w1 Γ1 ops O fuel (listed.setIfInBounds i true) Q ρ Γ' E) : JO P n A w0 w1 Γ1 ops O fuel listed Q i ρ Γ E := by
  intro r hr' a w hsa hh hg hon
  obtain ⟨w', hrun, hh', hgr, hno⟩ := hx a w hsa hh
  have hT : ∀ k ∈ T, k ∈ O ∨ w1.heap.size ≤ k := fun k hk => own_twice m js is1 is2 hm hnd hcov hsl hO hh hon k (hTf k hk)
  unfold wpOp
  simp only [hi, hw a hsa, if_true]
  refine .inl ?_
  unfold Oper.wp
  rw [hrun, Oper.upon_skip]
  exact ⟨hg.more2 hgr hT, h r hr' _ _ hsa hh' (hg.more2 hgr hT) (hon.trans hg hno)⟩
end
end
end Go.Tc
