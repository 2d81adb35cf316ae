/-
  Rows as cells alone; functions that turn an own row round. No condition.
  Functions that store through what they are handed: boxes and rows of the caller's go in, and come back with what they hold then. No condition.
  Arrays of numbers inside boxes: parts of them copied, read and written at an index. No condition.
  Ranges over a map, in whatever order its entries come. No condition.
  Tokens that go over one by one: a row with tokens is read from its begin on, and what is taken out takes its tokens along. No condition.
  Own rows in full, their inner rows too; an element of such a row, opened and closed; tokens that become own rows again. No condition.
  Ranges over functions: the function that is ranged over and the rounds are walked in place. No condition.
  Bytes and parts of texts. No condition.
  Functions that strike elements out of an own row by a function value (slices.DeleteFunc). No condition.
  Interface values of known dynamic types: made, and their methods called. No condition.
  What strings.Builder does with memory: a pointer in a box held against itself, turned to unsafe.Pointer and back; the bytes of an own row as a text. No condition.
  Function values in boxes; calls of closures that store through what they have captured. No condition.
-/
import Derived.Test.YtafjflnnkdbmdaaMore
import Derived.Maps.RangeRun
import Derived.Lib.Builder
import Derived.Lib.UnsafeStr
import Derived.Lib.Join
namespace Go.Tc
open Go Go.RowKit

/-- A cell's value, as a datum. -/
structure Vc where
  v : Value
  one : v.oneCell' = true
instance : Rep Vc where
  sz := 1
  agg := false
  rdc _ _ cs x := cs = [x.v]
  len h := by subst h; rfl
  one := by
    intro A w cs x h c hc
    subst h
    simp at hc
    subst hc
    exact x.one
  pos := by decide
  single _ := rfl
  frame h _ := h
  dc _ cs x B := cs = [x.v] ∧ B = []
  dcf h _ := h
  dcr h _ := h.1
  dlt h b hb := by simp [h.2] at hb
  flat := true
  flt _ h := ⟨h, rfl⟩
theorem vcs_of : ∀ (cells : List Value), (∀ c ∈ cells, c.oneCell' = true) → ∃ vs : List Vc, vs.map Vc.v = cells
  | [], _ => ⟨[], rfl⟩
  | c :: r, h => by
    obtain ⟨vs, e⟩ := vcs_of r fun d hd => h d (by simp [hd])
    exact ⟨⟨c, h c (by simp)⟩ :: vs, by simp [e]⟩
theorem rdl_vc {A : Nat → Prop} {w : World} : ∀ (vs : List Vc), RdL A w (vs.map Vc.v) vs
  | [] => rfl
  | x :: r => ⟨[x.v], r.map Vc.v, rfl, rfl, rdl_vc r⟩
theorem rdl_vc_eq {A : Nat → Prop} {w : World} : ∀ (vs : List Vc) (cs : List Value), RdL A w cs vs → cs = vs.map Vc.v
  | [], _, h => h
  | x :: r, _, ⟨c1, c2, e, h1, h2⟩ => by
    have h1 : c1 = [x.v] := h1
    rw [e, h1, rdl_vc_eq r c2 h2]
    rfl
theorem RdL.rev {α : Type} [Rep α] {A : Nat → Prop} {w : World} (hs : Rep.sz α = 1) : ∀ (xs : List α) (cs : List Value), RdL A w cs xs → RdL A w cs.reverse xs.reverse
  | [], _, h => by simp [RdL] at h; simp [RdL, h]
  | x :: r, _, ⟨c1, c2, e, h1, h2⟩ => by
    have hl := Rep.len h1
    rw [hs] at hl
    match c1, hl with
    | [c], _ =>
      subst e
      rw [List.singleton_append, List.reverse_cons, List.reverse_cons]
      exact RdL.append _ _ _ _ (RdL.rev hs r c2 h2) ⟨[c], [], rfl, h1, rfl⟩
def rev {α : Type} (xs : List α) : Option (List α) := if xs.length ≤ 1099511627776 then some xs.reverse else none
/-- What a function that turns an own row round does. -/
def RevCon (P : Program) (f : FuncId) (e : TypeId) : Prop :=
  ∀ (w : World) (v : Value) (xs ys : List Vc), Ow (fun k => k ∈ v.ownBlock.toList) w e v xs → (∀ b ∈ v.ownBlock.toList, b < w.heap.size) → rev xs = some ys →
    Calls P f #[v] w fun r w' => r = .returned (.tuple #[]) ∧ Ow (fun k => k ∈ v.ownBlock.toList) w' e v ys ∧ Grow w w' v.ownBlock.toList
section
variable {R : Type} {P : Program} {n : Fr} {A : Nat → Prop} {w0 w w' : World} {Q : R → Exit → Act → World → Prop} {ρ ρ' : Env} {Γ Γ' : Ctx} {E : Option R}
variable {d : Option Nat} {ty : TypeId} {pos : String} {after : Array Edge} {g : Option (Nat × Bool)}
theorem RevCon.ow {f : FuncId} {e : TypeId} (hM : RevCon P f e) {α : Type} [Rep α] (hs : Rep.sz α = 1) {A : Nat → Prop} {w : World} {v : Value} {xs ys : List α} (h : Ow A w e v xs) (hA : ∀ b ∈ v.ownBlock.toList, A b) (hb : ∀ b ∈ v.ownBlock.toList, b < w.heap.size) (hr : rev xs = some ys) :
    Calls P f #[v] w fun r w' => r = .returned (.tuple #[]) ∧ Ow A w' e v ys ∧ Grow w w' v.ownBlock.toList := by
  obtain ⟨cells, h1, h2⟩ := h
  obtain ⟨vs, hvs⟩ := vcs_of cells (RdL.one _ _ h2)
  have hl := RdL.length _ _ h2
  rw [hs, Nat.mul_one] at hl
  have hvl : vs.length = xs.length := by rw [← hl, ← hvs, List.length_map]
  unfold rev at hr
  split at hr
  · rename_i hle
    have hO : Ow (fun k => k ∈ v.ownBlock.toList) w e v vs := ⟨cells, by rw [hvl]; rw [hs] at h1; exact h1, by rw [← hvs]; exact rdl_vc vs⟩
    refine (hM w v vs vs.reverse hO hb (by unfold rev; rw [hvl, if_pos hle])).mono ?_
    rintro r w' ⟨rfl, ⟨cells', h3, h4⟩, hg⟩
    refine ⟨rfl, ?_, hg⟩
    have e1 := rdl_vc_eq _ _ h4
    rw [List.map_reverse, hvs] at e1
    subst e1
    rw [← Option.some.inj hr]
    refine ⟨cells.reverse, ?_, RdL.frame (fun k hk hn => ⟨hg.block k hk (fun hm => hn (hA k hm)), hn⟩) _ _ (RdL.rev hs _ _ h2)⟩
    rw [List.length_reverse, ← hvl, hs]
    rw [List.length_reverse] at h3
    exact h3
  · simp at hr
end
end Go.Tc
namespace Go.Tc
open Go Go.RowKit

section
variable {R : Type} {P : Program} {n : Fr} {A : Nat → Prop} {w0 w w' : World} {Q : R → Exit → Act → World → Prop} {ρ ρ' : Env} {Γ Γ' Δ : Ctx} {E : Option R} {B : List Nat}
variable {d : Option Nat} {ty : TypeId} {pos : String} {after : Array Edge} {g : Option (Nat × Bool)}

/-- What is read, read apart from what is handed over. -/
theorem SH.apart {α : Type} [Rep α] {v : Value} {x : α} (h : SH A w0 w Γ) (is : List Nat) (hB : (Tc.sel is Γ).owns = B) (hr : Rd (fun k => A k ∨ k ∈ Γ.owns) w v x) : Rd (fun k => k ∈ B) w v x := by
  refine hr.weak fun k hk => .inr ?_
  rw [← hB] at hk
  obtain ⟨i, _, f, hf, hbf⟩ := sel_owns is Γ k hk
  exact List.mem_flatMap.2 ⟨f, List.mem_of_getElem? hf, hbf⟩

end
end Go.Tc
namespace Go.Tc
open Go Go.RowKit

/-- Numbers that stand in a box, one after the other. -/
def ints (os : List Int) : List Value := os.map (fun x => .int .i64 x)
theorem ints_length (os : List Int) : (ints os).length = os.length := by simp [ints]
/-- What stands there when a row has been copied over it. -/
def ovr (ys : List Int) : Nat → List Int → List Int
  | _, [] => []
  | j, o :: os => ys.getD j o :: ovr ys (j + 1) os
theorem ovr_eq (ys : List Int) : ∀ (os : List Int) (j : Nat), ovr ys j os = (ys.drop j).take os.length ++ os.drop (ys.length - j)
  | [], j => by simp [ovr]
  | o :: os, j => by
    rw [ovr, ovr_eq ys os (j + 1)]
    by_cases h : j < ys.length
    · rw [List.drop_eq_getElem_cons h, List.getD_eq_getElem?_getD, List.getElem?_eq_getElem h, List.length_cons, List.take_succ_cons, show ys.length - j = (ys.length - (j + 1)) + 1 by omega, List.drop_succ_cons]
      rfl
    · have e1 : ys.length - j = 0 := by omega
      have e2 : ys.length - (j + 1) = 0 := by omega
      rw [List.getD_eq_getElem?_getD, List.getElem?_eq_none (by omega), List.drop_eq_nil_of_le (by omega : ys.length ≤ j + 1), List.drop_eq_nil_of_le (by omega : ys.length ≤ j), e1, e2]
      simp
/-- What stands there when one of them has been written. -/
def setI (v j : Int) : Nat → List Int → List Int
  | _, [] => []
  | q, o :: os => (if j = (q : Int) then v else o) :: setI v j (q + 1) os
theorem setI_eq (v j : Int) : ∀ (os : List Int) (q : Nat), setI v j q os = if (q : Int) ≤ j then os.set (j.toNat - q) v else os
  | [], q => by simp [setI]
  | o :: os, q => by
    rw [setI, setI_eq v j os (q + 1)]
    by_cases h1 : j = (q : Int)
    · subst h1
      rw [if_pos rfl, if_neg (by omega), if_pos (by omega), Int.toNat_natCast, Nat.sub_self]
      rfl
    · rw [if_neg h1]
      by_cases h2 : (q : Int) ≤ j
      · rw [if_pos (by omega), if_pos h2, show j.toNat - q = (j.toNat - (q + 1)) + 1 by omega]
        rfl
      · rw [if_neg (by omega), if_neg h2]
section
variable {R : Type} {P : Program} {n : Fr} {A : Nat → Prop} {w0 : World} {Q : R → Exit → Act → World → Prop} {ρ ρ' : Env} {Γ Γ' : Ctx} {E : Option R}
variable {d : Option Nat} {ty : TypeId} {pos : String} {after : Array Edge} {g : Option (Nat × Bool)}
theorem ex_slice_bx {x : Operand} {t e : TypeId} {m s : Nat} {ag : Bool} {b off : Nat} (ht : P.underlying t = some (.array m e)) (he : tinf P e = some (s, ag)) (hx : ev ρ x = some (.pointer (some ⟨b, off, none⟩))) :
    Ex P n A w0 ρ Γ ⟨d, .slice t x none none none, ty, pos, after, g⟩ (.slice (some ⟨b, off, none⟩) m m) := by
  intro a w hs hh
  simp [execOp, hs.eval hx, Instr.sliceAt, Instr.sureAddr, Instr.sliceBounds, run_underlying ht, tinf_size he, Addr.add_lit]
theorem rdl_int {A : Nat → Prop} {w : World} : ∀ (xs : List Int) (cs : List Value), RdL A w cs xs → cs = ints xs
  | [], _, h => h
  | x :: r, _, ⟨c1, c2, e, h1, h2⟩ => by
    have h1 : c1 = [.int .i64 x] := h1
    rw [e, h1, rdl_int r c2 h2]
    rfl
theorem st_copy_bx {x y : Operand} {t e bt : TypeId} {ag : Bool} {b off : Nat} {m : Nat} {u : Value} {cs cs' : List Value} {ys : List Int} (os : List Int) (i : Nat) (ht : P.underlying t = some (.slice e)) (he : tinf P e = some (1, ag)) (hx : ev ρ x = some (.slice (some ⟨b, off, none⟩) m m)) (hy : ev ρ y = some u) (hi : Γ[i]? = some (.bx b bt cs))
    (hoff : Nat.ble off cs.length = true) (hos : (cs.drop off).take m = ints os) (hm : os.length = m) (hcs : cs.take off ++ ints (ovr ys 0 os) ++ cs.drop (off + m) = cs') (hs' : ∀ w, SH A w0 w Γ → Src (fun k => A k ∨ k ∈ Γ.owns) w u ys) :
    St P n A w0 ρ Γ ⟨d, .call ⟨.builtin .copy, #[x, y], #[t, t]⟩, ty, pos, after, g⟩ (fun _ : Unit => .int .i64 ((min m ys.length : Nat) : Int)) (fun _ => Γ.set i (.bx b bt cs')) [b] := by
  intro a w hs hh
  have hb : w.heap[b]? = some (.cells cs.toArray bt (0, 0)) := hh.get i hi
  have hsz : (P.info? e).map (·.size) = some 1 := by
    unfold tinf at he
    split at he
    · rename_i inf u' e1 e2
      simp at he
      simp [e1, he.1]
    · simp at he
  have hON : OwnNew Γ (Γ.set i (.bx b bt cs')) w := .set hi (fun c hc => .inl hc)
  rw [Nat.ble_eq] at hoff
  have hexec : (execOp a.eval ⟨d, .call ⟨.builtin .copy, #[x, y], #[t, t]⟩, ty, pos, after, g⟩).run P w = ((Builtin.copy_ #[t, t] ty #[.slice (some ⟨b, off, none⟩) m m, u]).run P w).andThen fun r w' => .ok (.value r) w' := by
    simp [execOp, resolve, invoke, builtin, hs.eval hx, hs.eval hy]
  have hlo : ((cs.drop off).take m).length = m := by rw [hos, ints_length, hm]
  rw [List.length_take, List.length_drop] at hlo
  have hdrop : cs.drop off = ints os ++ cs.drop (off + m) := by
    have := List.take_append_drop m (cs.drop off)
    rw [hos, List.drop_drop] at this
    exact this.symm
  rcases hs' w hh with ⟨rfl, rfl⟩ | ⟨ad, cap, news, rfl, hnc, hnews⟩
  · have e0 : cs' = cs := by
      rw [← hcs, ovr_eq]
      simp only [List.drop_nil, List.take_nil, List.nil_append, List.length_nil, Nat.zero_sub, List.drop_zero]
      rw [List.append_assoc, ← hdrop, List.take_append_drop]
    refine ⟨(), w, ?_, by rw [e0, set_self hi]; exact hh, Grow.refl w _, hON⟩
    rw [hexec, run_copy_none w t t ty e (some ⟨b, off, none⟩) none m m 0 0 ht hsz (by simp)]
    simp [goInt]
  · have hln := RdL.length _ _ hnews
    have hnv := rdl_int _ _ hnews
    have h1 : Rep.sz Int = 1 := rfl
    rw [h1, Nat.mul_one] at hln
    generalize hq : min ys.length m = q at *
    have hnt : (news.take q).length = q := by rw [List.length_take]; omega
    have hrun := run_copy_row (P := P) w t t ty e b off m m ad ys.length cap cs.toArray bt (news.take q) ht hsz hb (by rw [hnt]; exact hq.symm) (fun k v hk => hnc k v (by
        rw [List.getElem?_take] at hk
        split at hk
        · exact hk
        · simp at hk)) (by rw [hnt, List.size_toArray]; omega) (fun v hv => RdL.one _ _ hnews v (List.mem_of_mem_take hv))
    simp only [hnt] at hrun
    have e1 : cs.take off ++ news.take q ++ cs.drop (off + q) = cs' := by
      rw [← hcs, ovr_eq, ← List.drop_drop, hdrop, List.drop_append_of_le_length (by rw [ints_length]; omega), hnv]
      have : ints ((ys.drop 0).take os.length ++ os.drop (ys.length - 0)) = (ints ys).take q ++ (ints os).drop q := by
        unfold ints
        rw [List.map_append, List.map_take, List.map_drop, List.drop_zero, Nat.sub_zero]
        congr 1
        · by_cases hc : os.length ≤ ys.length
          · rw [show q = os.length by omega]
          · rw [List.take_of_length_le (by simp; omega), List.take_of_length_le (by simp; omega)]
        · by_cases hc : ys.length ≤ os.length
          · rw [show q = ys.length by omega]
            simp
          · rw [List.drop_eq_nil_of_le (by omega), List.drop_eq_nil_of_le (by simp; omega)]
            rfl
      rw [this]
      simp only [List.append_assoc]
    refine ⟨(), w.setRow b cs'.toArray, ?_, ?_, ⟨rfl, rfl, rfl, by simp, fun k _ hk => setRow_other w b k _ (fun e => hk (by simp [e]))⟩, hON⟩
    · rw [hexec, hrun, e1, Nat.min_comm, hq]
      simp [goInt]
    · refine hh.set hi ⟨rfl, rfl, rfl, by simp, fun k _ hk => setRow_other w b k _ (fun e => hk (by simp [Fact.owns, e]))⟩ (by simp [Fact.owns]) (fun c hc => ?_) ?_
      · simp [Fact.owns] at hc
        subst hc
        exact ⟨.inl (by simp [Fact.owns]), by simpa using lt_of_some hb⟩
      · exact setRow_heap w b _ _ _ _ hb
theorem ex_index_bx {x ix : Operand} {t e : TypeId} {k : IntKind} {m : Nat} {ag : Bool} {b off : Nat} {os : List Int} {j y : Int} (ht : P.underlying t = some (.array m e)) (he : tinf P e = some (1, ag)) (hx : ev ρ x = some (.pointer (some ⟨b, off, none⟩))) (hix : ev ρ ix = some (.int k j)) (hm : os.length = m) (hy : idx os j = some y) :
    Ex P n A w0 ρ Γ ⟨d, .indexAddr t x ix, ty, pos, after, g⟩ (.pointer (some ⟨b, off + j.toNat, none⟩)) := by
  intro a w hs hh
  obtain ⟨h0, h1, h2⟩ := idx_eq hy
  have hb : 0 ≤ j ∧ j < (m : Int) := ⟨by omega, by omega⟩
  simp [execOp, hs.eval hx, hs.eval hix, Instr.indexAt, Instr.sureAddr, asIntOf, run_underlying ht, hb, tinf_size he, Addr.add_lit]
theorem ex_load_bi {x : Operand} {t bt : TypeId} {b off : Nat} {cs : List Value} {j y : Int} (os : List Int) (i : Nat) (ht : tinf P t = some (1, false)) (hx : ev ρ x = some (.pointer (some ⟨b, off + j.toNat, none⟩))) (hi : Γ[i]? = some (.bx b bt cs)) (hos : (cs.drop off).take os.length = ints os) (hy : idx os j = some y) :
    Ex P n A w0 ρ Γ ⟨d, .load t x, ty, pos, after, g⟩ (.int .i64 y) := by
  refine ex_load_bx i ht hx hi ?_
  obtain ⟨h0, h1, h2⟩ := idx_eq hy
  have : (ints os)[j.toNat]? = some (.int .i64 y) := by simp [ints, h2]
  rw [← hos, List.getElem?_take, if_pos (by omega), List.getElem?_drop] at this
  exact this
theorem sk_store_bi {x y : Operand} {t bt : TypeId} {b off : Nat} {cs cs' : List Value} {j v y0 : Int} (os : List Int) (i : Nat) (ht : tinf P t = some (1, false)) (hx : ev ρ x = some (.pointer (some ⟨b, off + j.toNat, none⟩))) (hv : ev ρ y = some (.int .i64 v)) (hi : Γ[i]? = some (.bx b bt cs)) (hos : (cs.drop off).take os.length = ints os) (hy : idx os j = some y0)
    (hcs : cs.take off ++ ints (setI v j 0 os) ++ cs.drop (off + os.length) = cs') :
    Sk P n A w0 ρ Γ ⟨d, .store t x y, ty, pos, after, g⟩ (Γ.set i (.bx b bt cs')) [b] := by
  obtain ⟨h0, h1, h2⟩ := idx_eq hy
  have hlo : ((cs.drop off).take os.length).length = os.length := by rw [hos, ints_length]
  rw [List.length_take, List.length_drop] at hlo
  have hdrop : cs.drop off = ints os ++ cs.drop (off + os.length) := by
    have := List.take_append_drop os.length (cs.drop off)
    rw [hos, List.drop_drop] at this
    exact this.symm
  refine sk_store_bx (P := P) (cs' := cs') i ht hx hv (vs := [.int .i64 v]) rfl rfl rfl hi (by simp [Nat.ble_eq]; omega) ?_ rfl
  rw [← hcs, setI_eq, if_pos (by omega), Nat.sub_zero]
  have e1 : ints (os.set j.toNat v) = (ints os).take j.toNat ++ [.int .i64 v] ++ (ints os).drop (j.toNat + 1) := by
    unfold ints
    rw [List.map_set, List.set_eq_take_append_cons_drop, if_pos (by simp; omega)]
    simp
  rw [e1, List.take_add, hdrop, List.take_append_of_le_length (by rw [ints_length]; omega), List.length_singleton, ← List.drop_drop, ← List.drop_drop, hdrop]
  rw [List.drop_append_of_le_length (by rw [ints_length]; omega), List.drop_append_of_le_length (by simp [ints]; omega), List.drop_drop]
  simp only [List.append_assoc]
end
/-! ### Keys with arrays of numbers in them -/
section
variable {P : Program} {w : World}
theorem run_part_one {e : TypeId} (h : tinf P e = some (1, false)) {cs : Array Value} {i : Nat} {v : Value} (hv : cs[i]? = some v) : (part e cs i).run P w = .ok v w := by
  simp [part, tinf_agg h, hv]
theorem run_checkKey_arr' (em : Bool) (n : Nat) (t e : TypeId) (len : Nat) (cs : Array Value) (ht : P.underlying t = some (.array len e)) (hs : tinf P e = some (1, false)) (hl : cs.size = len) (hin : ∀ (w : World) (v : Value), (Instr.checkKey em n e v).run P w = .ok () w) :
    (Instr.checkKey em (n + 1) t (.agg cs)).run P w = .ok () w := by
  simp only [Instr.checkKey, Sem.run_bind, run_underlying ht, Result.andThen_ok]
  simp only [Std.Legacy.Range.forIn_eq_forIn_range', Std.Legacy.Range.size, Nat.sub_zero, Nat.add_one_sub_one, Nat.div_one]
  have hb : ∀ i ∈ List.range' 0 len 1, i < cs.size := fun i hi => by
    have := List.mem_range'.1 hi
    obtain ⟨k, hk, rfl⟩ := this
    omega
  revert hb
  generalize List.range' 0 len 1 = is
  intro hb
  induction is with
  | nil => simp
  | cons i is ih =>
    have hi := hb i (by simp)
    have hv : cs[i * 1]? = some (cs[i]'hi) := by simp [Array.getElem?_eq_getElem hi]
    simp only [List.forIn_cons, Sem.run_bind, tinf_size hs, Result.andThen_ok, run_part_one (w := w) hs hv, hin, Sem.run_pure]
    exact ih (fun j hj => hb j (by simp [hj]))
theorem run_checkKey_arr (em : Bool) (n : Nat) (t e : TypeId) (len : Nat) (cs : Array Value) (ht : P.underlying t = some (.array len e)) (he : P.underlying e = some (.int .i64)) (hs : tinf P e = some (1, false)) (hl : cs.size = len) :
    (Instr.checkKey em (n + 2) t (.agg cs)).run P w = .ok () w := run_checkKey_arr' em (n + 1) t e len cs ht hs hl fun w v => by simp [Instr.checkKey, run_underlying he]
theorem run_equal_arr3' (d : Nat) (t e : TypeId) (a0 a1 a2 b0 b1 b2 : Int) (ht : P.underlying t = some (.array 3 e)) (hs : tinf P e = some (1, false)) (hq : ∀ (w : World) (x y : Int), (Op.equalIn d e (.int .i64 x) (.int .i64 y)).run P w = .ok (x == y) w) :
    (Op.equalIn (d + 1) t (.agg #[.int .i64 a0, .int .i64 a1, .int .i64 a2]) (.agg #[.int .i64 b0, .int .i64 b1, .int .i64 b2])).run P w = .ok (a0 == b0 && (a1 == b1 && a2 == b2)) w := by
  have hz : ∀ w : World, (sizeOf e).run P w = .ok 1 w := fun w => by simp [tinf_size hs]
  have hp : ∀ (w : World) (x0 x1 x2 : Int), (part e #[.int .i64 x0, .int .i64 x1, .int .i64 x2] 0).run P w = .ok (.int .i64 x0) w ∧ (part e #[.int .i64 x0, .int .i64 x1, .int .i64 x2] 1).run P w = .ok (.int .i64 x1) w ∧ (part e #[.int .i64 x0, .int .i64 x1, .int .i64 x2] 2).run P w = .ok (.int .i64 x2) w := fun w x0 x1 x2 => ⟨run_part_one hs rfl, run_part_one hs rfl, run_part_one hs rfl⟩
  simp only [Op.equalIn, Sem.run_bind, run_underlying ht, Result.andThen_ok, hz]
  simp only [Std.Legacy.Range.forIn_eq_forIn_range', Std.Legacy.Range.size, Nat.sub_zero, Nat.add_one_sub_one, Nat.div_one]
  rw [show List.range' 0 3 1 = [0, 1, 2] from rfl]
  simp only [List.forIn_cons, List.forIn_nil, Sem.run_bind, Nat.zero_mul, Nat.one_mul, Nat.mul_one, (hp _ _ _ _).1, (hp _ _ _ _).2.1, (hp _ _ _ _).2.2, Result.andThen_ok, hq]
  cases h0 : a0 == b0 <;> cases h1 : a1 == b1 <;> cases h2 : a2 == b2 <;> simp [hp, hq, h0, h1, h2]
theorem run_equal_arr3 (d : Nat) (t e : TypeId) (a0 a1 a2 b0 b1 b2 : Int) (ht : P.underlying t = some (.array 3 e)) (he : P.underlying e = some (.int .i64)) (hs : tinf P e = some (1, false)) :
    (Op.equalIn (d + 2) t (.agg #[.int .i64 a0, .int .i64 a1, .int .i64 a2]) (.agg #[.int .i64 b0, .int .i64 b1, .int .i64 b2])).run P w = .ok (a0 == b0 && (a1 == b1 && a2 == b2)) w :=
  run_equal_arr3' (d + 1) t e a0 a1 a2 b0 b1 b2 ht hs fun w x y => by simp [Op.equalIn, run_underlying he]
end
end Go.Tc
namespace Go.Tc
open Go Go.RowKit

/-! ### Plain -/
section
variable {α S R0 : Type}
open Classical in
end

/-! ### The iterator -/
section
variable {R R0 S G : Type} {P : Program} {n : Fr} {A : Nat → Prop} {w0 w w' : World} {Q : R → Exit → Act → World → Prop} {ρ ρ' : Env} {Γ Γ' : Ctx} {E : Option R}
variable {ty : TypeId} {pos : String} {after : Array Edge} {g : Option (Nat × Bool)}
variable {κ ν : Type} {enc : κ → Value} {venc : ν → Value}
/-- What is known of a map's entries. -/
def Ents (enc : κ → Value) (venc : ν → Value) (m : List (κ × ν)) (es : Array MapEntry) (clock : Nat) : Prop :=
  es.toList.map (fun e => (e.key, e.val)) = m.map (fun p => (enc p.1, venc p.2)) ∧ Stamps es clock
theorem Ents.len {m : List (κ × ν)} {es : Array MapEntry} {clock : Nat} (h : Ents enc venc m es clock) : es.toList.length = m.length := by
  have := congrArg List.length h.1
  simpa using this
end
end Go.Tc
namespace Go.Tc
open Go Go.RowKit

section
variable {α : Type}
end
section
variable {R : Type} {P : Program} {n : Fr} {A : Nat → Prop} {w0 w w' : World} {Q : R → Exit → Act → World → Prop} {ρ ρ' : Env} {Γ Γ' : Ctx} {E : Option R}
variable {d : Option Nat} {ty : TypeId} {pos : String} {after : Array Edge} {g : Option (Nat × Bool)}
end
end Go.Tc
namespace Go.Tc
open Go Go.RowKit

section
variable {A : Nat → Prop} {w0 w w' : World} {Γ Γ' Δ : Ctx} {B : List Nat}
theorem DL.split {α : Type} [Rep α] {w : World} : ∀ (xs : List α) (cs : List Value) (B : List Nat) (k : Nat) (y : α), DL w cs xs B → xs[k]? = some y →
    ∃ c1 c c2 B1 Bi B2, cs = c1 ++ (c ++ c2) ∧ B = B1 ++ (Bi ++ B2) ∧ c1.length = k * Rep.sz α ∧ DL w c1 (xs.take k) B1 ∧ Rep.dc w c y Bi ∧ DL w c2 (xs.drop (k + 1)) B2
  | [], _, _, k, y, _, hk => by simp at hk
  | x :: r, _, _, 0, y, ⟨c1, c2, B1, B2, e, eB, h1, h2⟩, hk => by
    simp at hk
    subst hk e eB
    exact ⟨[], c1, c2, [], B1, B2, rfl, rfl, by simp, ⟨rfl, rfl⟩, h1, h2⟩
  | x :: r, _, _, k + 1, y, ⟨c1, c2, B1, B2, e, eB, h1, h2⟩, hk => by
    subst e eB
    obtain ⟨d1, d, d2, C1, Ci, C2, e1, e2, e3, e4, e5, e6⟩ := DL.split r c2 B2 k y h2 (by simpa using hk)
    have hl := Rep.len (Rep.dcr (A := nowhere) h1 fun _ _ h => h)
    refine ⟨c1 ++ d1, d, d2, B1 ++ C1, Ci, C2, by rw [e1]; simp, by rw [e2]; simp, by rw [List.length_append, hl, e3, Nat.add_mul]; omega, ⟨c1, d1, B1, C1, rfl, rfl, h1, e4⟩, e5, e6⟩
/-- The elements beside one. -/
def HR {α : Type} [Rep α] (o cap : Nat) (xs : List α) (k : Nat) (L1 L2 : List Value) (B1 B2 : List Nat) (w : World) : Prop :=
  ∃ p c1 c2 q, L1 = p ++ c1 ∧ L2 = c2 ++ q ∧ p.length = o ∧ DL w c1 (xs.take k) B1 ∧ DL w c2 (xs.drop (k + 1)) B2 ∧ xs.length ≤ cap ∧ cap ≤ maxLen
theorem HR.frame {α : Type} [Rep α] {o cap : Nat} {xs : List α} {k : Nat} {L1 L2 : List Value} {B1 B2 : List Nat} (h : HR o cap xs k L1 L2 B1 B2 w) (hf : ∀ b ∈ B1 ++ B2, w'.heap[b]? = w.heap[b]?) : HR o cap xs k L1 L2 B1 B2 w' := by
  obtain ⟨p, c1, c2, q, e1, e2, e3, h1, h2, h3, h4⟩ := h
  exact ⟨p, c1, c2, q, e1, e2, e3, DL.frame _ _ _ h1 fun b hb => hf b (by simp [hb]), DL.frame _ _ _ h2 fun b hb => hf b (by simp [hb]), h3, h4⟩
end
section
variable {R : Type} {P : Program} {n : Fr} {A : Nat → Prop} {w0 w w' : World} {Q : R → Exit → Act → World → Prop} {ρ ρ' : Env} {Γ Γ' : Ctx} {E : Option R} {B : List Nat}
variable {d : Option Nat} {ty : TypeId} {pos : String} {after : Array Edge} {g : Option (Nat × Bool)}
end
end Go.Tc
namespace Go.Tc
open Go Go.RowKit

section
variable {R : Type} {P : Program} {n nc : Fr} {A : Nat → Prop} {w0 w w' : World} {Q : R → Exit → Act → World → Prop} {ρ ρ' ρc : Env} {Γ Γ' : Ctx} {E : Option R}
variable {d : Option Nat} {ty : TypeId} {pos : String} {after : Array Edge} {g : Option (Nat × Bool)}

end
end Go.Tc
namespace Go.Tc
open Go Go.RowKit

section
variable {R : Type} {P : Program} {n : Fr} {A : Nat → Prop} {w0 w : World} {Q : R → Exit → Act → World → Prop} {ρ ρ' : Env} {Γ Γ' : Ctx} {E : Option R}
variable {d : Option Nat} {ty : TypeId} {pos : String} {after : Array Edge} {g : Option (Nat × Bool)}
end
end Go.Tc
namespace Go.Tc
open Go Go.RowKit

section
variable {R : Type} {P : Program} {n : Fr} {A : Nat → Prop} {w0 w w1 w' : World} {Q : R → Exit → Act → World → Prop} {ρ ρ' : Env} {Γ Γ' : Ctx} {E : Option R}
variable {d : Option Nat} {ty : TypeId} {pos : String} {after : Array Edge} {g : Option (Nat × Bool)}
end
section
variable {R : Type} {P : Program} {n : Fr} {A : Nat → Prop} {w0 w1 : World} {Q : R → Exit → Act → World → Prop} {ρ ρ' : Env} {Γ Γ' Γ1 : Ctx} {E : Option R} {ops : Array Oper} {O : List Nat} {fuel : Nat} {listed : Array Bool}
end
end Go.Tc
namespace Go.Tc
open Go Go.RowKit
section
variable {R : Type} {P : Program} {n : Fr} {A : Nat → Prop} {w0 w w1 w' : World} {Q : R → Exit → Act → World → Prop} {ρ ρ' : Env} {Γ Γ' : Ctx} {E : Option R}
variable {d : Option Nat} {ty : TypeId} {pos : String} {after : Array Edge} {g : Option (Nat × Bool)}
end
end Go.Tc
namespace Go.Tc
open Go Go.RowKit
section
variable {R : Type} {P : Program} {n : Fr} {A : Nat → Prop} {w0 w w1 w' : World} {Q : R → Exit → Act → World → Prop} {ρ ρ' : Env} {Γ Γ' : Ctx} {E : Option R}
variable {d : Option Nat} {ty : TypeId} {pos : String} {after : Array Edge} {g : Option (Nat × Bool)}
end
end Go.Tc
namespace Go.Tc
open Go
section
variable {R : Type} {P : Program} {n : Fr} {A : Nat → Prop} {w0 w w' : World} {Q : R → Exit → Act → World → Prop} {ρ ρ' : Env} {Γ Γ' Δ : Ctx} {E : Option R} {B : List Nat}
variable {d : Option Nat} {ty : TypeId} {pos : String} {after : Array Edge} {g : Option (Nat × Bool)}
theorem ex_makeFuncB {f : FuncId} {bs : List Operand} {vs : List Value} (hb : evL ρ bs = some vs) : Ex P n A w0 ρ Γ ⟨d, .makeFunc (.func f) bs.toArray #[], ty, pos, after, g⟩ (.func (.func f) vs.toArray #[]) := by
  intro a w hs hh
  simp [execOp, Instr.makeFunc, hs.evalL hb]
theorem run_callb {a : Act} {d : Nat} {o : Operand} {f : FuncId} {args : List Operand} {ats : Array TypeId} {vs bs : List Value} (hs : Sat n ρ a)
    (hf : ∀ args w, (callFunc f args).run P w = .ok (.enter f args) w) (ho : ev ρ o = some (.func (.func f) bs.toArray #[])) (hargs : evL ρ args = some vs) :
    (execOp a.eval ⟨some d, .call ⟨.value o, args.toArray, ats⟩, ty, pos, after, g⟩).run P w = .ok (.enter f (bs ++ vs).toArray) w := by
  simp [execOp, resolve, hs.eval ho, Deferred.ofValue, invoke, hs.evalL hargs, hf]
theorem JL_inlineb {ops : Array Oper} {rest : List Oper} {d : Nat} {o : Operand} {f : FuncId} {fn : Func} {body : Code} {n' : Nat} {args : List Operand} {ats : Array TypeId} {vs bs : List Value}
    (hw : Wants n ρ ops ⟨some d, .call ⟨.value o, args.toArray, ats⟩, ty, pos, after, g⟩) (hd : Nat.blt d n.n = true)
    (hf : ∀ args w, (callFunc f args).run P w = .ok (.enter f args) w) (ho : ev ρ o = some (.func (.func f) bs.toArray #[])) (hargs : evL ρ args = some vs) (hfn : P.funcs[f]? = some fn) (hb : fn.body = some body) (hn : fn.ntmps = n') (hl : Nat.ble (bs ++ vs).length n' = true) (hρ : enum 0 (bs ++ vs) = ρ')
    (h : ∀ K : R → Value → World → Prop, Behind P n A w0 ops rest Q d ρ K → J P ⟨n', [], none⟩ A w0 body (QInl P fn K) ρ' Γ E) : JL P n A w0 ops (⟨some d, .call ⟨.value o, args.toArray, ats⟩, ty, pos, after, g⟩ :: rest) Q ρ Γ E := by
  intro r hr a w hs hh
  refine wpList_step fun K hK => ?_
  rw [hw a hs]
  simp only [if_true]
  unfold Oper.wp
  rw [run_callb hs hf ho hargs, Oper.upon_enter]
  refine (calls_wp hfn hb (R := fun e w' => ∃ u, e = .returned u ∧ wpList P ops (noP (Q r)) rest (a.put (some d) u) w') ?_).mono ?_
  · have hJ := h (fun r u w' => wpList P ops (noP (Q r)) rest (a.put (some d) u) w') (fun u Γ' E' hJL r hE w hw' => hJL r hE _ w (hs.put (by simpa [Nat.blt_eq] using hd)) hw')
    refine hJ r hr _ w ⟨?_, rfl, ?_⟩ hh
    · simp [Nat.ble_eq] at hl
      simp [hn]; omega
    · intro t u ht
      rw [← hρ] at ht
      obtain ⟨_, h2⟩ := enum_get (bs ++ vs) 0 t u ht
      have h2' : (bs ++ vs)[t]? = some u := by simpa using h2
      have hlt : t < (bs ++ vs).length := (List.getElem?_eq_some_iff.1 h2').1
      simp only [Nat.ble_eq] at hl
      refine ⟨?_, show t < n' by omega⟩
      have hlt' : t < ((bs ++ vs).toArray).size := by simpa using hlt
      rw [Array.getD_eq_getD_getElem?, Array.getElem?_append_left hlt']
      simp only [List.getElem?_toArray, h2', Option.getD_some]
  · rintro e w' ⟨u, rfl, hu⟩
    exact hK _ _ hu
/-! ### Ways of a call walked in place that meet -/
def BehindJ {S G : Type} (A : Nat → Prop) (w0 : World) (val : S → G → Value) (Γe : S → G → Ctx) (K : S → Value → World → Prop) : Prop :=
  ∀ s g w, SH A w0 w (Γe s g) → K s (val s g) w
theorem J_inlJ {S G : Type} {ops : Array Oper} {rest : List Oper} {d : Nat} {fn : Func} {body : Code} {n2 : Fr} {K : R → Value → World → Prop} {Ex : Option S} {fa : S → Option R} (val : S → G → Value) (Γe : S → G → Ctx)
    (hK : Behind P n A w0 ops rest Q d ρ K) (h1 : ∀ K' : S → Value → World → Prop, BehindJ A w0 val Γe K' → J P n2 A w0 body (QInl P fn K') ρ' Γ Ex)
    (h2 : ∀ s g, JL P n A w0 ops rest Q ((d, val s g) :: ρ) (Γe s g) (fa s)) : J P n2 A w0 body (QInl P fn K) ρ' Γ (bnd Ex fa) := by
  intro r hr a w hs hh
  obtain ⟨s0, h0, hf⟩ := bnd_some hr
  have hJ := h1 (fun s u w => fa s = some r → K r u w) (fun s g w hw hfa => hK _ _ _ (h2 s g) r hfa w hw) s0 h0 a w hs hh
  have e : QInl P fn (fun s u w => fa s = some r → K r u w) s0 = QInl P fn K r := by
    unfold QInl
    simp [hf]
  rw [e] at hJ
  exact hJ
theorem N_inlJ1 {S G : Type} {fn : Func} {n2 : Fr} {ρ2 : Env} {K : S → Value → World → Prop} {rv : ResultVar} {u : Value} {val : S → G → Value} {Γe : S → G → Ctx} {s : S} (hK : BehindJ A w0 val Γe K) (g : G) (hres : fn.results = #[rv]) (hu : Rv P n2 A w0 ρ2 Γ rv u)
    (he : u = val s g) (is : List Nat) (hn : ndup is = true) (hsel : sel is Γ = Γe s g) (hds : n2.ds = [] := by rfl) : N n2 A w0 (QInl P fn K) .ret ρ2 Γ (some s) := by
  intro r hr a w hs hh
  cases hr
  refine leaves0 (hs.defers.trans hds) ⟨u, ?_, _, rfl, ?_⟩
  · rw [results_rv, hres]
    simp [hu a w hs hh]
  · rw [he]
    exact hK s g w (hsel ▸ hh.sel is hn)
end
end Go.Tc
