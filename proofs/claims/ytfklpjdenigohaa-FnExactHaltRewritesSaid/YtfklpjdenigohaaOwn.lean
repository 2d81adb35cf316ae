/-
  The calculus, further: slices of the call's own (literals, make, append, stores), sub-slices, struct values. No condition.
-/
import Derived.Test.YtfklpjdenigohaaMem
namespace Go.Tc
open Go Go.RowKit

section
variable {R : Type} {P : Program} {n : Nat} {A : Nat → Prop} {w0 : World} {Q : R → Exit → Act → World → Prop} {ρ ρ' : Env} {Γ Γ' : Ctx} {E : Option R}
variable {d : Option Nat} {ty : TypeId} {pos : String} {after : Array Edge} {g : Option (Nat × Bool)}

/-! ### Slice literals -/
/-- Values that read as the elements of a list. -/
def RdV {α : Type} [Rep α] (A : Nat → Prop) (w : World) : List Value → List α → Prop
  | [], [] => True
  | v :: vs, x :: xs => Rd A w v x ∧ RdV A w vs xs
  | _, _ => False
theorem Rd.cells {α : Type} [Rep α] {A : Nat → Prop} {w : World} {v : Value} {x : α} (h : Rd A w v x) : ∃ cs, v.cells = cs.toArray ∧ Rep.rdc A w cs x := by
  obtain ⟨cs, rfl, hr⟩ := h
  refine ⟨cs, ?_, hr⟩
  cases ha : Rep.agg α with
  | true => simp [Rep.val, ha, Value.cells]
  | false =>
    have hl := Rep.len hr
    rw [Rep.single ha] at hl
    match cs, hl with
    | [c], _ =>
      have h1 := Rep.one hr c (by simp)
      simp [Rep.val, ha]
      cases c <;> simp_all [Value.cells, Value.oneCell']
theorem RdV.flat {α : Type} [Rep α] {A : Nat → Prop} {w : World} : ∀ (vs : List Value) (xs : List α), RdV A w vs xs → vs.length = xs.length ∧ (∀ v ∈ vs, v.cells.size = Rep.sz α) ∧ RdL A w (vs.flatMap (·.cells.toList)) xs
  | [], [], _ => by simp [RdL]
  | v :: vs, x :: xs, ⟨h1, h2⟩ => by
    obtain ⟨cs, hc, hr⟩ := h1.cells
    obtain ⟨e1, e2, e3⟩ := RdV.flat vs xs h2
    refine ⟨by simp [e1], ?_, cs, vs.flatMap (·.cells.toList), by simp [hc], hr, e3⟩
    intro u hu
    rcases List.mem_cons.1 hu with rfl | hu
    · simp [hc, Rep.len hr]
    · exact e2 u hu
  | [], _ :: _, h => h.elim
  | _ :: _, [], h => h.elim

def enumP : Nat → List Value → List (Nat × Value)
  | _, [] => []
  | k, v :: r => (k, v) :: enumP (k + 1) r

theorem foldl_set (cs : List Value) : ∀ (pre post : List Value) (k : Nat), k = pre.length → cs.length ≤ post.length →
    (cs.toArray.zipIdx.foldl (fun a (c, j) => a.setIfInBounds (k + j) c) (pre ++ post).toArray) = (pre ++ cs ++ post.drop cs.length).toArray := by
  have key : ∀ (cs pre post : List Value) (m k : Nat), k + m = pre.length → cs.length ≤ post.length →
      ((cs.zipIdx m).foldl (fun (a : Array Value) (p : Value × Nat) => a.setIfInBounds (k + p.2) p.1) (pre ++ post).toArray) = (pre ++ cs ++ post.drop cs.length).toArray := by
    intro cs
    induction cs with
    | nil => intro pre post m k _ _; simp
    | cons c r ih =>
      intro pre post m k hk hl
      match post, hl with
      | q :: post, hl =>
        simp only [List.zipIdx_cons, List.foldl_cons]
        have h1 : (pre ++ q :: post).toArray.setIfInBounds (k + m) c = ((pre ++ [c]) ++ post).toArray := by
          rw [hk]
          simp
        rw [h1, ih (pre ++ [c]) post (m + 1) k (by simp; omega) (by simpa using hl)]
        simp
  intro pre post k hk hl
  have := key cs pre post 0 k (by omega) hl
  rw [← this]
  simp

theorem fill_all (size : Nat) (hsz : 0 < size) : ∀ (vs : List Value) (k : Nat) (pre post : List Value), pre.length = k * size → post.length = vs.length * size → (∀ v ∈ vs, v.cells.size = size) →
    Instr.fill (fun i => some (i * size, size)) (pre ++ post).toArray (enumP k vs) = some (pre ++ vs.flatMap (·.cells.toList)).toArray
  | [], k, pre, post, _, h2, _ => by
    have : post = [] := List.eq_nil_of_length_eq_zero (by simpa using h2)
    simp [enumP, Instr.fill, this]
  | v :: vs, k, pre, post, h1, h2, h3 => by
    have hv := h3 v (by simp)
    simp only [enumP, Instr.fill]
    have hlen : size ≤ post.length := by rw [h2]; simp only [List.length_cons, Nat.add_mul]; omega
    rw [if_neg (by simp [hv]; omega)]
    have hf := foldl_set v.cells.toList pre post (k * size) h1.symm (by simpa [hv] using hlen)
    simp only [Array.toArray_toList] at hf
    rw [hf]
    have := fill_all size hsz vs (k + 1) (pre ++ v.cells.toList) (post.drop v.cells.toList.length) (by simp [h1, hv, Nat.add_mul]) (by simp [h2, hv, Nat.add_mul]) (fun u hu => h3 u (by simp [hu]))
    rw [this]
    simp

def evP (ρ : Env) : List (Nat × Operand) → Option (List (Nat × Value))
  | [] => some []
  | (i, x) :: r => match ev ρ x, evP ρ r with
    | some v, some vs => some ((i, v) :: vs)
    | _, _ => none
theorem Sat.evalP {a : Act} (h : Sat n ρ a) : ∀ {l : List (Nat × Operand)} {vs : List (Nat × Value)}, evP ρ l = some vs → l.map (fun p => (p.1, a.eval p.2)) = vs
  | [], vs, hv => by simp [evP] at hv; simp [hv]
  | (i, x) :: r, vs, hv => by
    simp only [evP] at hv
    split at hv
    · rename_i v us h1 h2
      simp at hv
      subst hv
      simp [h.eval h1, Sat.evalP h h2]
    · simp at hv

def zinf (P : Program) (t : TypeId) : Option Value := (P.info? t).bind (·.zero)
theorem run_zinf {t : TypeId} {z : Value} (h : zinf P t = some z) (w : World) : (zeroValue t).run P w = .ok z w := by
  obtain ⟨i, hi, hz⟩ := Option.bind_eq_some_iff.1 h
  simp [zeroValue, typeInfo, hi, hz]

theorem run_buildSlice {t e : TypeId} {size len : Nat} {ag : Bool} {z : Value} {vs : List Value} (w : World) (ht : P.underlying t = some (.slice e)) (he : tinf P e = some (size, ag)) (hz : zinf P e = some z) (hsz : 0 < size)
    (hlen : vs.length = len) (hv : ∀ v ∈ vs, v.cells.size = size) (hmax : len * size ≤ 16777216) :
    (Instr.buildSlice t len (enumP 0 vs).toArray).run P w = .ok (.slice (some ⟨w.heap.size, 0, none⟩) len len) (w.alloc (.cells (vs.flatMap (·.cells.toList)).toArray e)) := by
  have hf := fill_all size hsz vs 0 [] ((List.range (len * size)).map fun i => z.cells[i % z.cells.size]!) (by simp) (by simp [hlen]) hv
  simp only [List.nil_append] at hf
  have hmax' : ¬ len * size > 2 ^ 24 := by omega
  by_cases h0 : len * size = 0
  · have hl0 : len = 0 := by
      rcases Nat.mul_eq_zero.1 h0 with h | h
      · exact h
      · omega
    subst hl0
    have hv0 : vs = [] := List.eq_nil_of_length_eq_zero hlen
    subst hv0
    simp [Instr.buildSlice, run_underlying ht, tinf_size he, enumP, Instr.fill, newRow, go_sem]
  · have hr : ((Array.range (len * size)).map (z.cells[· % z.cells.size]!)) = ((List.range (len * size)).map fun i => z.cells[i % z.cells.size]!).toArray := by
      apply Array.ext'
      simp
    simp only [Instr.buildSlice, Sem.run_bind, run_underlying ht, Result.andThen_ok, tinf_size he, hmax', if_false, h0, run_zinf hz, Sem.run_pure, hr, hf]
    rfl

/-- A slice literal. -/
theorem at_buildSlice {α : Type} [Rep α] {t e : TypeId} {len : Nat} {ag : Bool} {z : Value} {parts : List (Nat × Operand)} {vs : List Value} (xs : List α) (ht : P.underlying t = some (.slice e)) (he : tinf P e = some (Rep.sz α, ag)) (hz : zinf P e = some z)
    (hparts : evP ρ parts = some (enumP 0 vs)) (hlen : xs.length = len) (hmax : Nat.ble (len * Rep.sz α) 16777216 = true) {w : World} (hx : RdV (fun k => A k ∨ k ∈ Γ.owns) w vs xs) (a : Act) (hs : Sat n ρ a) (hh : SH A w0 w Γ) :
    ∃ (b : Nat) (w' : World), (execOp a.eval ⟨d, .buildSlice t len parts.toArray, ty, pos, after, g⟩).run P w = .ok (.value (.slice (some ⟨b, 0, none⟩) len len)) w' ∧ SH A w0 w' (.ow e (.slice (some ⟨b, 0, none⟩) len len) xs :: Γ) ∧ Grow w w' [] ∧ OwnNew Γ (.ow e (.slice (some ⟨b, 0, none⟩) len len) xs :: Γ) w := by
  obtain ⟨h1, h2, h3⟩ := RdV.flat vs xs hx
  simp only [Nat.ble_eq] at hmax
  have hlen' : len ≤ maxLen := by
    have := Nat.le_mul_of_pos_right len (Rep.pos (α := α))
    unfold maxLen; omega
  refine ⟨w.heap.size, w.alloc (.cells (vs.flatMap (·.cells.toList)).toArray e), ?_, ?_, Grow.alloc w _ _, .cons (by simp [Fact.owns, Value.ownBlock])⟩
  · have hp : parts.toArray.map (fun p => (p.1, a.eval p.2)) = (enumP 0 vs).toArray := by
      apply Array.ext'
      simp [hs.evalP hparts]
    simp only [execOp, Sem.run_bind]
    have := run_buildSlice (P := P) w ht he hz Rep.pos (by rw [h1, hlen]) h2 hmax
    rw [hp, this]
    rfl
  · refine hh.cons (Grow.alloc w _ []) (by simp [Fact.owns, Value.ownBlock]) (by simp [Fact.owns, Value.ownBlock]) ?_
    refine ⟨vs.flatMap (·.cells.toList), ?_, ?_⟩
    · have hl := RdL.length _ _ h3
      have := World.ownsRow_lit (base := 0) (e := e) (size := Rep.sz α) w (vs.flatMap (·.cells.toList)).toArray len (Nat.zero_le _) hlen' (by simp only [List.size_toArray]; rw [hl, hlen])
      rw [hlen]
      simpa using this
    · refine RdL.frame ?_ _ _ h3
      intro k hk ha
      refine ⟨heap_alloc_old w _ hk, ?_⟩
      rintro (hk' | hk')
      · exact ha (.inl hk')
      · simp only [Ctx.owns, List.flatMap_cons, Fact.owns, Value.ownBlock, Option.toList_some, List.cons_append, List.nil_append, List.mem_cons] at hk'
        rcases hk' with hk' | hk'
        · omega
        · exact ha (.inr hk')

theorem st_buildSlice {α : Type} [Rep α] {t e : TypeId} {len : Nat} {ag : Bool} {z : Value} {parts : List (Nat × Operand)} {vs : List Value} (xs : List α) (ht : P.underlying t = some (.slice e)) (he : tinf P e = some (Rep.sz α, ag)) (hz : zinf P e = some z)
    (hparts : evP ρ parts = some (enumP 0 vs)) (hlen : xs.length = len) (hmax : Nat.ble (len * Rep.sz α) 16777216 = true) (hx : ∀ w, SH A w0 w Γ → RdV (fun k => A k ∨ k ∈ Γ.owns) w vs xs) :
    St P n A w0 ρ Γ ⟨d, .buildSlice t len parts.toArray, ty, pos, after, g⟩ (fun b : Nat => .slice (some ⟨b, 0, none⟩) len len) (fun b => .ow e (.slice (some ⟨b, 0, none⟩) len len) xs :: Γ) [] :=
  fun a w hs hh => at_buildSlice xs ht he hz hparts hlen hmax (hx w hh) a hs hh

/-! ### append -/
def lim : Nat := 1099511627776
def app {α : Type} (xs ys : List α) : Option (List α) := if xs.length + ys.length ≤ lim then some (xs ++ ys) else none
theorem app_eq {α : Type} {xs ys zs : List α} (h : app xs ys = some zs) : zs = xs ++ ys ∧ xs.length + ys.length ≤ lim := by
  unfold app at h
  split at h
  · simp at h; exact ⟨h.symm, by assumption⟩
  · simp at h

def binf (P : Program) (t : TypeId) : Option Nat := (P.info? t).map (·.bytes)

/-- Cells that are copied from: they read as ys. -/
def Src {α : Type} [Rep α] (A : Nat → Prop) (w : World) (u : Value) (ys : List α) : Prop :=
  (u = .slice none 0 0 ∧ ys = []) ∨ ∃ ad cap cells, u = .slice (some ad) ys.length cap ∧ (∀ j u, cells[j]? = some u → w.cell? (ad.add j) = some u) ∧ RdL A w cells ys
theorem RdS.src {α : Type} [Rep α] {A : Nat → Prop} {w : World} {u : Value} {ys : List α} (h : RdS A w u ys) : Src A w u ys := by
  rcases h with ⟨rfl, ad, cap, rfl, hn, _⟩ | ⟨b, off, cap, cells, h1, _, _, _, _, h6, h7⟩
  · cases ad with
    | none => exact .inl ⟨by rw [hn rfl], rfl⟩
    | some ad => exact .inr ⟨ad, cap, [], rfl, by simp, rfl⟩
  · exact .inr ⟨⟨b, off, none⟩, cap, cells, h1, fun j u hj => by rw [Addr.add_lit]; exact h6 j u hj, h7⟩
theorem Ow.src {α : Type} [Rep α] {A : Nat → Prop} {w : World} {e : TypeId} {u : Value} {ys : List α} (h : Ow A w e u ys) : Src A w u ys := by
  obtain ⟨cells, ⟨hl, hown⟩, hr⟩ := h
  rcases hown with ⟨rfl, h0⟩ | ⟨g, cap, cur, rfl, _, hg, hnc, hcm, hcs, htake⟩
  · exact .inl ⟨rfl, List.eq_nil_of_length_eq_zero h0⟩
  · refine .inr ⟨⟨g, 0, none⟩, cap, cells, rfl, fun j u hj => ?_, hr⟩
    rw [Addr.add_lit, Nat.zero_add]
    rw [← htake, List.getElem?_take] at hj
    split at hj
    · simpa [World.cell?, hg] using hj
    · simp at hj

theorem append_block {w w' : World} {t e ty : TypeId} {inf : TypeInfo} {z : Value} {v v' : Value} {k : Nat} {cells news : List Value} {ad : Addr} {m c : Nat} (ht : P.underlying t = some (.slice e)) (hinf : P.info? e = some inf) (hz : inf.zero = some z)
    (hown : w.ownsRow 0 e inf.size v k cells) (hnl : news.length = m * inf.size) (hnews : ∀ j u, news[j]? = some u → w.cell? (ad.add j) = some u) (h1 : ∀ u ∈ news, u.oneCell' = true)
    (h63 : k + m ≤ maxLen) (hbytes : (k + m) * inf.bytes ≤ 140737488355328) (hrun : (Builtin.append_ #[t, t] ty #[v, .slice (some ad) m c]).run P w = .ok v' w') :
    ∀ b, v'.ownBlock = some b → v.ownBlock = some b ∨ w.heap.size ≤ b := by
  have hsmall : k + m ≤ 9223372036854775807 := by simp only [maxLen] at h63; omega
  intro b hb
  rcases hown.2 with ⟨rfl, rfl⟩ | ⟨g, cap, cur, rfl, hbg, hg, hnc, hcm, hcs, htake⟩
  · by_cases hm : m = 0
    · subst hm
      have hn : news = [] := List.eq_nil_of_length_eq_zero (by simpa using hnl)
      subst hn
      simp [Builtin.append_, run_underlying ht, sizeOf, typeInfo, hinf, Builtin.lenOf, Builtin.firstCells, loadCells, loadCellsFrom] at hrun
      rw [← hrun.1] at hb
      simp [Value.ownBlock] at hb
    · have hr := run_append_nil (P := P) w t ty e inf z ht hinf hz ad m c news hnl hnews (by omega) (by omega) (by have hb := hbytes; simp only [Nat.zero_add] at hb; omega)
      rw [hr] at hrun
      cases hrun
      simp [Value.ownBlock] at hb
      omega
  · by_cases hroom : k + m ≤ cap
    · have hfit : k * inf.size + news.length ≤ cur.size := by rw [hnl, hcs, ← Nat.add_mul]; exact Nat.mul_le_mul_right _ hroom
      have hr := run_append_room (P := P) w t ty e inf ht hinf g k cap cur hg ad m c news hnl hnews h1 hroom hfit
      rw [hr] at hrun
      cases hrun
      exact .inl hb
    · have holds : ∀ j u, cells[j]? = some u → w.cell? ((⟨g, 0, none⟩ : Addr).add j) = some u := hown.cells (g := g) rfl
      have hr := run_append_grow (P := P) w t ty e inf z ht hinf hz ⟨g, 0, none⟩ k cap cells hown.1 holds ad m c news hnl hnews (by omega) (by omega) (growslice_fits (by omega) hbytes)
      rw [hr] at hrun
      cases hrun
      simp [Value.ownBlock] at hb
      omega

/-- append of a row that is read to a row of the call's own. -/
theorem SH.append {α : Type} [Rep α] {w : World} {t e ty : TypeId} {ag : Bool} {z : Value} {bytes : Nat} {v u : Value} {xs ys zs : List α} (i : Nat) (hh : SH A w0 w Γ) (hi : Γ[i]? = some (.ow e v xs)) (hy : Src (fun k => A k ∨ k ∈ Γ.owns) w u ys)
    (ht : P.underlying t = some (.slice e)) (he : tinf P e = some (Rep.sz α, ag)) (hz : zinf P e = some z) (hzs : z.cells.size = Rep.sz α) (hb : binf P e = some bytes) (hby : Nat.ble bytes 128 = true) (ha : app xs ys = some zs) :
    ∃ v' w', (Builtin.append_ #[t, t] ty #[v, u]).run P w = .ok v' w' ∧ SH A w0 w' (Γ.set i (.ow e v' zs)) ∧ Grow w w' v.ownBlock.toList ∧ OwnNew Γ (Γ.set i (.ow e v' zs)) w := by
  obtain ⟨rfl, hlim⟩ := app_eq ha
  obtain ⟨cells, hown, hr⟩ := hh.get i hi
  obtain ⟨inf, hinf, hz'⟩ := Option.bind_eq_some_iff.1 hz
  have hsz : inf.size = Rep.sz α := by
    have h1 := he
    unfold tinf at h1
    rw [hinf] at h1
    split at h1
    · rename_i i' u' e1 e2
      simp at e1 h1
      rw [e1]; exact h1.1
    · simp at h1
  have hbb : inf.bytes = bytes := by simpa [binf, hinf] using hb
  simp only [Nat.ble_eq] at hby
  unfold lim at hlim
  have hbytes : (xs.length + ys.length) * bytes ≤ 140737488355328 := by have := Nat.mul_le_mul hlim hby; omega
  have key : ∀ (news : List Value) (v' : Value) (w' : World), RdL (fun k => A k ∨ k ∈ Γ.owns) w news ys → w'.ownsRow 0 e (Rep.sz α) v' (xs.length + ys.length) (cells ++ news) → w.grownBy w' v.ownBlock → (∀ b, v'.ownBlock = some b → v.ownBlock = some b ∨ w.heap.size ≤ b) → SH A w0 w' (Γ.set i (.ow e v' (xs ++ ys))) := by
    intro news v' w' hnews hown' hgr hnb
    have hlt' : ∀ b, v'.ownBlock = some b → b < w'.heap.size := fun b hb => (hown'.lt b hb).2
    have hnA : ∀ k, k < w.heap.size → ¬ (A k ∨ k ∈ Γ.owns) → w'.heap[k]? = w.heap[k]? ∧ ¬ (A k ∨ k ∈ Ctx.owns (Γ.set i (.ow e v' (xs ++ ys)))) := by
      intro k hk hna
      obtain ⟨l1, l2, e1, e2⟩ := owns_set (f' := .ow e v' (xs ++ ys)) hi
      refine ⟨hgr.block k hk ?_, ?_⟩
      · intro hkv
        apply hna
        right; rw [e1]; simp [Fact.owns, ← hkv]
      · rintro (hk' | hk')
        · exact hna (.inl hk')
        · rw [e2] at hk'
          simp only [Fact.owns, List.append_assoc, List.mem_append, Option.mem_toList] at hk'
          rcases hk' with hk' | hk' | hk'
          · exact hna (.inr (by rw [e1]; simp [hk']))
          · rcases hnb k hk' with h | h
            · exact hna (.inr (by rw [e1]; simp [Fact.owns, h]))
            · omega
          · exact hna (.inr (by rw [e1]; simp [hk']))
    refine hh.set hi ⟨hgr.os, hgr.tape, hgr.output, hgr.size, fun k hk hk' => hgr.block k hk (fun e' => hk' (by simp [Fact.owns, ← e']))⟩ (by cases hv : v'.ownBlock <;> simp [Fact.owns, hv]) ?_ ?_
    · intro b hb'
      simp only [Fact.owns, Option.mem_toList] at hb'
      refine ⟨?_, hlt' b hb'⟩
      rcases hnb b hb' with h | h
      · exact .inl (by simp [Fact.owns, h])
      · exact .inr h
    · refine ⟨cells ++ news, by rw [List.length_append]; exact hown', RdL.append _ _ _ _ (RdL.frame hnA _ _ hr) (RdL.frame hnA _ _ hnews)⟩
  rcases hy with ⟨rfl, rfl⟩ | ⟨ad, cap, news, rfl, hnc, hnews⟩
  · have hrun := run_append_owned_none (P := P) (w := w) 0 t ty e inf (Rep.sz α) ht hinf v xs.length cells hown
    exact ⟨v, w, hrun, key [] v w rfl (by simpa using hown) ⟨rfl, rfl, rfl, Nat.le_refl _, fun _ _ _ => rfl⟩ (fun b hb => .inl hb), Grow.refl w _, .set hi (fun b hb => .inl hb)⟩
  · have hnl := RdL.length _ _ hnews
    obtain ⟨v', w', hrun, hown', hgr, _⟩ := run_append_own (P := P) w 0 t ty e inf z (Rep.sz α) bytes ht hinf hz' hsz hbb hzs Rep.pos v xs.length cells hown ad ys.length cap news hnl
      hnc (RdL.one _ _ hnews) (by unfold maxLen; omega) hbytes (Nat.zero_le _)
    have hab := append_block ht hinf hz' (by rw [hsz]; exact hown) (by rw [hsz]; exact hnl) hnc (RdL.one _ _ hnews) (by unfold maxLen; omega) (by rw [hbb]; exact hbytes) hrun
    exact ⟨v', w', hrun, key news v' w' hnews hown' hgr hab, ⟨hgr.os, hgr.tape, hgr.output, hgr.size, fun k hk hk' => hgr.block k hk (fun e' => hk' (by simp [← e']))⟩, .set hi (fun b hb => by
      simp only [Fact.owns, Option.mem_toList] at hb ⊢
      exact hab b hb)⟩

/-- append(out, ys...): i: the own row's place; the source: a row that is read, or another one of the call's own. -/
theorem st_append {α : Type} [Rep α] {x y : Operand} {t e : TypeId} {ag : Bool} {z : Value} {bytes : Nat} {v u : Value} {xs ys zs : List α} (i : Nat) (ht : P.underlying t = some (.slice e)) (he : tinf P e = some (Rep.sz α, ag)) (hz : zinf P e = some z) (hzs : z.cells.size = Rep.sz α) (hb : binf P e = some bytes) (hby : Nat.ble bytes 128 = true)
    (hx : ev ρ x = some v) (hy : ev ρ y = some u) (hi : Γ[i]? = some (.ow e v xs)) (hs' : ∀ w, SH A w0 w Γ → Src (fun k => A k ∨ k ∈ Γ.owns) w u ys) (ha : app xs ys = some zs) :
    St P n A w0 ρ Γ ⟨d, .call ⟨.builtin .append, #[x, y], #[t, t]⟩, ty, pos, after, g⟩ (fun v' : Value => v') (fun v' => Γ.set i (.ow e v' zs)) v.ownBlock.toList := by
  intro a w hs hh
  obtain ⟨v', w', hrun, hh', hg', ho'⟩ := SH.append (P := P) (ty := ty) i hh hi (hs' w hh) ht he hz hzs hb hby ha
  refine ⟨v', w', ?_, hh', hg', ho'⟩
  simp [execOp, resolve, invoke, builtin, hs.eval hx, hs.eval hy, hrun]
theorem SH.src_rd {α : Type} [Rep α] {w : World} {u : Value} {ys : List α} (h : SH A w0 w Γ) (j : Nat) (hj : Γ[j]? = some (.rd u ys)) : Src (fun k => A k ∨ k ∈ Γ.owns) w u ys := (Rd.sl (h.get j hj)).src
theorem SH.src_ow {α : Type} [Rep α] {w : World} {e : TypeId} {u : Value} {ys : List α} (h : SH A w0 w Γ) (j : Nat) (hj : Γ[j]? = some (.ow e u ys)) : Src (fun k => A k ∨ k ∈ Γ.owns) w u ys := Ow.src (h.get j hj)
theorem Src.nil {α : Type} [Rep α] {A : Nat → Prop} {w : World} : Src A w (.slice none 0 0) ([] : List α) := .inl ⟨rfl, rfl⟩

/-! ### make -/
def mke {α : Type} (k : Int) (z : α) : Option (List α) := if 0 ≤ k ∧ k ≤ 1099511627776 then some (List.replicate k.toNat z) else none
theorem mke_eq {α : Type} {k : Int} {z : α} {xs : List α} (h : mke k z = some xs) : 0 ≤ k ∧ k ≤ 1099511627776 ∧ xs = List.replicate k.toNat z := by
  unfold mke at h
  split at h
  · rename_i hk; simp at h; exact ⟨hk.1, hk.2, h.symm⟩
  · simp at h
theorem madeCells_rdL {α : Type} [Rep α] {A : Nat → Prop} {w : World} {zc : List Value} {z : α} (hz : Rep.rdc A w zc z) : ∀ k, RdL A w (madeCells zc.toArray (k * Rep.sz α)).toList (List.replicate k z) := by
  have hl := Rep.len hz
  have key : ∀ k, (madeCells zc.toArray (k * Rep.sz α)).toList = (List.replicate k zc).flatten := by
    intro k
    apply List.ext_getElem?
    intro j
    have hp := Rep.pos (α := α)
    induction k generalizing j with
    | zero => simp [madeCells]
    | succ k ih =>
      rw [List.replicate_succ, List.flatten_cons]
      by_cases hj : j < Rep.sz α
      · rw [List.getElem?_append_left (by omega)]
        have : j < (k + 1) * Rep.sz α := by rw [Nat.add_mul]; omega
        simp [madeCells, this, hl, Nat.mod_eq_of_lt hj, hj]
      · rw [List.getElem?_append_right (by omega), ← ih]
        by_cases hj2 : j < (k + 1) * Rep.sz α
        · have : j - Rep.sz α < k * Rep.sz α := by rw [Nat.add_mul] at hj2; omega
          have hm : j % Rep.sz α = (j - Rep.sz α) % Rep.sz α := by
            conv => lhs; rw [show j = (j - Rep.sz α) + Rep.sz α by omega]
            simp
          simp [madeCells, hj2, hl, this, hm]
        · have : ¬ j - Rep.sz α < k * Rep.sz α := by rw [Nat.add_mul] at hj2; omega
          simp [madeCells, hj2, hl, this]
  intro k
  rw [key]
  induction k with
  | zero => simp [RdL]
  | succ k ih => exact ⟨zc, (List.replicate k zc).flatten, by simp [List.replicate_succ], hz, ih⟩

theorem st_make {α : Type} [Rep α] {x : Operand} {t e : TypeId} {ag : Bool} {bytes : Nat} {zv : Value} {z : α} {k : Int} {xs : List α} (ht : P.underlying t = some (.slice e)) (he : tinf P e = some (Rep.sz α, ag)) (hz : zinf P e = some zv) (hb : binf P e = some bytes) (hby : Nat.ble bytes 128 = true)
    (hzr : ∀ A w, ∃ zc : List Value, zv.cells = zc.toArray ∧ Rep.rdc A w zc z) (hx : ev ρ x = some (.int .i64 k)) (hk : mke k z = some xs) :
    St P n A w0 ρ Γ ⟨d, .makeSlice t x x, ty, pos, after, g⟩ (fun b : Nat => .slice (some ⟨b, 0, none⟩) xs.length xs.length) (fun b => .ow e (.slice (some ⟨b, 0, none⟩) xs.length xs.length) xs :: Γ) [] := by
  intro a w hs hh
  obtain ⟨h0, h1, rfl⟩ := mke_eq hk
  obtain ⟨inf, hinf, hz'⟩ := Option.bind_eq_some_iff.1 hz
  have hsz : inf.size = Rep.sz α := by
    have h1 := he
    unfold tinf at h1
    rw [hinf] at h1
    split at h1
    · rename_i i' u' e1 e2
      simp at e1 h1
      rw [e1]; exact h1.1
    · simp at h1
  have hbb : inf.bytes = bytes := by simpa [binf, hinf] using hb
  simp only [Nat.ble_eq] at hby
  obtain ⟨m, rfl⟩ := Int.eq_ofNat_of_zero_le h0
  simp only [Int.toNat_natCast] at hk h1 hx ⊢
  have hbytes : inf.bytes * m ≤ 281474976710656 := by
    rw [hbb]
    have := Nat.mul_le_mul hby (show m ≤ 1099511627776 by omega)
    omega
  obtain ⟨w', hrun, hown, hgr⟩ := run_make_full (P := P) w 0 t e inf zv (Rep.sz α) ht hinf hz' hsz .i64 .i64 m hbytes (by unfold maxLen; omega) (Nat.zero_le _)
  refine ⟨w.heap.size, w', ?_, ?_, ⟨hgr.os, hgr.tape, hgr.output, hgr.size, fun k hk _ => hgr.block k hk (by simp)⟩, .cons (by simp [Fact.owns, Value.ownBlock])⟩
  · simp only [execOp, hs.eval hx, Sem.run_bind, hrun]
    simp
  · obtain ⟨zc, hzc, hzr⟩ := hzr (fun k' => A k' ∨ k' ∈ Ctx.owns (.ow e (.slice (some ⟨w.heap.size, 0, none⟩) (List.replicate m z).length (List.replicate m z).length) (List.replicate m z) :: Γ)) w'
    rw [hzc] at hown
    refine hh.cons ⟨hgr.os, hgr.tape, hgr.output, hgr.size, fun k hk _ => hgr.block k hk (by simp)⟩ (by simp [Fact.owns, Value.ownBlock]) ?_ ?_
    · intro b hb'
      have := hown.lt w.heap.size rfl
      simp [Fact.owns, Value.ownBlock] at hb'
      subst hb'
      exact ⟨Nat.le_refl _, this.2⟩
    · exact ⟨_, by simpa using hown, madeCells_rdL hzr m⟩
end
end Go.Tc
