/-
  The calculus, further: operations on rows with tokens, calls that hand out what lies apart, parts of rows handed on, calls that are walked in place. No condition.
-/
import Derived.Test.YtfklpjdenigohaaDeep
namespace Go.Tc
open Go Go.RowKit

/-- What a value with tokens is: B are the tokens at hand, C those that are left. -/
def Dw {α : Type} [Rep α] (w : World) (v : Value) (x : α) (B C : List Nat) : Prop := B.Nodup → ∃ B0, Dc w v x B0 ∧ B0.Nodup ∧ (∀ b ∈ B0, b ∈ B ∧ b ∉ C) ∧ C.Sublist B
theorem dw_int {w : World} {x : Int} {C : List Nat} : Dw w (.int .i64 x) x C C := fun _ => ⟨[], ⟨_, rfl, rfl, rfl⟩, by simp, by simp, List.Sublist.refl _⟩
theorem dw_bool {w : World} {x : Bool} {C : List Nat} : Dw w (.bool x) x C C := fun _ => ⟨[], ⟨_, rfl, rfl, rfl⟩, by simp, by simp, List.Sublist.refl _⟩
theorem dw_str {w : World} {x : ByteArray} {C : List Nat} : Dw w (.string x) x C C := fun _ => ⟨[], ⟨_, rfl, rfl, rfl⟩, by simp, by simp, List.Sublist.refl _⟩
theorem dn_nil {α : Type} [Rep α] {w : World} {B : List Nat} : Dn w (.slice none 0 0) ([] : List α) B := ⟨[], ⟨[_], rfl, _, rfl, .inl ⟨rfl, rfl, none, 0, rfl, fun _ => rfl, Nat.zero_le _⟩⟩, by simp, by simp⟩
theorem dw_nil {α : Type} [Rep α] {w : World} {C : List Nat} : Dw w (.slice none 0 0) ([] : List α) C C := fun _ => ⟨[], ⟨[_], rfl, _, rfl, .inl ⟨rfl, rfl, none, 0, rfl, fun _ => rfl, Nat.zero_le _⟩⟩, by simp, by simp, List.Sublist.refl _⟩
theorem Dc.cell {α : Type} [Rep α] {w : World} {v : Value} {x : α} {B : List Nat} (h : Dc w v x B) (ha : Rep.agg α = false) : Rep.dc w [v] x B := by
  obtain ⟨cs, rfl, hr⟩ := h
  have hl := Rep.len (Rep.dcr (A := nowhere) hr fun _ _ hk => hk)
  rw [Rep.single ha] at hl
  match cs, hl with
  | [c], _ => simpa [Rep.val, ha] using hr
/-- Two parts, one behind the other. -/
theorem Dw.two {α β : Type} [Rep α] [Rep β] {w : World} {v u : Value} {x : α} {y : β} {B C D : List Nat} (h : Dw w v x B C) (k : Dw w u y C D) (hn : B.Nodup) :
    ∃ B1 B2, Dc w v x B1 ∧ Dc w u y B2 ∧ (B1 ++ B2).Nodup ∧ (∀ b ∈ B1 ++ B2, b ∈ B ∧ b ∉ D) ∧ D.Sublist B := by
  obtain ⟨B1, h1, h2, h3, h4⟩ := h hn
  obtain ⟨B2, k1, k2, k3, k4⟩ := k (hn.sublist h4)
  refine ⟨B1, B2, h1, k1, ?_, ?_, k4.trans h4⟩
  · rw [List.nodup_append]
    exact ⟨h2, k2, fun a ha b hb e => (h3 a ha).2 (e ▸ (k3 b hb).1)⟩
  · intro b hb
    rcases List.mem_append.1 hb with hb | hb
    · exact ⟨(h3 b hb).1, fun hd => (h3 b hb).2 (k4.subset hd)⟩
    · exact ⟨h4.subset (k3 b hb).1, (k3 b hb).2⟩
theorem Dw.three {α β γ : Type} [Rep α] [Rep β] [Rep γ] {w : World} {v u t : Value} {x : α} {y : β} {z : γ} {B C D F : List Nat} (h : Dw w v x B C) (k : Dw w u y C D) (l : Dw w t z D F) (hn : B.Nodup) :
    ∃ B1 B2 B3, Dc w v x B1 ∧ Dc w u y B2 ∧ Dc w t z B3 ∧ (B1 ++ B2 ++ B3).Nodup ∧ (∀ b ∈ B1 ++ B2 ++ B3, b ∈ B ∧ b ∉ F) ∧ F.Sublist B := by
  obtain ⟨B1, B2, h1, h2, h3, h4, h5⟩ := h.two k hn
  obtain ⟨B3, l1, l2, l3, l4⟩ := l (hn.sublist h5)
  refine ⟨B1, B2, B3, h1, h2, l1, ?_, ?_, l4.trans h5⟩
  · rw [List.nodup_append]
    exact ⟨h3, l2, fun a ha b hb e => (h4 a ha).2 (e ▸ (l3 b hb).1)⟩
  · intro b hb
    rcases List.mem_append.1 hb with hb | hb
    · exact ⟨(h4 b hb).1, fun hd => (h4 b hb).2 (l4.subset hd)⟩
    · exact ⟨h5.subset (l3 b hb).1, (l3 b hb).2⟩
/-- Values of a literal, with tokens. -/
def DwV {α : Type} [Rep α] (w : World) : List Value → List α → List Nat → Prop
  | [], [], _ => True
  | v :: vs, x :: xs, B => ∃ C, Dw w v x B C ∧ DwV w vs xs C
  | _, _, _ => False
theorem dwv_cons {α : Type} [Rep α] {w : World} {v : Value} {x : α} {vs : List Value} {xs : List α} {B C : List Nat} (h : Dw w v x B C) (k : DwV w vs xs C) : DwV w (v :: vs) (x :: xs) B := ⟨C, h, k⟩
theorem dwv_nil {α : Type} [Rep α] {w : World} : DwV w [] ([] : List α) [] := trivial
theorem DwV.tk {α : Type} [Rep α] {A : Nat → Prop} {w : World} : ∀ (vs : List Value) (xs : List α) (B : List Nat), DwV w vs xs B → B.Nodup → (∀ b ∈ B, ¬ A b) → ∃ ts : List (Tk α), dats ts = xs ∧ (tks ts).Nodup ∧ (∀ b ∈ tks ts, b ∈ B) ∧ RdV A w vs ts
  | [], [], _, _, _, _ => ⟨[], rfl, by simp [tks], by simp [tks], trivial⟩
  | v :: vs, x :: xs, B, ⟨C, h, k⟩, hn, hA => by
    obtain ⟨B0, ⟨cs, e1, h1⟩, h2, h3, h4⟩ := h hn
    obtain ⟨ts, e2, e3, e4, e5⟩ := DwV.tk (A := A) vs xs C k (hn.sublist h4) fun b hb => hA b (h4.subset hb)
    refine ⟨⟨x, B0⟩ :: ts, by simp [dats] at e2 ⊢; exact e2, ?_, ?_, ⟨cs, e1, h1, fun b hb => hA b (h3 b hb).1⟩, e5⟩
    · simp only [tks, List.flatMap_cons, List.nodup_append]
      exact ⟨h2, e3, fun a ha b hb e => (h3 a ha).2 (e ▸ e4 b hb)⟩
    · intro b hb
      simp only [tks, List.flatMap_cons, List.mem_append] at hb
      exact hb.elim (fun hb => (h3 b hb).1) (fun hb => h4.subset (e4 b hb))
  | [], _ :: _, _, h, _, _ => h.elim
  | _ :: _, [], _, h, _, _ => h.elim

section
variable {R : Type} {P : Program} {n : Nat} {A : Nat → Prop} {w0 w w' : World} {Q : R → Exit → Act → World → Prop} {ρ ρ' : Env} {Γ Γ' : Ctx} {E : Option R}
variable {d : Option Nat} {ty : TypeId} {pos : String} {after : Array Edge} {g : Option (Nat × Bool)}

theorem SH.dw {α : Type} [Rep α] {v : Value} {x : α} {B C : List Nat} (h : SH A w0 w Γ) (i : Nat) (hi : Γ[i]? = some (.tkn v x B)) : Dw w v x (B ++ C) C := fun hn => by
  obtain ⟨B0, h1, h2, h3⟩ := (h.get i hi).1
  rw [List.nodup_append] at hn
  exact ⟨B0, h1, h2, fun b hb => ⟨by simp [h3 b hb], fun hc => hn.2.2 b (h3 b hb) b hc rfl⟩, List.sublist_append_right _ _⟩
theorem mke_nb {α : Type} [Rep α] {k : Int} {z : α} {xs : List α} (h : mke k z = some xs) (hz : Nb z) : ∀ x ∈ xs, Nb x := fun x hx => by
  rw [(mke_eq h).2.2] at hx
  rw [List.eq_of_mem_replicate hx]
  exact hz
theorem od_ow_owns {α : Type} [Rep α] {e : TypeId} {v : Value} {xs : List α} {B : List Nat} {i : Nat} (hi : Γ[i]? = some (.od e v xs B)) : ∀ b ∈ Ctx.owns (Γ.set i (.ow e v xs)), b ∈ Γ.owns := fun b hb => by
  rwa [owns_set_eq (f' := .ow e v xs) hi rfl] at hb
theorem ow_od_owns {α : Type} [Rep α] {e : TypeId} {v : Value} {xs : List α} {i : Nat} (hi : Γ[i]? = some (.ow e v xs)) : ∀ b ∈ Ctx.owns (Γ.set i (.od e v xs [])), b ∈ Γ.owns := fun b hb => by
  rwa [owns_set_eq (f' := .od e v xs []) hi rfl] at hb
/-- What tokens are spent: they are fresh, not owned, and different from those that are left. -/
theorem SH.spent (h : SH A w0 w Γ) {js : List Nat} {B : List Nat} (hB : (Tc.sel js Γ).toks = B) : ∀ b ∈ B, w0.heap.size ≤ b ∧ b < w.heap.size ∧ b ∉ Γ.owns := fun b hb => by
  have hb' : b ∈ Γ.toks := sel_toks js Γ b (by rw [hB]; exact hb)
  exact ⟨h.tge b hb', h.tlt b hb'⟩
theorem SH.spent_av (h : SH A w0 w Γ) {B : List Nat} (hB : ∀ b ∈ B, w0.heap.size ≤ b ∧ b < w.heap.size ∧ b ∉ Γ.owns) : ∀ b ∈ B, ¬ (A b ∨ b ∈ Γ.owns) := fun b hb hk => by
  obtain ⟨h1, _, h3⟩ := hB b hb
  rcases hk with hk | hk
  · have := h.av b hk; omega
  · exact h3 hk
/-- A slice literal whose parts have tokens (js): these are spent. -/
theorem st_buildSlice_od {α : Type} [Rep α] {t e : TypeId} {len : Nat} {ag : Bool} {z : Value} {parts : List (Nat × Operand)} {vs : List Value} {B : List Nat} (xs : List α) (js : List Nat) (ht : P.underlying t = some (.slice e)) (he : tinf P e = some (Rep.sz α, ag)) (hz : zinf P e = some z)
    (hparts : evP ρ parts = some (enumP 0 vs)) (hlen : xs.length = len) (hmax : Nat.ble (len * Rep.sz α) 16777216 = true) (hn : ndup js = true) (hB : (sel js Γ).toks = B) (hx : ∀ w, SH A w0 w Γ → DwV w vs xs B) :
    St P n A w0 ρ Γ ⟨d, .buildSlice t len parts.toArray, ty, pos, after, g⟩ (fun b : Nat => .slice (some ⟨b, 0, none⟩) len len) (fun b => .od e (.slice (some ⟨b, 0, none⟩) len len) xs B :: kill js Γ) [] := by
  intro a w hs hh
  have hsp := hh.spent hB
  have hp := kill_toks js Γ hn
  have hnB : B.Nodup := by
    have := hp.nodup_iff.1 hh.tnd
    rw [hB, List.nodup_append] at this
    exact this.1
  obtain ⟨ts, e1, e2, e3, e4⟩ := DwV.tk vs xs B (hx w hh) hnB (hh.spent_av hsp)
  have hl : ts.length = len := by rw [← hlen, ← e1, dats_length]
  have hh2 := hh.kill js
  have e4' : RdV (fun k => A k ∨ k ∈ (kill js Γ).owns) w vs ts := by
    have : ∀ (vs : List Value) (ts : List (Tk α)), RdV (fun k => A k ∨ k ∈ Γ.owns) w vs ts → RdV (fun k => A k ∨ k ∈ (kill js Γ).owns) w vs ts := by
      intro vs
      induction vs with
      | nil => intro ts h; cases ts <;> exact h
      | cons v vs ih =>
        intro ts h
        cases ts with
        | nil => exact h
        | cons t ts => exact ⟨Rd.weak h.1 fun k hk => hk.imp id (owns_kill js), ih ts h.2⟩
    exact this vs ts e4
  obtain ⟨b, w', hrun, h1, h2, h3⟩ := at_buildSlice (d := d) (ty := ty) (pos := pos) (after := after) (g := g) ts ht he hz hparts hl hmax e4' a hs hh2
  have hsub : ∀ c, c ∈ Ctx.owns (.ow e (.slice (some ⟨b, 0, none⟩) len len) ts :: kill js Γ) → c ∈ Γ.owns ∨ w.heap.size ≤ c := fun c hc => (h3 c hc).imp (owns_kill js) id
  refine ⟨b, w', hrun, ?_, h2, ?_⟩
  · have := h1.od_up (B := B) 0 rfl e2 e3 (fun c hc => ⟨(hsp c hc).1, Nat.lt_of_lt_of_le (hsp c hc).2.1 h2.size, fun hm => ?_⟩) ?_
    · rw [e1] at this
      exact this
    · rcases hsub c hm with hm | hm
      · exact (hsp c hc).2.2 hm
      · have := (hsp c hc).2.1; omega
    · rw [hB] at hp
      exact hp.nodup_iff.1 hh.tnd
  · intro c hc
    exact hsub c (by simpa [Ctx.owns, Fact.owns] using hc)
/-- append of a row with tokens (at j) to a row with tokens (at i). -/
theorem st_append_od {α : Type} [Rep α] {x y : Operand} {t e : TypeId} {ag : Bool} {z : Value} {bytes : Nat} {v u : Value} {xs ys zs : List α} {B1 B2 : List Nat} (i j : Nat) (ht : P.underlying t = some (.slice e)) (he : tinf P e = some (Rep.sz α, ag)) (hz : zinf P e = some z) (hzs : z.cells.size = Rep.sz α) (hb : binf P e = some bytes) (hby : Nat.ble bytes 128 = true)
    (hx : ev ρ x = some v) (hy : ev ρ y = some u) (hi : Γ[i]? = some (.od e v xs B1)) (hj : Γ[j]? = some (.od e u ys B2)) (hij : Nat.beq j i = false) (ha : app xs ys = some zs) :
    St P n A w0 ρ Γ ⟨d, .call ⟨.builtin .append, #[x, y], #[t, t]⟩, ty, pos, after, g⟩ (fun v' : Value => v') (fun v' => (Γ.set i (.od e v' zs (B1 ++ B2))).set j (.pr True)) v.ownBlock.toList := by
  intro a w hs hh
  have hne : j ≠ i := fun e => by subst e; simp at hij
  have hli := (List.getElem?_eq_some_iff.1 hi).1
  obtain ⟨ts, e1, e2, e3, h1⟩ := hh.od_down i hi
  obtain ⟨us, f1, f2, f3, h2⟩ := hh.od_down j hj
  have hso : Src (fun k => A k ∨ k ∈ Ctx.owns (Γ.set i (.ow e v ts))) w u us := by
    have hg := h2.get j (get_set (List.getElem?_eq_some_iff.1 hj).1)
    have ho : Ctx.owns (Γ.set j (.ow e u us)) = Γ.owns := owns_set_eq hj rfl
    have ho' : Ctx.owns (Γ.set i (.ow e v ts)) = Γ.owns := owns_set_eq hi rfl
    rw [ho'] 
    rw [ho] at hg
    exact Ow.src hg
  obtain ⟨rfl, hlim⟩ := app_eq ha
  have ha' : app ts us = some (ts ++ us) := by
    have l1 : ts.length = xs.length := by rw [← e1, dats_length]
    have l2 : us.length = ys.length := by rw [← f1, dats_length]
    unfold app
    rw [if_pos (by rw [l1, l2]; exact hlim)]
  obtain ⟨v', w', hrun, h3, h4, h5⟩ := SH.append (P := P) (ty := ty) i h1 (get_set hli) hso ht he hz hzs hb hby ha'
  rw [List.set_set] at h3 h5
  have hoi : Ctx.owns (Γ.set i (.ow e v ts)) = Γ.owns := owns_set_eq hi rfl
  have hsub : ∀ c, c ∈ Ctx.owns (Γ.set i (.ow e v' (ts ++ us))) → c ∈ Γ.owns ∨ w.heap.size ≤ c := fun c hc => by
    have := h5 c hc
    rwa [hoi] at this
  have hjj : (Γ.set i (.ow e v' (ts ++ us)))[j]? = some (.od e u ys B2) := by rw [List.getElem?_set_ne (Ne.symm hne)]; exact hj
  have h6 := h3.dead hjj
  have hii : ((Γ.set i (.ow e v' (ts ++ us))).set j (.pr True))[i]? = some (.ow e v' (ts ++ us)) := by
    rw [List.getElem?_set_ne hne]
    exact get_set hli
  have hbnd : ∀ c ∈ B1 ++ B2, c ∈ Γ.toks := fun c hc => by
    rcases List.mem_append.1 hc with hc | hc
    · exact List.mem_flatMap.2 ⟨_, List.mem_of_getElem? hi, hc⟩
    · exact List.mem_flatMap.2 ⟨_, List.mem_of_getElem? hj, hc⟩
  have h7 := h6.od_up (B := B1 ++ B2) i hii ?_ ?_ ?_ ?_
  · have ed : dats (ts ++ us) = xs ++ ys := by rw [← e1, ← f1]; simp [dats]
    rw [ed, List.set_comm _ _ hne, List.set_set] at h7
    refine ⟨v', w', ?_, h7, h4, fun c hc => ?_⟩
    · simp [execOp, resolve, invoke, builtin, hs.eval hx, hs.eval hy, hrun]
    · have hc := owns_dead hc
      have : Ctx.owns (Γ.set i (.od e v' (xs ++ ys) (B1 ++ B2))) = Ctx.owns (Γ.set i (.ow e v' (ts ++ us))) := by
        have := owns_set_eq (Γ := Γ.set i (.ow e v' (ts ++ us))) (f' := .od e v' (xs ++ ys) (B1 ++ B2)) (get_set hli) rfl
        rwa [List.set_set] at this
      rw [this] at hc
      exact hsub c hc
  · simp only [tks, List.flatMap_append, List.nodup_append]
    refine ⟨e2, f2, fun a ha b hb hab => ?_⟩
    subst hab
    exact nodup_twoG (g := Fact.toks) hh.tnd hi hj (Ne.symm hne) (e3 a ha) (f3 a hb)
  · intro c hc
    simp only [tks, List.flatMap_append, List.mem_append] at hc ⊢
    exact hc.imp (e3 c) (f3 c)
  · intro c hc
    have hc' := hbnd c hc
    refine ⟨hh.tge c hc', Nat.lt_of_lt_of_le (hh.tlt c hc').1 h4.size, fun hm => ?_⟩
    rcases hsub c (owns_dead hm) with hm | hm
    · exact (hh.tlt c hc').2 hm
    · have := (hh.tlt c hc').1; omega
  · have p1 := toks_perm0 hi
    have hj2 : (Γ.set i (.pr True))[j]? = some (.od e u ys B2) := by rw [List.getElem?_set_ne (Ne.symm hne)]; exact hj
    have p2 := toks_perm0 hj2
    have p3 := p1.trans (p2.append_left B1)
    have p4 := toks_perm0 hii
    simp only [Fact.toks, List.nil_append] at p4
    have e5 : (((Γ.set i (.ow e v' (ts ++ us))).set j (.pr True)).set i (.pr True)) = (Γ.set i (.pr True)).set j (.pr True) := by
      rw [List.set_comm _ _ hne, List.set_set]
    rw [e5] at p4
    have p5 := p4.append_left (B1 ++ B2)
    rw [List.append_assoc B1 B2 (Ctx.toks ((Γ.set i (.pr True)).set j (.pr True)))] at p5
    exact p5.nodup_iff.2 (p3.nodup_iff.1 hh.tnd)
/-- A store into a row with tokens; the datum's tokens (js) are spent. -/
theorem sk_store_od {α : Type} [Rep α] {x y : Operand} {t e : TypeId} {ag : Bool} {b cap len : Nat} {xs : List α} {j : Int} {o y' : α} {u : Value} {B B2 : List Nat} (i : Nat) (js : List Nat) (ht : tinf P t = some (Rep.sz α, ag)) (hx : ev ρ x = some (.pointer (some ⟨b, j.toNat * Rep.sz α, none⟩))) (hy : ev ρ y = some u)
    (hi : Γ[i]? = some (.od e (.slice (some ⟨b, 0, none⟩) len cap) xs B)) (hj : idx xs j = some o) (hn : ndup (i :: js) = true) (hB : (sel js Γ).toks = B2) (hu : ∀ w, SH A w0 w Γ → Dw w u y' B2 []) :
    Sk P n A w0 ρ Γ ⟨d, .store t x y, ty, pos, after, g⟩ (kill js (Γ.set i (.od e (.slice (some ⟨b, 0, none⟩) len cap) (xs.set j.toNat y') (B ++ B2)))) [b] := by
  intro a w hs hh
  have hn' := hn
  simp only [ndup, Bool.and_eq_true, Bool.not_eq_true', List.any_eq_false] at hn'
  have hne : ∀ k ∈ js, k ≠ i := fun k hk e => hn'.1 k hk (by subst e; exact Nat.beq_refl k)
  have hli := (List.getElem?_eq_some_iff.1 hi).1
  have hp := kill_toks js Γ hn'.2
  have hnB : B2.Nodup := by
    have := hp.nodup_iff.1 hh.tnd
    rw [hB, List.nodup_append] at this
    exact this.1
  obtain ⟨B0, ⟨cs, k1, k2⟩, k3, k4', _⟩ := hu w hh hnB
  have k4 : ∀ b ∈ B0, b ∈ B2 := fun b hb => (k4' b hb).1
  obtain ⟨ts, e1, e2, e3, h1⟩ := hh.od_down i hi
  have hoi : Ctx.owns (Γ.set i (.ow e (.slice (some ⟨b, 0, none⟩) len cap) ts)) = Γ.owns := owns_set_eq hi rfl
  have hsp := hh.spent hB
  have hjt : idx ts j = some (ts[j.toNat]'(by
      have := (idx_eq hj).2.1
      rw [← e1, dats_length] at this
      exact this)) := by
    have h0 := (idx_eq hj).1
    unfold idx
    rw [if_neg (by omega), List.getElem?_eq_getElem]
  obtain ⟨w', hrun, h2, h3, h4⟩ := at_store_ow (P := P) (d := d) (ty := ty) (pos := pos) (after := after) (g := g) (y' := (⟨y', B0⟩ : Tk α)) (u := u) i ht hx hy (get_set hli) hjt (w := w)
    ⟨cs, k1, k2, fun c hc => by rw [hoi]; exact hh.spent_av hsp c (k4 c hc)⟩ a hs h1
  rw [List.set_set] at h2 h4
  have ho2 : Ctx.owns (Γ.set i (.ow e (.slice (some ⟨b, 0, none⟩) len cap) (ts.set j.toNat ⟨y', B0⟩))) = Γ.owns := owns_set_eq hi rfl
  have h5 := h2.kill js
  have hii : (kill js (Γ.set i (.ow e (.slice (some ⟨b, 0, none⟩) len cap) (ts.set j.toNat ⟨y', B0⟩))))[i]? = some (.ow e (.slice (some ⟨b, 0, none⟩) len cap) (ts.set j.toNat ⟨y', B0⟩)) := by
    rw [kill_ne js _ i hne]
    exact get_set hli
  have htk : ∀ c, c ∈ tks (ts.set j.toNat ⟨y', B0⟩) → c ∈ tks ts ∨ c ∈ B0 := by
    intro c hc
    obtain ⟨t, ht, hct⟩ := List.mem_flatMap.1 hc
    rcases List.mem_or_eq_of_mem_set ht with ht | rfl
    · exact .inl (List.mem_flatMap.2 ⟨t, ht, hct⟩)
    · exact .inr hct
  have hBt : ∀ c ∈ B, c ∈ Γ.toks := fun c hc => List.mem_flatMap.2 ⟨_, List.mem_of_getElem? hi, hc⟩
  have hdis : ∀ c ∈ B, c ∉ B2 := fun c hc hc2 => by
    rw [← hB] at hc2
    obtain ⟨f, hf, hcf⟩ := List.mem_flatMap.1 hc2
    obtain ⟨m, hm, hmf⟩ := sel_mem js Γ f hf
    exact nodup_twoG (g := Fact.toks) hh.tnd hi hmf (Ne.symm (hne m hm)) hc hcf
  have hnt : (tks (ts.set j.toNat ⟨y', B0⟩)).Nodup := by
    have hd : ∀ c ∈ B0, c ∉ tks ts := fun c hc hm => hdis c (e3 c hm) (k4 c hc)
    have key : ∀ (ts : List (Tk α)) (k : Nat), (tks ts).Nodup → (∀ c ∈ B0, c ∉ tks ts) → (tks (ts.set k ⟨y', B0⟩)).Nodup := by
      intro ts
      induction ts with
      | nil => intro k h _; simpa using h
      | cons t ts ih =>
        intro k h hd
        simp only [tks, List.flatMap_cons, List.nodup_append, List.mem_append] at h hd
        cases k with
        | zero =>
          simp only [List.set_cons_zero, tks, List.flatMap_cons, List.nodup_append]
          exact ⟨k3, h.2.1, fun a ha b hb e => hd a ha (.inr (e ▸ hb))⟩
        | succ k =>
          simp only [List.set_cons_succ, tks, List.flatMap_cons, List.nodup_append]
          refine ⟨h.1, ih k h.2.1 fun c hc hm => hd c hc (.inr hm), ?_⟩
          rintro a ha c hc rfl
          obtain ⟨t', ht', hct⟩ := List.mem_flatMap.1 hc
          rcases List.mem_or_eq_of_mem_set ht' with ht' | rfl
          · exact h.2.2 a ha a (List.mem_flatMap.2 ⟨t', ht', hct⟩) rfl
          · exact hd a hct (.inl ha)
    exact key ts j.toNat e2 hd
  have h6 := h5.od_up (B := B ++ B2) i hii hnt ?_ ?_ ?_
  · have ed : dats (ts.set j.toNat ⟨y', B0⟩) = xs.set j.toNat y' := by rw [← e1]; simp [dats, List.map_set]
    rw [ed, ← kill_set js _ i _ hne, List.set_set] at h6
    refine ⟨w', hrun, h6, h3, fun c hc => ?_⟩
    have hc := owns_kill js hc
    have : Ctx.owns (Γ.set i (.od e (.slice (some ⟨b, 0, none⟩) len cap) (xs.set j.toNat y') (B ++ B2))) = Γ.owns := owns_set_eq hi rfl
    rw [this] at hc
    exact .inl hc
  · intro c hc
    rw [List.mem_append]
    exact (htk c hc).imp (e3 c) (k4 c)
  · intro c hc
    have hc2 : w0.heap.size ≤ c ∧ c < w.heap.size ∧ c ∉ Γ.owns := by
      rcases List.mem_append.1 hc with hc | hc
      · exact ⟨hh.tge c (hBt c hc), hh.tlt c (hBt c hc)⟩
      · exact hsp c hc
    refine ⟨hc2.1, Nat.lt_of_lt_of_le hc2.2.1 h3.size, fun hm => hc2.2.2 ?_⟩
    have := owns_kill js hm
    rwa [ho2] at this
  · have p1 := toks_perm0 hi
    have hsel : sel js (Γ.set i (.pr True)) = sel js Γ := sel_set_ne js hne
    have p2 := kill_toks js (Γ.set i (.pr True)) hn'.2
    rw [hsel, hB] at p2
    have p3 := p1.trans (p2.append_left B)
    have p4 := toks_perm0 hii
    simp only [Fact.toks, List.nil_append] at p4
    rw [← kill_set js _ i _ hne, List.set_set] at p4
    have p5 := p4.append_left (B ++ B2)
    have p6 : (B ++ (B2 ++ Ctx.toks (kill js (Γ.set i (.pr True))))).Nodup := p3.nodup_iff.1 hh.tnd
    rw [← List.append_assoc] at p6
    exact p5.nodup_iff.2 p6

/-! ### Reading a row with tokens -/
theorem ex_od {α : Type} [Rep α] {o : Oper} {u : Value} {e : TypeId} {v : Value} {xs : List α} {B : List Nat} (i : Nat) (hi : Γ[i]? = some (.od e v xs B)) (h : Ex P n A w0 ρ (Γ.set i (.ow e v xs)) o u) : Ex P n A w0 ρ Γ o u :=
  fun a w hs hh => h a w hs (hh.od_ow i hi)
theorem st_od {α : Type} [Rep α] {o : Oper} {e : TypeId} {v : Value} {xs : List α} {B : List Nat} {G : Type} {val : G → Value} {fs : G → Ctx} (i : Nat) (hi : Γ[i]? = some (.od e v xs B))
    (h : St P n A w0 ρ (Γ.set i (.ow e v xs)) o val (fun x => fs x ++ Γ.set i (.ow e v xs)) []) (hfs : ∀ x, (fs x).all (fun f => f.owns.isEmpty && f.toks.isEmpty) = true) : St P n A w0 ρ Γ o val (fun x => fs x ++ Γ) [] := by
  intro a w hs hh
  obtain ⟨x, w', h1, h2, h3, _⟩ := h a w hs (hh.od_ow i hi)
  have hem : ∀ f ∈ fs x, f.owns = [] ∧ f.toks = [] := fun f hf => by
    have := List.all_eq_true.1 (hfs x) f hf
    simpa using this
  have hoe : Ctx.owns (fs x) = [] := by
    simp only [Ctx.owns, List.flatMap_eq_nil_iff]
    exact fun f hf => (hem f hf).1
  have ho : Ctx.owns (fs x ++ Γ.set i (.ow e v xs)) = Γ.owns := by
    have := owns_set_eq (f' := .ow e v xs) hi rfl
    simp only [Ctx.owns, List.flatMap_append] at this hoe ⊢
    rw [hoe, this, List.nil_append]
  refine ⟨x, w', h1, (hh.grow h3).adds fun f hf => ⟨hem f hf, ?_⟩, h3, fun b hb => .inl ?_⟩
  · have := h2.all f (List.mem_append_left _ hf)
    rwa [ho] at this
  · simp only [Ctx.owns, List.flatMap_append] at hoe hb ⊢
    rw [hoe, List.nil_append] at hb
    exact hb
theorem JL_od_open {α : Type} [Rep α] {ops : Array Oper} {l : List Oper} {e : TypeId} {v : Value} {xs : List α} {B : List Nat} {j : Int} {y : α} (i : Nat) (hi : Γ[i]? = some (.od e v xs B)) (hj : idx xs j = some y)
    (h : ∀ b cap, v = .slice (some ⟨b, 0, none⟩) xs.length cap → JL P n A w0 ops l Q ρ Γ E) : JL P n A w0 ops l Q ρ Γ E := by
  intro r hr a w hs hh
  obtain ⟨⟨cells, B0, ⟨_, hown⟩, _⟩, _⟩ := hh.get i hi
  rcases hown with ⟨rfl, h0⟩ | ⟨gg, cap, cur, hv, _⟩
  · have := (idx_eq hj).2.1
    omega
  · exact h gg cap hv r hr a w hs hh
theorem SH.src_od {α : Type} [Rep α] {e : TypeId} {u : Value} {ys : List α} {B : List Nat} (h : SH A w0 w Γ) (j : Nat) (hj : Γ[j]? = some (.od e u ys B)) : Src (fun k => A k ∨ k ∈ Γ.owns) w u ys := by
  have := (h.od_ow j hj).src_ow j (get_set (List.getElem?_eq_some_iff.1 hj).1)
  rwa [owns_set_eq (f' := .ow e u ys) hj rfl] at this
theorem SH.cv_od {α : Type} [Rep α] {e : TypeId} {v : Value} {xs : List α} {B : List Nat} (h : SH A w0 w Γ) (i : Nat) (hi : Γ[i]? = some (.od e v xs B)) : CV v [v] :=
  (h.od_ow i hi).cv_ow i (get_set (List.getElem?_eq_some_iff.1 hi).1)
theorem Ca_self {f : FuncId} {vs : List Value} {G : Type} {v : G → Value} {fs : G → Ctx} (hp : ∀ x, (fs x).all Fact.robust = true) (h : ∀ w, SH A w0 w Γ → Con P f vs nowhere w v fs) : Ca P A w0 Γ f vs v (fun x => fs x ++ Γ) :=
  fun w hh => (h w hh).mono fun _ _ ⟨x, he, hk⟩ => ⟨x, he, hh.join_self hk (hp x), Grow.of_below hk.below [], fun b hb => by
    simp only [Ctx.owns, List.flatMap_append, List.mem_append] at hb
    rcases hb with hb | hb
    · exact .inr (hk.ge b hb).1
    · exact .inl hb⟩
theorem tkn_owns {α : Type} [Rep α] {v v' : Value} {xs ys : List α} {B : List Nat} {i : Nat} (hi : Γ[i]? = some (.tkn v xs B)) : ∀ b ∈ Ctx.owns (Γ.set i (.tkn v' ys B)), b ∈ Γ.owns := fun b hb => by
  rwa [owns_set_eq (f' := .tkn v' ys B) hi rfl] at hb
end
end Go.Tc
