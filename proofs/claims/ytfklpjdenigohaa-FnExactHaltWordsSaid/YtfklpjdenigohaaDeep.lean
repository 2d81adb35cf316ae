/-
  Own rows whose inner rows lie apart, told by tokens: made, appended to, stored into, frozen, handed out. No condition.
-/
import Derived.Test.YtfklpjdenigohaaClo
namespace Go.Tc
open Go Go.RowKit

/-- A datum with the blocks of its rows. -/
structure Tk (α : Type) where
  x : α
  B : List Nat
instance {α : Type} [Rep α] : Rep (Tk α) where
  sz := Rep.sz α
  agg := Rep.agg α
  rdc A w cs t := Rep.dc w cs t.x t.B ∧ ∀ b ∈ t.B, ¬ A b
  len h := Rep.len (Rep.dcr h.1 h.2)
  one h := Rep.one (Rep.dcr h.1 h.2)
  pos := Rep.pos
  single := Rep.single
  frame h hf := ⟨Rep.dcf h.1 fun b hb => (hf b (Rep.dlt h.1 b hb) (h.2 b hb)).1, fun b hb => (hf b (Rep.dlt h.1 b hb) (h.2 b hb)).2⟩
  dc w cs t B := Rep.dc w cs t.x B ∧ t.B = B
  dcf h hf := ⟨Rep.dcf h.1 hf, h.2⟩
  dcr h hA := ⟨by rw [h.2]; exact h.1, by rw [h.2]; exact hA⟩
  dlt h := Rep.dlt h.1
  flat := false
  flt h := by cases h

def tks {α : Type} (xs : List (Tk α)) : List Nat := xs.flatMap Tk.B
def dats {α : Type} (xs : List (Tk α)) : List α := xs.map Tk.x
theorem dats_length {α : Type} (xs : List (Tk α)) : (dats xs).length = xs.length := by simp [dats]
theorem DL.tk {α : Type} [Rep α] {A : Nat → Prop} {w : World} : ∀ (xs : List α) (cs : List Value) (B : List Nat), DL w cs xs B → (∀ b ∈ B, ¬ A b) → ∃ ts : List (Tk α), dats ts = xs ∧ tks ts = B ∧ RdL A w cs ts
  | [], _, _, h, _ => ⟨[], rfl, h.2.symm, h.1⟩
  | x :: r, _, _, ⟨c1, c2, B1, B2, e, eB, h1, h2⟩, hA => by
    subst eB
    obtain ⟨ts, e1, e2, h3⟩ := DL.tk r c2 B2 h2 fun b hb => hA b (by simp [hb])
    exact ⟨⟨x, B1⟩ :: ts, by simp [dats] at e1 ⊢; exact e1, by simp [tks] at e2 ⊢; exact e2, c1, c2, e, ⟨h1, fun b hb => hA b (by simp [hb])⟩, h3⟩
theorem RdL.untk {α : Type} [Rep α] {A : Nat → Prop} {w : World} : ∀ (ts : List (Tk α)) (cs : List Value), RdL A w cs ts → DL w cs (dats ts) (tks ts) ∧ ∀ b ∈ tks ts, ¬ A b
  | [], _, h => ⟨⟨h, rfl⟩, by simp [tks]⟩
  | t :: r, _, ⟨c1, c2, e, h1, h2⟩ => by
    obtain ⟨h3, h4⟩ := RdL.untk r c2 h2
    refine ⟨⟨c1, c2, t.B, tks r, e, rfl, h1.1, h3⟩, fun b hb => ?_⟩
    simp only [tks, List.flatMap_cons, List.mem_append] at hb
    rcases hb with hb | hb
    · exact h1.2 b hb
    · exact h4 b hb

/-! ### Contexts: facts spent -/
def kill : List Nat → Ctx → Ctx
  | [], Γ => Γ
  | j :: js, Γ => kill js (Γ.set j (.pr True))
section
variable {A : Nat → Prop} {w0 w w' : World} {Γ Γ' : Ctx}
theorem set_self {f : Fact} {i : Nat} (hi : Γ[i]? = some f) : Γ.set i f = Γ := by
  apply List.ext_getElem?
  intro j
  rw [List.getElem?_set]
  by_cases e : i = j
  · subst e
    rw [if_pos rfl, if_pos (List.getElem?_eq_some_iff.1 hi).1, hi]
  · rw [if_neg e]
theorem get_set {f : Fact} {i : Nat} (hlt : i < Γ.length) : (Γ.set i f)[i]? = some f := by simp [hlt]
theorem toks_perm {f f' : Fact} {i : Nat} (hi : Γ[i]? = some f) : (Ctx.toks (Γ.set i f')).Perm (f'.toks ++ Ctx.toks (Γ.set i (.pr True))) := by
  obtain ⟨l1, l2, _, e2⟩ := toks_set (f' := f') hi
  have hlt := (List.getElem?_eq_some_iff.1 hi).1
  obtain ⟨m1, m2, a1, a2⟩ := toks_set (Γ := Γ.set i f') (f := f') (f' := .pr True) (i := i) (get_set hlt)
  rw [List.set_set] at a2
  rw [a1, a2]
  simp only [Fact.toks, List.append_nil]
  exact (List.perm_append_comm.append_right m2).trans (by rw [List.append_assoc])
theorem toks_perm0 {f : Fact} {i : Nat} (hi : Γ[i]? = some f) : (Ctx.toks Γ).Perm (f.toks ++ Ctx.toks (Γ.set i (.pr True))) := by
  have := toks_perm (f' := f) hi
  rwa [set_self hi] at this
theorem sel_set_ne {f : Fact} {j : Nat} : ∀ (is : List Nat), (∀ i ∈ is, i ≠ j) → sel is (Γ.set j f) = sel is Γ
  | [], _ => rfl
  | i :: is, h => by
    have hi : i ≠ j := h i (by simp)
    simp only [sel, List.getElem?_set_ne (Ne.symm hi)]
    rw [sel_set_ne is fun k hk => h k (by simp [hk])]
theorem kill_toks : ∀ (js : List Nat) (Γ : Ctx), ndup js = true → Γ.toks.Perm ((sel js Γ).toks ++ (kill js Γ).toks)
  | [], Γ, _ => by simp [sel, kill, Ctx.toks]
  | j :: js, Γ, hn => by
    simp only [ndup, Bool.and_eq_true, Bool.not_eq_true', List.any_eq_false] at hn
    have hne : ∀ i ∈ js, i ≠ j := fun i hi e => hn.1 i hi (by subst e; exact Nat.beq_refl i)
    have ih := kill_toks js (Γ.set j (.pr True)) hn.2
    rw [sel_set_ne js hne] at ih
    simp only [sel, kill]
    cases hj : Γ[j]? with
    | none =>
      rw [List.set_eq_of_length_le (by simpa using hj)] at ih ⊢
      exact ih
    | some f =>
      refine (toks_perm0 hj).trans ?_
      simp only [Ctx.toks, List.flatMap_cons, List.append_assoc] at ih ⊢
      exact ih.append_left _
theorem kill_ne : ∀ (js : List Nat) (Γ : Ctx) (i : Nat), (∀ j ∈ js, j ≠ i) → (kill js Γ)[i]? = Γ[i]?
  | [], _, _, _ => rfl
  | j :: js, Γ, i, h => by
    simp only [kill]
    rw [kill_ne js _ i fun k hk => h k (by simp [hk]), List.getElem?_set_ne (h j (by simp))]
theorem SH.dead {f : Fact} {i : Nat} (h : SH A w0 w Γ) (hi : Γ[i]? = some f) : SH A w0 w (Γ.set i (.pr True)) :=
  h.set hi (Grow.refl w _) (by simp [Fact.owns]) (by simp [Fact.owns]) trivial
theorem SH.kill : ∀ (js : List Nat) {Γ : Ctx}, SH A w0 w Γ → SH A w0 w (kill js Γ)
  | [], _, h => h
  | j :: js, Γ, h => by
    refine SH.kill js ?_
    cases hj : Γ[j]? with
    | none => rw [List.set_eq_of_length_le (by simpa using hj)]; exact h
    | some f => exact h.dead hj
theorem owns_dead {i : Nat} : ∀ {b : Nat}, b ∈ Ctx.owns (Γ.set i (.pr True)) → b ∈ Γ.owns := by
  intro b hb
  cases hj : Γ[i]? with
  | none => rwa [List.set_eq_of_length_le (by simpa using hj)] at hb
  | some f =>
    obtain ⟨l1, l2, e1, e2⟩ := owns_set (f' := .pr True) hj
    rw [e2] at hb
    rw [e1]
    simp only [Fact.owns, List.append_nil, List.mem_append] at hb ⊢
    rcases hb with hb | hb
    · exact .inl (.inl hb)
    · exact .inr hb
theorem owns_kill : ∀ (js : List Nat) {Γ : Ctx} {b : Nat}, b ∈ Ctx.owns (Tc.kill js Γ) → b ∈ Γ.owns
  | [], _, _, h => h
  | _ :: js, _, _, h => owns_dead (owns_kill js h)
theorem kill_set : ∀ (js : List Nat) (Γ : Ctx) (i : Nat) (f : Fact), (∀ j ∈ js, j ≠ i) → Tc.kill js (Γ.set i f) = (Tc.kill js Γ).set i f
  | [], _, _, _, _ => rfl
  | j :: js, Γ, i, f, h => by
    simp only [Tc.kill]
    rw [List.set_comm _ _ (Ne.symm (h j (by simp))), kill_set js _ i f fun k hk => h k (by simp [hk])]

theorem owns_set_eq {f f' : Fact} {i : Nat} (hi : Γ[i]? = some f) (ho : f'.owns = f.owns) : Ctx.owns (Γ.set i f') = Γ.owns := by
  obtain ⟨l1, l2, e1, e2⟩ := owns_set (f' := f') hi
  rw [e1, e2, ho]
/-- A fact is told in other words: what it owns stays, what tokens it has are told. -/
theorem SH.retell {f f' : Fact} {i : Nat} (h : SH A w0 w Γ) (hi : Γ[i]? = some f) (ho : f'.owns = f.owns) (hf : f.holds (fun k => A k ∨ k ∈ Γ.owns) w0.heap.size w → f'.holds (fun k => A k ∨ k ∈ Γ.owns) w0.heap.size w)
    (htn : (Ctx.toks (Γ.set i f')).Nodup) (htg : ∀ b ∈ f'.toks, w0.heap.size ≤ b) : SH A w0 w (Γ.set i f') := by
  have hoo := owns_set_eq (f' := f') hi ho
  refine h.setT hi (Grow.refl w _) ?_ ?_ ?_ htn htg
  · rw [ho]; exact nodup_at h.nd hi
  · intro b hb
    rw [ho] at hb
    exact ⟨.inl hb, (h.ge b (List.mem_flatMap.2 ⟨f, List.mem_of_getElem? hi, hb⟩)).2⟩
  · rw [hoo]
    exact hf (h.get i hi)
theorem toks_less {f f' : Fact} {i : Nat} (hi : Γ[i]? = some f) (hf : f'.toks = []) (h : Γ.toks.Nodup) : (Ctx.toks (Γ.set i f')).Nodup := by
  obtain ⟨m1, m2, t1, t2⟩ := toks_set (f' := f') hi
  rw [t1] at h
  rw [t2, hf]
  exact nodup_mid h
theorem SH.od_down {α : Type} [Rep α] {e : TypeId} {v : Value} {xs : List α} {B : List Nat} (h : SH A w0 w Γ) (i : Nat) (hi : Γ[i]? = some (.od e v xs B)) :
    ∃ ts : List (Tk α), dats ts = xs ∧ (tks ts).Nodup ∧ (∀ b ∈ tks ts, b ∈ B) ∧ SH A w0 w (Γ.set i (.ow e v ts)) := by
  obtain ⟨⟨cells, B0, h1, h2, h4, h5⟩, h3⟩ := h.get i hi
  obtain ⟨ts, e1, e2, h6⟩ := DL.tk (A := fun k => A k ∨ k ∈ Γ.owns) _ _ _ h2 fun b hb => (h3 b (h5 b hb)).2
  refine ⟨ts, e1, by rw [e2]; exact h4, by rw [e2]; exact h5, h.retell hi rfl (fun _ => ⟨cells, ?_, h6⟩) (toks_less hi rfl h.tnd) (by simp [Fact.toks])⟩
  have : ts.length = xs.length := by rw [← e1, dats_length]
  rw [this]; exact h1
theorem SH.od_up {α : Type} [Rep α] {e : TypeId} {v : Value} {ts : List (Tk α)} {B : List Nat} (h : SH A w0 w Γ) (i : Nat) (hi : Γ[i]? = some (.ow e v ts)) (htk : (tks ts).Nodup) (hsub : ∀ b ∈ tks ts, b ∈ B)
    (hB : ∀ b ∈ B, w0.heap.size ≤ b ∧ b < w.heap.size ∧ b ∉ Γ.owns) (hnd : (B ++ Γ.toks).Nodup) : SH A w0 w (Γ.set i (.od e v (dats ts) B)) := by
  refine h.retell hi rfl ?_ ?_ (fun b hb => (hB b hb).1)
  · rintro ⟨cells, h1, h2⟩
    obtain ⟨h3, h4⟩ := RdL.untk _ _ h2
    refine ⟨⟨cells, tks ts, by rw [dats_length]; exact h1, h3, htk, hsub⟩, fun b hb => ⟨(hB b hb).2.1, ?_⟩⟩
    rintro (hk | hk)
    · have := h.av b hk
      have := (hB b hb).1
      omega
    · exact (hB b hb).2.2 hk
  · refine (toks_perm hi).nodup_iff.2 ?_
    refine ((toks_perm0 hi).append_left B).nodup_iff.1 hnd |>.sublist ?_
    exact List.Sublist.append (List.Sublist.refl _) (List.sublist_append_right _ _)
/-- The tokens are left. -/
theorem SH.od_ow {α : Type} [Rep α] {e : TypeId} {v : Value} {xs : List α} {B : List Nat} (h : SH A w0 w Γ) (i : Nat) (hi : Γ[i]? = some (.od e v xs B)) : SH A w0 w (Γ.set i (.ow e v xs)) := by
  obtain ⟨⟨cells, B0, h1, h2, h4, h5⟩, h3⟩ := h.get i hi
  exact h.retell hi rfl (fun _ => ⟨cells, h1, DL.rd _ _ _ h2 fun b hb => (h3 b (h5 b hb)).2⟩) (toks_less hi rfl h.tnd) (by simp [Fact.toks])

/-- A datum without rows. -/
def Nb {α : Type} [Rep α] (x : α) : Prop := ∀ A w cs, Rep.rdc A w cs x → Rep.dc w cs x []
theorem nb_flat {α : Type} [Rep α] (hf : Rep.flat α = true) (x : α) : Nb x := fun _ _ _ h => Rep.flt hf h
theorem nb_nil {α : Type} [Rep α] : Nb ([] : List α) := by
  rintro A w cs ⟨v, e, h⟩
  refine ⟨v, e, ?_⟩
  rcases h with ⟨_, h⟩ | ⟨b, off, cap, cells, h1, h2, h3, h4, h5, _⟩
  · exact .inl ⟨rfl, rfl, h⟩
  · exact .inl ⟨rfl, rfl, some ⟨b, off, none⟩, cap, h1, by simp, h5⟩
theorem RdL.nb {α : Type} [Rep α] {A : Nat → Prop} {w : World} : ∀ (xs : List α) (cs : List Value), (∀ x ∈ xs, Nb x) → RdL A w cs xs → DL w cs xs []
  | [], _, _, h => ⟨h, rfl⟩
  | x :: r, _, hn, ⟨c1, c2, e, h1, h2⟩ => ⟨c1, c2, [], [], e, rfl, hn x (by simp) _ _ _ h1, RdL.nb r c2 (fun y hy => hn y (by simp [hy])) h2⟩
theorem SH.ow_od {α : Type} [Rep α] {e : TypeId} {v : Value} {xs : List α} (h : SH A w0 w Γ) (i : Nat) (hi : Γ[i]? = some (.ow e v xs)) (hn : ∀ x ∈ xs, Nb x) : SH A w0 w (Γ.set i (.od e v xs [])) := by
  refine h.retell hi rfl ?_ (toks_less hi rfl h.tnd) (by simp [Fact.toks])
  rintro ⟨cells, h1, h2⟩
  exact ⟨⟨cells, [], h1, RdL.nb _ _ hn h2, by simp, by simp⟩, by simp⟩
theorem SH.ow_od_flat {α : Type} [Rep α] {e : TypeId} {v : Value} {xs : List α} (h : SH A w0 w Γ) (i : Nat) (hi : Γ[i]? = some (.ow e v xs)) (hf : Rep.flat α = true) : SH A w0 w (Γ.set i (.od e v xs [])) := h.ow_od i hi fun x _ => nb_flat hf x
theorem SH.od_nil {α : Type} [Rep α] (e : TypeId) (h : SH A w0 w Γ) : SH A w0 w (.od e (.slice none 0 0) ([] : List α) [] :: Γ) := (SH.ow_nil (α := α) e h).ow_od 0 rfl (by simp)

theorem OwD.dn {α : Type} [Rep α] {e : TypeId} {v : Value} {xs : List α} {B : List Nat} (h : OwD w e v xs B) (hb : ∀ b ∈ v.ownBlock.toList, b ∉ B) : Dn w v xs (v.ownBlock.toList ++ B) := by
  obtain ⟨cells, B0, ⟨hl, hown⟩, h2, h3, h4⟩ := h
  rcases hown with ⟨rfl, h0⟩ | ⟨g, cap, cur, rfl, _, hg, hnc, hcm, hcs, htake⟩
  · have hx : xs = [] := List.eq_nil_of_length_eq_zero h0
    subst hx
    exact ⟨[], ⟨[_], rfl, _, rfl, .inl ⟨rfl, rfl, none, 0, rfl, fun _ => rfl, Nat.zero_le _⟩⟩, by simp, by simp⟩
  · refine ⟨g :: B0, ⟨[_], rfl, _, rfl, .inr ⟨g, 0, cap, cells, B0, cur, e, rfl, hg, hnc, hcm, fun j u hj => ?_, h2, rfl⟩⟩, ?_, ?_⟩
    · rw [← htake, List.getElem?_take] at hj
      split at hj
      · simpa [World.cell?, hg] using hj
      · simp at hj
    · refine List.nodup_cons.2 ⟨fun hm => hb g (by simp [Value.ownBlock]) (h4 g hm), h3⟩
    · intro b hb'
      simp only [Value.ownBlock, Option.toList_some, List.cons_append, List.nil_append, List.mem_cons] at hb' ⊢
      exact hb'.imp id (h4 b)
/-- From now on it is only read, and its tokens are kept beside it. -/
theorem SH.tok {α : Type} [Rep α] {e : TypeId} {v : Value} {xs : List α} {B : List Nat} (h : SH A w0 w Γ) (i : Nat) (hi : Γ[i]? = some (.od e v xs B)) : SH A w0 w (.tkn v xs (v.ownBlock.toList ++ B) :: Γ.set i (.rd v xs)) := by
  have hlt := (List.getElem?_eq_some_iff.1 hi).1
  have h1 := h.od_ow i hi
  have h2 := h1.freeze i (get_set hlt)
  rw [List.set_set] at h2
  obtain ⟨hod, hB⟩ := h.get i hi
  have hown : ∀ b ∈ v.ownBlock.toList, b ∈ Γ.owns := fun b hb => List.mem_flatMap.2 ⟨_, List.mem_of_getElem? hi, hb⟩
  have hnB : ∀ b ∈ v.ownBlock.toList, b ∉ B := fun b hb hm => (hB b hm).2 (.inr (hown b hb))
  have hsub : ∀ b, b ∈ Ctx.owns (Γ.set i (.rd v xs)) → b ∈ Γ.owns := fun b hb => by
    have := freeze_owns (Γ := Γ.set i (.ow e v xs)) (e := e) (v := v) (xs := xs) (i := i) (get_set hlt) b (by rw [List.set_set]; exact hb)
    rwa [owns_set_eq (f' := .ow e v xs) hi rfl] at this
  have hnd0 : ∀ b ∈ v.ownBlock.toList, b ∉ Ctx.owns (Γ.set i (.rd v xs)) := by
    obtain ⟨l1, l2, e1, e2⟩ := owns_set (f' := .rd v xs) hi
    have hn := h.nd
    rw [e1] at hn
    simp only [Fact.owns, List.append_assoc, List.nodup_append] at hn
    intro b hb hm
    rw [e2] at hm
    simp only [Fact.owns, List.append_nil, List.mem_append] at hm
    rcases hm with hm | hm
    · exact hn.2.2 b hm b (by simp [hb]) rfl
    · exact hn.2.1.2.2 b hb b hm rfl
  refine h2.consT (Grow.refl w []) (by simp [Fact.owns]) (by simp [Fact.owns]) ⟨hod.dn hnB, fun b hb => ?_⟩ ?_ ?_
  · have ho : Ctx.owns (Fact.tkn v xs (v.ownBlock.toList ++ B) :: Γ.set i (.rd v xs)) = Ctx.owns (Γ.set i (.rd v xs)) := by simp [Ctx.owns, Fact.owns]
    rw [ho]
    rcases List.mem_append.1 hb with hb | hb
    · refine ⟨(h.ge b (hown b hb)).2, ?_⟩
      rintro (hk | hk)
      · have := h.av b hk
        have := (h.ge b (hown b hb)).1
        omega
      · exact hnd0 b hb hk
    · exact ⟨(hB b hb).1, fun hk => (hB b hb).2 (hk.imp id (hsub b))⟩
  · show ((v.ownBlock.toList ++ B) ++ Ctx.toks (Γ.set i (.rd v xs))).Nodup
    have hp := toks_perm0 hi
    have hpt : Ctx.toks (Γ.set i (.rd v xs)) = Ctx.toks (Γ.set i (.pr True)) := by
      obtain ⟨m1, m2, t1, t2⟩ := toks_set (f' := .rd v xs) hi
      have hq := toks_perm (f' := .rd v xs) hi
      obtain ⟨k1, k2, s1, s2⟩ := toks_set (Γ := Γ.set i (.rd v xs)) (f := .rd v xs) (f' := .pr True) (i := i) (get_set hlt)
      rw [List.set_set] at s2
      rw [s1, s2]; rfl
    rw [hpt, List.append_assoc, List.nodup_append]
    have hn := hp.nodup_iff.1 h.tnd
    refine ⟨?_, hn, ?_⟩
    · cases v.ownBlock <;> simp
    · rintro a ha b hb rfl
      have : a ∈ Γ.toks := hp.mem_iff.2 hb
      exact (h.tlt a this).2 (hown a ha)
  · intro b hb
    simp only [Fact.toks, List.mem_append] at hb
    rcases hb with hb | hb
    · exact (h.ge b (hown b hb)).1
    · exact h.tge b (List.mem_flatMap.2 ⟨_, List.mem_of_getElem? hi, hb⟩)
theorem tok_owns {α : Type} [Rep α] {e : TypeId} {v : Value} {xs : List α} {B : List Nat} {i : Nat} (hi : Γ[i]? = some (.od e v xs B)) : ∀ b ∈ Ctx.owns (Fact.tkn v xs (v.ownBlock.toList ++ B) :: Γ.set i (.rd v xs)), b ∈ Γ.owns := fun b hb => by
  have hb : b ∈ Ctx.owns (Γ.set i (.rd v xs)) := by simpa [Ctx.owns, Fact.owns] using hb
  obtain ⟨l1, l2, e1, e2⟩ := owns_set (f' := .rd v xs) hi
  rw [e2] at hb
  rw [e1]
  simp only [Fact.owns, List.append_nil, List.mem_append] at hb ⊢
  rcases hb with hb | hb
  · exact .inl (.inl hb)
  · exact .inr hb
theorem SH.tokf {α : Type} [Rep α] {e : TypeId} {v : Value} {xs : List α} (h : SH A w0 w Γ) (i : Nat) (hi : Γ[i]? = some (.ow e v xs)) (hf : Rep.flat α = true) : SH A w0 w (.tkn v xs (v.ownBlock.toList ++ []) :: Γ.set i (.rd v xs)) := by
  have h1 := h.ow_od_flat i hi hf
  have hlt := (List.getElem?_eq_some_iff.1 hi).1
  have := h1.tok i (get_set hlt)
  rwa [List.set_set] at this
theorem tokf_owns {α : Type} [Rep α] {e : TypeId} {v : Value} {xs : List α} {i : Nat} (hi : Γ[i]? = some (.ow e v xs)) : ∀ b ∈ Ctx.owns (Fact.tkn v xs (v.ownBlock.toList ++ []) :: Γ.set i (.rd v xs)), b ∈ Γ.owns := fun b hb => by
  have hb : b ∈ Ctx.owns (Γ.set i (.rd v xs)) := by simpa [Ctx.owns, Fact.owns] using hb
  exact freeze_owns hi b hb
theorem Dn.rd {α : Type} [Rep α] {v : Value} {x : α} {B : List Nat} (h : Dn w v x B) (hA : ∀ b ∈ B, ¬ A b) : Rd A w v x := by
  obtain ⟨B0, h1, _, h2⟩ := h
  exact h1.rd fun b hb => hA b (h2 b hb)
theorem SH.tkn_rd {α : Type} [Rep α] {v : Value} {x : α} {B : List Nat} (h : SH A w0 w Γ) (i : Nat) (hi : Γ[i]? = some (.tkn v x B)) : SH A w0 w (.rd v x :: Γ) := by
  obtain ⟨h1, h2⟩ := h.get i hi
  exact h.cons_rd (h1.rd fun b hb => (h2 b hb).2)
theorem SH.od0 {α : Type} [Rep α] {e : TypeId} {v : Value} {xs : List α} {B : List Nat} (h : SH A w0 w Γ) (i : Nat) (hi : Γ[i]? = some (.od e v xs B)) : Rd nowhere w v xs :=
  (h.od_ow i hi).ow0 i (get_set (List.getElem?_eq_some_iff.1 hi).1)

/-! ### What is handed out in full -/
def Fact.robust : Fact → Bool
  | @Fact.ow α inst _ _ _ => @Rep.flat α inst
  | @Fact.od _ _ _ _ _ _ => true
  | @Fact.tkn _ _ _ _ _ => true
  | .bx _ _ _ => true
  | .pr _ => true
  | _ => false
theorem Fact.robust_frame {A A' : Nat → Prop} {n : Nat} {f : Fact} (hr : f.robust = true) (h : f.holds A n w) (hb : ∀ b ∈ f.owns, w'.heap[b]? = w.heap[b]?) (ht : ∀ b ∈ f.toks, w'.heap[b]? = w.heap[b]? ∧ ¬ A' b) : f.holds A' n w' := by
  cases f with
  | ow e v xs =>
    obtain ⟨cells, h1, h2⟩ := h
    exact ⟨cells, ownsRow_frame h1 hb, DL.rd _ _ _ (DL.frame _ _ _ (DL.flat hr _ _ h2) (by simp)) (by simp)⟩
  | od e v xs B =>
    obtain ⟨⟨cells, B0, h1, h2, h3, h4⟩, h5⟩ := h
    exact ⟨⟨cells, B0, ownsRow_frame h1 hb, DL.frame _ _ _ h2 fun b hb => (ht b (h4 b hb)).1, h3, h4⟩, fun b hb => ⟨lt_of_heap (ht b hb).1 (h5 b hb).1, (ht b hb).2⟩⟩
  | tkn v x B =>
    obtain ⟨⟨B0, h1, h3, h4⟩, h5⟩ := h
    exact ⟨⟨B0, h1.frame fun b hb => (ht b (h4 b hb)).1, h3, h4⟩, fun b hb => ⟨lt_of_heap (ht b hb).1 (h5 b hb).1, (ht b hb).2⟩⟩
  | bx b t cs =>
    have := hb b (by simp [Fact.owns])
    simp only [Fact.holds] at h ⊢
    rw [this, h]
  | pr p => exact h
  | _ => simp [Fact.robust] at hr
/-- What a callee leaves, joined to what the caller has: it lies apart from all that the caller has. -/
theorem SH.join_self {Δ : Ctx} (h : SH A w0 w Γ) (k : SH nowhere w w' Δ) (hp : Δ.all Fact.robust = true) : SH A w0 w' (Δ ++ Γ) := by
  have ho : Ctx.owns (Δ ++ Γ) = Δ.owns ++ Γ.owns := by simp [Ctx.owns]
  have ht : Ctx.toks (Δ ++ Γ) = Δ.toks ++ Γ.toks := by simp [Ctx.toks]
  have hg : Grow w w' [] := Grow.of_below k.below []
  have h2 := h.grow hg
  refine ⟨h2.below, h.av, ?_, ?_, ?_, ?_, ?_⟩
  · rw [ho, List.nodup_append]
    refine ⟨k.nd, h.nd, fun a ha b hb e => ?_⟩
    subst e
    have h1 := (k.ge a ha).1
    have h3 := (h.ge a hb).2
    omega
  · intro b hb
    rw [ho] at hb
    rcases List.mem_append.1 hb with hb | hb
    · exact ⟨Nat.le_trans h.lt (k.ge b hb).1, (k.ge b hb).2⟩
    · exact h2.ge b hb
  · rw [ht, List.nodup_append]
    refine ⟨k.tnd, h.tnd, fun a ha b hb e => ?_⟩
    subst e
    have h1 := k.tge a ha
    have h3 := (h.tlt a hb).1
    omega
  · intro b hb
    rw [ht] at hb
    rcases List.mem_append.1 hb with hb | hb
    · exact Nat.le_trans h.lt (k.tge b hb)
    · exact h.tge b hb
  · intro f hf
    rcases List.mem_append.1 hf with hf | hf
    · have hk := k.all f hf
      have hr := List.all_eq_true.1 hp f hf
      refine (?_ : f.holds (fun k => A k ∨ k ∈ Ctx.owns (Δ ++ Γ)) w0.heap.size w')
      have hk' : f.holds (fun k => A k ∨ k ∈ Ctx.owns (Δ ++ Γ)) w.heap.size w' := by
        refine Fact.robust_frame hr hk (fun _ _ => rfl) fun b hb => ⟨rfl, ?_⟩
        have hbt : b ∈ Δ.toks := List.mem_flatMap.2 ⟨f, hf, hb⟩
        have h1 := k.tge b hbt
        rintro (hA | hO)
        · have := h.av b hA
          have := h.lt
          omega
        · rw [ho] at hO
          rcases List.mem_append.1 hO with hO | hO
          · exact (k.tlt b hbt).2 hO
          · have := (h.ge b hO).2; omega
      cases f with
      | pa p x => simp [Fact.robust] at hr
      | _ => exact hk'
    · refine Fact.frame (h.all f hf) (fun b hb => hg.block b (h.ge b (List.mem_flatMap.2 ⟨f, hf, hb⟩)).2 (by simp)) (fun j hj => hg.block j (Nat.lt_of_lt_of_le hj h.lt) (by simp)) (fun j hj ha => ⟨hg.block j hj (by simp), ?_⟩)
      rintro (hj' | hj')
      · exact ha (.inl hj')
      · rw [ho] at hj'
        rcases List.mem_append.1 hj' with hj' | hj'
        · have := (k.ge j hj').1; omega
        · exact ha (.inr hj')
end
end Go.Tc
