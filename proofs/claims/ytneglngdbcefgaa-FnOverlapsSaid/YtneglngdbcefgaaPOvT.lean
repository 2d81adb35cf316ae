/-
  Words that are rewritten and become shorter: joinable overlaps give one normal word; what a search finds. No program in sight. No condition.
-/
import Derived.Test.YtneglngdbcefgaaPFind
import Derived.Test.YtneglngdbcefgaaPDrv
import Derived.Test.YtneglngdbcefgaaPNf
namespace Go.Fn
open Go Go.Tc
/-- A step at some place. -/
def stp (rs : List GRewrite) (u v : List Int) : Prop := ∃ r ∈ rs, ∃ x y, u = x ++ (r.From ++ y) ∧ v = x ++ (r.To ++ y)
theorem stp.ctx {rs : List GRewrite} {u v : List Int} (h : stp rs u v) (p q : List Int) : stp rs (p ++ (u ++ q)) (p ++ (v ++ q)) := by
  obtain ⟨r, hr, x, y, rfl, rfl⟩ := h
  exact ⟨r, hr, p ++ x, y ++ q, by simp only [List.append_assoc], by simp only [List.append_assoc]⟩
/-- Any number of steps. -/
inductive Rch (rs : List GRewrite) : List Int → List Int → Prop
  | refl (u : List Int) : Rch rs u u
  | head {u v w : List Int} : stp rs u v → Rch rs v w → Rch rs u w
theorem Rch.trans {rs : List GRewrite} {u v w : List Int} (h : Rch rs u v) (h2 : Rch rs v w) : Rch rs u w := by
  induction h with
  | refl u => exact h2
  | head hs _ ih => exact .head hs (ih h2)
theorem Rch.ctx {rs : List GRewrite} {u v : List Int} (h : Rch rs u v) (p q : List Int) : Rch rs (p ++ (u ++ q)) (p ++ (v ++ q)) := by
  induction h with
  | refl u => exact .refl _
  | head hs _ ih => exact .head (hs.ctx p q) ih
def jbl (rs : List GRewrite) (p q : List Int) : Prop := ∃ z, Rch rs p z ∧ Rch rs q z
theorem jbl.symm {rs : List GRewrite} {p q : List Int} (h : jbl rs p q) : jbl rs q p := by
  obtain ⟨z, h1, h2⟩ := h
  exact ⟨z, h2, h1⟩
theorem jbl.ctx {rs : List GRewrite} {u v : List Int} (h : jbl rs u v) (p q : List Int) : jbl rs (p ++ (u ++ q)) (p ++ (v ++ q)) := by
  obtain ⟨z, h1, h2⟩ := h
  exact ⟨_, h1.ctx p q, h2.ctx p q⟩
theorem jbl.rfl' {rs : List GRewrite} (p : List Int) : jbl rs p p := ⟨p, .refl _, .refl _⟩
def nrm (rs : List GRewrite) (u : List Int) : Prop := ∀ v, ¬ stp rs u v
/-- All overlaps are joinable. -/
def cps (rs : List GRewrite) : Prop := ∀ (i k : Nat) (hi : i < rs.length) (hk : k < rs.length) (t c e : List Int), rs[i].From = t ++ c → rs[k].From = c ++ e → c ≠ [] → ¬ (i = k ∧ t = []) → jbl rs (rs[i].To ++ e) (t ++ rs[k].To)
theorem app_split {x a x' b : List Int} (h : x ++ a = x' ++ b) (hl : x.length ≤ x'.length) : ∃ t, x' = x ++ t ∧ a = t ++ b := by
  rcases List.append_eq_append_iff.1 h with ⟨t, e1, e2⟩ | ⟨t, e1, e2⟩
  · exact ⟨t, e1, e2⟩
  · have : t = [] := by
      apply List.eq_nil_of_length_eq_zero
      rw [e1, List.length_append] at hl
      omega
    subst this
    exact ⟨[], by rw [List.append_nil] at e1 ⊢; exact e1.symm, by rw [List.nil_append] at e2 ⊢; exact e2.symm⟩
theorem lc_one {rs : List GRewrite} (hc : cps rs) {i k : Nat} (hi : i < rs.length) (hk : k < rs.length) {x y x' y' : List Int} (h : x ++ (rs[i].From ++ y) = x' ++ (rs[k].From ++ y')) (h1 : x.length ≤ x'.length) (h2 : x.length + rs[i].From.length ≤ x'.length + rs[k].From.length) :
    jbl rs (x ++ (rs[i].To ++ y)) (x' ++ (rs[k].To ++ y')) := by
  obtain ⟨t, rfl, e⟩ := app_split h h1
  by_cases h3 : rs[i].From.length ≤ t.length
  · obtain ⟨t2, rfl, rfl⟩ := app_split e h3
    refine ⟨x ++ (rs[i].To ++ (t2 ++ (rs[k].To ++ y'))), ?_, ?_⟩
    · refine .head ⟨rs[k], List.getElem_mem hk, x ++ (rs[i].To ++ t2), y', ?_, ?_⟩ (.refl _)
      · simp only [List.append_assoc]
      · simp only [List.append_assoc]
    · refine .head ⟨rs[i], List.getElem_mem hi, x, t2 ++ (rs[k].To ++ y'), ?_, ?_⟩ (.refl _)
      · simp only [List.append_assoc]
      · rfl
  · obtain ⟨c, ea, eb⟩ := app_split e.symm (by omega)
    have hcl : 0 < c.length := by
      have := congrArg List.length ea
      rw [List.length_append] at this
      omega
    have hbl : c.length ≤ rs[k].From.length := by
      have := congrArg List.length ea
      rw [List.length_append] at this h2
      omega
    obtain ⟨e', ec, ed⟩ := app_split eb.symm hbl
    by_cases hs : i = k ∧ t = []
    · obtain ⟨rfl, rfl⟩ := hs
      rw [List.nil_append] at ea
      have : e' = [] := by
        rw [ea] at ec
        apply List.eq_nil_of_length_eq_zero
        have := congrArg List.length ec
        rw [List.length_append] at this
        omega
      subst this
      rw [List.nil_append] at ed
      subst ed
      rw [List.append_nil]
      exact jbl.rfl' _
    · have hj := (hc i k hi hk t c e' ea ec (fun h => by rw [h] at hcl; simp at hcl) hs).ctx x y'
      rw [ed]
      simp only [List.append_assoc] at hj ⊢
      exact hj
theorem lc_all {rs : List GRewrite} (hc : cps rs) (hl : ∀ r ∈ rs, 2 ≤ r.From.length ∧ r.From.length ≤ 3) {u p q : List Int} (hp : stp rs u p) (hq : stp rs u q) : jbl rs p q := by
  obtain ⟨a, ha, x, y, rfl, rfl⟩ := hp
  obtain ⟨b, hb, x', y', e, rfl⟩ := hq
  obtain ⟨i, hi, rfl⟩ := List.mem_iff_getElem.1 ha
  obtain ⟨k, hk, rfl⟩ := List.mem_iff_getElem.1 hb
  have l1 := hl _ ha
  have l2 := hl _ hb
  by_cases h1 : x.length ≤ x'.length ∧ x.length + rs[i].From.length ≤ x'.length + rs[k].From.length
  · exact lc_one hc hi hk e h1.1 h1.2
  · by_cases h2 : x'.length ≤ x.length ∧ x'.length + rs[k].From.length ≤ x.length + rs[i].From.length
    · exact (lc_one hc hk hi e.symm h2.1 h2.2).symm
    · exfalso
      omega
theorem nf_ex {rs : List GRewrite} (hs : ∀ u v, stp rs u v → v.length < u.length) : ∀ (n : Nat) (z : List Int), z.length ≤ n → ∃ v, Rch rs z v ∧ nrm rs v
  | n, z, hn => by
    by_cases h : nrm rs z
    · exact ⟨z, .refl _, h⟩
    · have h' : ∃ v, stp rs z v := Classical.byContradiction fun e => h fun v hv => e ⟨v, hv⟩
      obtain ⟨v, hv⟩ := h'
      have hl := hs _ _ hv
      cases n with
      | zero => omega
      | succ n =>
        obtain ⟨w, h1, h2⟩ := nf_ex hs n v (by omega)
        exact ⟨w, .head hv h1, h2⟩
theorem newman {rs : List GRewrite} (hs : ∀ u v, stp rs u v → v.length < u.length) (hc : ∀ u p q, stp rs u p → stp rs u q → jbl rs p q) : ∀ (n : Nat) (u : List Int), u.length ≤ n → ∀ a b, Rch rs u a → Rch rs u b → nrm rs a → nrm rs b → a = b := by
  intro n
  induction n with
  | zero =>
    intro u hu a b ha hb na nb
    have hno : nrm rs u := fun v hv => by have := hs _ _ hv; omega
    cases ha with
    | refl => cases hb with
      | refl => rfl
      | head h _ => exact absurd h (hno _)
    | head h _ => exact absurd h (hno _)
  | succ n ih =>
    intro u hu a b ha hb na nb
    cases ha with
    | refl => cases hb with
      | refl => rfl
      | head h _ => exact absurd h (na _)
    | head hp ha =>
      cases hb with
      | refl => exact absurd hp (nb _)
      | head hq hb =>
        obtain ⟨z, z1, z2⟩ := hc _ _ _ hp hq
        obtain ⟨c, c1, c2⟩ := nf_ex hs z.length z (Nat.le_refl _)
        have hpl := hs _ _ hp
        have hql := hs _ _ hq
        exact (ih _ (by omega) _ _ ha (z1.trans c1) na c2).trans (ih _ (by omega) _ _ hb (z2.trans c1) nb c2).symm
/-! ### Moves are steps -/
theorem stp_move {rs : List GRewrite} {u : List Int} {m : Gmove} (h : m ∈ movesL rs u) : stp rs u m.word := by
  unfold movesL at h
  obtain ⟨k, hk, hm⟩ := List.mem_flatMap.1 h
  have hk := List.mem_range.1 hk
  unfold mvK at hm
  obtain ⟨a, ha, rfl⟩ := List.mem_map.1 hm
  obtain ⟨hp, _⟩ := List.mem_filter.1 ha
  have hpm := posn_mem hp
  have hpp : (u.drop a).take (rs.getD k zR).From.length = (rs.getD k zR).From := by
    unfold posn at hp
    simpa using (List.mem_filter.1 hp).2
  have e : rs.getD k zR = rs[k] := by rw [List.getD_eq_getElem?_getD, List.getElem?_eq_getElem hk]; rfl
  refine ⟨rs.getD k zR, by rw [e]; exact List.getElem_mem hk, u.take a, u.drop (a + (rs.getD k zR).From.length), ?_, ?_⟩
  · conv => lhs; rw [← List.take_append_drop a u]
    congr 1
    conv => lhs; rw [← List.take_append_drop (rs.getD k zR).From.length (u.drop a), hpp, List.drop_drop]
  · show newW u (rs.getD k zR) a = _
    unfold newW putW
    rw [List.append_assoc]
theorem move_stp {rs : List GRewrite} (hs : ∀ r ∈ rs, r.To.length ≤ r.From.length) {u v : List Int} (hu : u.length ≤ 400) (h : stp rs u v) : ∃ m ∈ movesL rs u, m.word = v := by
  obtain ⟨r, hr, x, y, rfl, rfl⟩ := h
  obtain ⟨k, hk, rfl⟩ := List.mem_iff_getElem.1 hr
  have e : rs.getD k zR = rs[k] := by rw [List.getD_eq_getElem?_getD, List.getElem?_eq_getElem hk]; rfl
  have hl := hs _ hr
  simp only [List.length_append] at hu
  have hnw : newW (x ++ (rs[k].From ++ y)) rs[k] x.length = x ++ (rs[k].To ++ y) := by
    unfold newW putW
    rw [List.take_left' rfl, List.append_assoc]
    congr 2
    rw [← List.append_assoc, List.drop_left' (by rw [List.length_append])]
  refine ⟨⟨(k : Int), (x.length : Int), newW (x ++ (rs[k].From ++ y)) rs[k] x.length⟩, ?_, hnw⟩
  unfold movesL
  rw [List.mem_flatMap]
  refine ⟨k, List.mem_range.2 hk, ?_⟩
  unfold mvK
  rw [List.mem_map, e]
  refine ⟨x.length, ?_, rfl⟩
  rw [List.mem_filter]
  constructor
  · unfold posn
    rw [List.mem_filter, List.mem_range]
    refine ⟨by simp only [List.length_append]; omega, decide_eq_true ?_⟩
    rw [List.drop_left' rfl, List.take_left' rfl]
  · unfold tooB
    rw [hnw, decide_eq_false (by simp only [List.length_append]; omega)]
    rfl
theorem normB_nrm {rs : List GRewrite} (u : List Int) : normB rs u = true ↔ nrm rs u := by
  unfold normB
  rw [List.all_eq_true]
  constructor
  · rintro h v ⟨r, hr, x, y, rfl, rfl⟩
    have h0 := h r hr
    rw [decide_eq_true_eq] at h0
    have : x.length ∈ posn (x ++ (r.From ++ y)) r.From := by
      unfold posn
      rw [List.mem_filter, List.mem_range]
      refine ⟨by simp only [List.length_append]; omega, decide_eq_true ?_⟩
      rw [List.drop_left' rfl, List.take_left' rfl]
    rw [List.eq_nil_of_length_eq_zero h0] at this
    simp at this
  · intro h r hr
    rw [decide_eq_true_eq]
    apply Classical.byContradiction
    intro hne
    cases hp : posn u r.From with
    | nil => rw [hp] at hne; exact hne rfl
    | cons a l =>
      have hm : a ∈ posn u r.From := by rw [hp]; exact List.mem_cons_self ..
      have hpp : (u.drop a).take r.From.length = r.From := by
        unfold posn at hm
        simpa using (List.mem_filter.1 hm).2
      refine h (u.take a ++ (r.To ++ u.drop (a + r.From.length))) ⟨r, hr, u.take a, u.drop (a + r.From.length), ?_, rfl⟩
      conv => lhs; rw [← List.take_append_drop a u]
      congr 1
      conv => lhs; rw [← List.take_append_drop r.From.length (u.drop a), hpp, List.drop_drop]
/-! ### What a search finds -/
def NodK (fs : List Gfound) : Prop := (fs.map kF).Nodup
theorem goM_nod (k : Nat) : ∀ (ms : List Gmove) (fs : List Gfound), NodK fs → NodK (goM k ms fs).1
  | [], fs, h => h
  | m :: ms, fs, h => by
    by_cases hf : keyW m.word ∈ fs.map kF
    · rw [goM_in hf]; exact goM_nod k ms fs h
    · have h' : NodK (fs ++ [toF m k]) := by
        unfold NodK
        rw [List.map_append, List.nodup_append]
        refine ⟨h, by simp, fun a ha b hb e => ?_⟩
        have hb' : b = keyW m.word := by simpa [kF, toF] using hb
        subst hb'
        rw [e] at ha
        exact hf ha
      rw [goM_new hf]
      split
      · exact h'
      · exact goM_nod k ms _ h'
theorem srch_gen {rs : List GRewrite} (b : Int) : ∀ (f k : Nat) (fs : List Gfound) (c : Bool), fs.length ≤ 299 → k ≤ fs.length → 1 ≤ fs.length → k + f = 301 → StepF rs fs → NodK fs → (c = true → Closed rs k fs) →
    StepF rs (srch rs b f k fs c).1 ∧ fs <+: (srch rs b f k fs c).1 ∧ NodK (srch rs b f k fs c).1 ∧ ((srch rs b f k fs c).2 = true → Closed rs (srch rs b f k fs c).1.length (srch rs b f k fs c).1)
  | 0, k, fs, c, hl, hk, h1, hf, hS, hN, hC => by omega
  | f + 1, k, fs, c, hl, hk, h1, hf, hS, hN, hC => by
    rw [srch]
    by_cases hlt : k < fs.length
    · rw [List.getElem?_eq_getElem hlt]
      simp only
      by_cases hkb : (k : Int) = b
      · rw [if_pos hkb]
        exact ⟨hS, List.prefix_refl _, hN, fun h => by cases h⟩
      · rw [if_neg hkb]
        have hgl := goM_len k (movesL rs fs[k].move_word) fs hl
        have hgn := goM_nod k (movesL rs fs[k].move_word) fs hN
        obtain ⟨gs, gp⟩ := goM_step (rs := rs) k _ (movesL rs fs[k].move_word) fs hlt rfl (fun m hm => hm) hS
        cases h2 : (goM k (movesL rs fs[k].move_word) fs).2 with
        | true =>
          have e : goM k (movesL rs fs[k].move_word) fs = ((goM k (movesL rs fs[k].move_word) fs).1, true) := by rw [← h2]
          rw [e]
          exact ⟨gs, gp, hgn, fun h => by cases h⟩
        | false =>
          have e : goM k (movesL rs fs[k].move_word) fs = ((goM k (movesL rs fs[k].move_word) fs).1, false) := by rw [← h2]
          rw [e]
          simp only
          have ga := (goM_all k (movesL rs fs[k].move_word) fs h2).1
          obtain ⟨a, b', c', d⟩ := srch_gen b f (k + 1) (goM k (movesL rs fs[k].move_word) fs).1 (c && !tooL rs fs[k].move_word) (hgl.1 h2) (by omega) (by omega) (by omega) gs hgn (fun hc => by
            simp only [Bool.and_eq_true] at hc
            intro j hj hjk m hm
            have hjl : j < fs.length := by omega
            rw [pre_get gp hjl] at hm
            by_cases hjk2 : j = k
            · subst hjk2
              exact ga m hm
            · exact (gp.map kF).subset (hC hc.1 j hjl (by omega) m hm))
          exact ⟨a, gp.trans b', c', d⟩
    · rw [List.getElem?_eq_none (by omega)]
      exact ⟨hS, List.prefix_refl _, hN, fun hc j hj hjk m hm => hC hc j hj (by simp only at hjk hj ⊢; omega) m hm⟩
theorem rch_snoc {rs : List GRewrite} {u v w : List Int} (h : Rch rs u v) (hs : stp rs v w) : Rch rs u w := h.trans (.head hs (.refl _))
theorem step_rch {rs : List GRewrite} {fs : List Gfound} {w : List Int} (hS : StepF rs fs) (h0 : 0 < fs.length) (hw : fs[0].move_word = w) : ∀ (n i : Nat) (hi : i < fs.length), i ≤ n → Rch rs w fs[i].move_word := by
  intro n
  induction n with
  | zero =>
    intro i hi hn
    obtain rfl : i = 0 := by omega
    rw [hw]
    exact .refl _
  | succ n ih =>
    intro i hi hn
    by_cases hz : i = 0
    · subst hz
      rw [hw]
      exact .refl _
    · obtain ⟨p, hp, m, hm, e⟩ := hS i hi (by omega)
      rw [e]
      exact rch_snoc (ih p (by omega) (by omega)) (stp_move hm)
theorem nod_of_map {α β : Type} {f : α → β} : ∀ xs : List α, (xs.map f).Nodup → xs.Nodup
  | [], _ => List.nodup_nil
  | x :: l, h => by
    rw [List.map_cons, List.nodup_cons] at h
    rw [List.nodup_cons]
    exact ⟨fun hm => h.1 (List.mem_map_of_mem hm), nod_of_map l h.2⟩
/-- What a search from a word finds. -/
theorem sch_gen {rs : List GRewrite} {f : List Int} (b : Int) (hr : rewsB rs = true) (hf : wordB f = true) : (∀ g ∈ (sch rs f b).1, Rch rs f g.move_word) ∧ (wF (sch rs f b).1).Nodup ∧ f ∈ wF (sch rs f b).1 ∧
    ((sch rs f b).2 = true → ∀ u ∈ wF (sch rs f b).1, ∀ m ∈ movesL rs u, m.word ∈ wF (sch rs f b).1) := by
  obtain ⟨_, pG, pl, p1⟩ := sch_props (b := b) hr hf
  obtain ⟨s1, s2, s3, s4⟩ := srch_gen (rs := rs) b 301 0 [⟨0, 0, f, -1⟩] true (by simp) (by simp) (by simp) rfl (fun i hi h0 => by simp at hi; omega) (by simp [NodK]) (fun _ j hj h0 => by omega)
  have h00 : ((sch rs f b).1[0]'(by omega)).move_word = f := by
    have := pre_get s2 (i := 0) (by simp)
    exact congrArg Gfound.move_word this
  refine ⟨?_, ?_, ?_, ?_⟩
  · intro g hg
    obtain ⟨i, hi, rfl⟩ := List.mem_iff_getElem.1 hg
    exact step_rch (fs := (sch rs f b).1) s1 (by omega) h00 i i hi (Nat.le_refl _)
  · have hk : ((sch rs f b).1.map kF).Nodup := s3
    have : (sch rs f b).1.map kF = (wF (sch rs f b).1).map keyW := by unfold wF; rw [List.map_map]; rfl
    rw [this] at hk
    exact nod_of_map _ hk
  · exact List.mem_map.2 ⟨_, List.getElem_mem (by omega : 0 < (sch rs f b).1.length), h00⟩
  · intro hc u hu m hm
    obtain ⟨g, hg, rfl⟩ := List.mem_map.1 hu
    obtain ⟨j, hj, rfl⟩ := List.mem_iff_getElem.1 hg
    have hk := s4 hc j hj hj m hm
    obtain ⟨g', hg', e⟩ := List.mem_map.1 hk
    refine List.mem_map.2 ⟨g', hg', ?_⟩
    exact keyW_inj (wordB_letters (pG g' hg')) (wordB_letters (mv_word hr (pG _ (List.getElem_mem hj)) hm)) e
end Go.Fn
