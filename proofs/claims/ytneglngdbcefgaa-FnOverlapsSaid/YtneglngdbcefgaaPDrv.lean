/-
  The plain law of FnDerivations: words that are found have derivations, and a complete search is closed. No program in sight. No condition.
-/
import Derived.Test.YtneglngdbcefgaaPSrc
import Derived.Test.YtneglngdbcefgaaPDerOf
import Derived.Test.YtneglngdbcefgaaPMoD
namespace Go.Fn
open Go Go.Tc
/-! ### Equal lists -/
theorem b10Nums_eq (a b : List Int) (h : a.length ≤ 1048576) : F_laws_b10Nums a b = some (decide (a = b)) := by
  unfold F_laws_b10Nums
  by_cases hl : a.length = b.length
  · rw [decide_eq_false (by omega : ¬ (a.length : Int) ≠ (b.length : Int)), cond_false]
    rw [run_all a.length (by omega) (fun i => decide (a[i]? = b[i]?)) (.ret false) (.brk (a.length : Int)) ?_ ?_ ?_]
    · by_cases k : ∀ i, i < a.length → decide (a[i]? = b[i]?) = true
      · rw [if_pos k, bnd_some_eq]
        have : a = b := by
          refine List.ext_getElem? fun i => ?_
          by_cases hi : i < a.length
          · simpa using k i hi
          · rw [List.getElem?_eq_none (by omega), List.getElem?_eq_none (by omega)]
        rw [decide_eq_true this]
        rfl
      · rw [if_neg k, bnd_some_eq]
        have : ¬ a = b := fun e => k fun i _ => by rw [e]; simp
        rw [decide_eq_false this]
        rfl
    · intro i hi hp
      have hi2 : i < b.length := by omega
      simp only [decide_eq_true_eq, List.getElem?_eq_getElem hi, List.getElem?_eq_getElem hi2, Option.some.injEq] at hp
      simp only [F_laws_b10Nums_L1]
      rw [decide_eq_true (by omega), cond_true, idx_nat hi, bnd_some_eq, idx_nat hi2, bnd_some_eq, decide_eq_false (by simpa using hp), cond_false]
    · intro i hi hp
      have hi2 : i < b.length := by omega
      simp only [decide_eq_false_iff_not, List.getElem?_eq_getElem hi, List.getElem?_eq_getElem hi2, Option.some.injEq] at hp
      simp only [F_laws_b10Nums_L1]
      rw [decide_eq_true (by omega), cond_true, idx_nat hi, bnd_some_eq, idx_nat hi2, bnd_some_eq, decide_eq_true (by simpa using hp), cond_true]
    · simp [F_laws_b10Nums_L1]
  · rw [decide_eq_true (by omega : (a.length : Int) ≠ (b.length : Int)), cond_true, decide_eq_false (fun e => hl (by rw [e]))]
theorem b10Row_mem (rows : List (List Int)) (x : List Int) (h : rows.length ≤ 1048576) (h2 : ∀ r ∈ rows, r.length ≤ 1048576) : F_laws_b10Row rows x = some (rows.any fun r => decide (r = x)) := by
  unfold F_laws_b10Row
  rw [run_allp rows (by omega) (fun r => !decide (r = x)) (.ret true) (.brk (rows.length : Int)) (fun i hi => by
    simp only [F_laws_b10Row_L1, Int.ofNat_lt, hi, decide_true, cond_true, idx_nat hi, bnd_some_eq, b10Nums_eq _ x (h2 _ (List.getElem_mem hi))]
    cases decide (rows[i] = x) <;> rfl) (by simp [F_laws_b10Row_L1])]
  rw [← any_not]
  simp only [Bool.not_not]
  cases rows.any fun r => decide (r = x) <;> rfl

/-! ### What a search keeps -/
theorem mv_inv {rs : List GRewrite} {w : List Int} {m : Gmove} (h : m ∈ movesL rs w) : ∃ k a : Nat, k < rs.length ∧ a ≤ w.length ∧ a + (rs.getD k zR).From.length ≤ w.length ∧ m = ⟨(k : Int), (a : Int), newW w (rs.getD k zR) a⟩ ∧ applyW rs w (k : Int) (a : Int) = (newW w (rs.getD k zR) a, 0) := by
  unfold movesL at h
  obtain ⟨k, hk, hm⟩ := List.mem_flatMap.1 h
  have hk := List.mem_range.1 hk
  unfold mvK at hm
  obtain ⟨a, ha, rfl⟩ := List.mem_map.1 hm
  obtain ⟨hp, ht⟩ := List.mem_filter.1 ha
  have hpm := posn_mem hp
  have hpp : (w.drop a).take (rs.getD k zR).From.length = (rs.getD k zR).From := by
    unfold posn at hp
    simpa using (List.mem_filter.1 hp).2
  refine ⟨k, a, hk, hpm.1, hpm.2, rfl, ?_⟩
  unfold applyW
  rw [inB_iff'.2 (by omega : 0 ≤ (k : Int) ∧ (k : Int) ≤ (rs.length : Int) - 1), inB_iff'.2 (by omega : 0 ≤ (a : Int) ∧ (a : Int) ≤ (w.length : Int))]
  simp only [Int.toNat_natCast, Bool.and_self, cond_true]
  rw [decide_eq_true hpp, cond_true]
  have : ¬ 400 < (putW w (rs.getD k zR).To a (rs.getD k zR).From.length).length := fun h => by
    unfold tooB newW at ht
    rw [decide_eq_true h] at ht
    exact Bool.noConfusion ht
  rw [decide_eq_false this]
  rfl
/-- Each word but the first comes from an earlier one by a move. -/
def StepF (rs : List GRewrite) (fs : List Gfound) : Prop := ∀ (i : Nat) (h : i < fs.length), 0 < i → ∃ (p : Nat) (hp : p < i), ∃ m ∈ movesL rs (fs[p]'(by omega)).move_word, fs[i] = toF m p
theorem StepF.add {rs : List GRewrite} {fs : List Gfound} (h : StepF rs fs) {k : Nat} (hk : k < fs.length) {m : Gmove} (hm : m ∈ movesL rs fs[k].move_word) : StepF rs (fs ++ [toF m k]) := by
  intro i hi h0
  by_cases hlt : i < fs.length
  · obtain ⟨p, hp, m', hm', e⟩ := h i hlt h0
    refine ⟨p, hp, m', ?_, ?_⟩
    · rw [List.getElem_append_left (by omega)]; exact hm'
    · rw [List.getElem_append_left hlt]; exact e
  · have : i = fs.length := by simp at hi; omega
    subst this
    refine ⟨k, hk, m, ?_, ?_⟩
    · rw [List.getElem_append_left hk]; exact hm
    · simp
theorem goM_step {rs : List GRewrite} (k : Nat) (w : List Int) : ∀ (ms : List Gmove) (fs : List Gfound), (hk : k < fs.length) → fs[k].move_word = w → (∀ m ∈ ms, m ∈ movesL rs w) → StepF rs fs → StepF rs (goM k ms fs).1 ∧ fs <+: (goM k ms fs).1
  | [], fs, hk, hw, hm, h => ⟨h, List.prefix_refl _⟩
  | m :: ms, fs, hk, hw, hm, h => by
    by_cases hf : keyW m.word ∈ fs.map kF
    · rw [goM_in hf]; exact goM_step k w ms fs hk hw (fun x hx => hm x (by simp [hx])) h
    · have h' := h.add hk (m := m) (by rw [hw]; exact hm m (by simp))
      rw [goM_new hf]
      split
      · exact ⟨h', List.prefix_append _ _⟩
      · obtain ⟨a, b⟩ := goM_step k w ms (fs ++ [toF m k]) (by simp; omega) (by rw [List.getElem_append_left hk]; exact hw) (fun x hx => hm x (by simp [hx])) h'
        exact ⟨a, (List.prefix_append _ _).trans b⟩
theorem goM_all (k : Nat) : ∀ (ms : List Gmove) (fs : List Gfound), (goM k ms fs).2 = false → (∀ m ∈ ms, keyW m.word ∈ (goM k ms fs).1.map kF) ∧ fs <+: (goM k ms fs).1
  | [], fs, _ => ⟨by simp, List.prefix_refl _⟩
  | m :: ms, fs, h => by
    by_cases hf : keyW m.word ∈ fs.map kF
    · rw [goM_in hf] at h ⊢
      obtain ⟨a, b⟩ := goM_all k ms fs h
      refine ⟨fun x hx => ?_, b⟩
      rcases List.mem_cons.1 hx with rfl | hx
      · exact (b.map kF).subset hf
      · exact a x hx
    · rw [goM_new hf] at h ⊢
      by_cases h3 : fs.length + 1 = 300
      · rw [if_pos h3] at h; cases h
      · rw [if_neg h3] at h ⊢
        obtain ⟨a, b⟩ := goM_all k ms _ h
        refine ⟨fun x hx => ?_, (List.prefix_append _ _).trans b⟩
        rcases List.mem_cons.1 hx with rfl | hx
        · exact (b.map kF).subset (by simp [kF, toF])
        · exact a x hx
/-- All moves of the first k words lead to words that are found. -/
def Closed (rs : List GRewrite) (k : Nat) (fs : List Gfound) : Prop := ∀ (j : Nat) (h : j < fs.length), j < k → ∀ m ∈ movesL rs fs[j].move_word, keyW m.word ∈ fs.map kF
theorem pre_get {α : Type} {a b : List α} (h : a <+: b) {i : Nat} (hi : i < a.length) : b[i]'(by have := h.length_le; omega) = a[i] := (h.getElem hi).symm
theorem len_new {rs : List GRewrite} (hr : ∀ r ∈ rs, RuleD r) {w : List Int} {m : Gmove} (h : m ∈ movesL rs w) : m.word.length ≤ w.length + 1 := by
  obtain ⟨k, a, hk, ha, hl, rfl, _⟩ := mv_inv h
  simp only
  unfold newW
  rw [putW_len hl]
  have e : rs.getD k zR = rs[k] := by rw [List.getD_eq_getElem?_getD, List.getElem?_eq_getElem hk]; rfl
  have := (hr _ (List.getElem_mem hk)).2.2.2.2
  rw [e] at hl ⊢
  omega
theorem srch_more {rs : List GRewrite} (hd : ∀ r ∈ rs, RuleD r) (n : Nat) : ∀ (f k : Nat) (fs : List Gfound) (c : Bool), fs.length ≤ 299 → k ≤ fs.length → k ≤ 12 → 1 ≤ fs.length → k + f = 301 → StepF rs fs → GoodF (fun w => w.length ≤ n + k) fs → (c = true → Closed rs k fs) →
    StepF rs (srch rs 12 f k fs c).1 ∧ fs <+: (srch rs 12 f k fs c).1 ∧ GoodF (fun w => w.length ≤ n + 13) (srch rs 12 f k fs c).1 ∧ ((srch rs 12 f k fs c).2 = true → Closed rs (srch rs 12 f k fs c).1.length (srch rs 12 f k fs c).1)
  | 0, k, fs, c, hl, hk, h12, h1, hf, hS, hG, hC => by omega
  | f + 1, k, fs, c, hl, hk, h12, h1, hf, hS, hG, hC => by
    rw [srch]
    have hG' : GoodF (fun w => w.length ≤ n + 13) fs := fun g hg => by have := hG g hg; simp only at this ⊢; omega
    by_cases hlt : k < fs.length
    · rw [List.getElem?_eq_getElem hlt]
      simp only
      by_cases hkb : (k : Int) = 12
      · rw [if_pos hkb]
        exact ⟨hS, List.prefix_refl _, hG', fun h => by cases h⟩
      · rw [if_neg hkb]
        have hgl := goM_len k (movesL rs fs[k].move_word) fs hl
        have hlen := hG _ (List.getElem_mem hlt)
        simp only at hlen
        have hgg := goM_good (P := fun w => w.length ≤ n + (k + 1)) k (movesL rs fs[k].move_word) fs (fun m hm => by have := len_new hd hm; omega) (fun g hg => by have := hG g hg; simp only at this ⊢; omega)
        obtain ⟨gs, gp⟩ := goM_step (rs := rs) k _ (movesL rs fs[k].move_word) fs hlt rfl (fun m hm => hm) hS
        cases h2 : (goM k (movesL rs fs[k].move_word) fs).2 with
        | true =>
          have e : goM k (movesL rs fs[k].move_word) fs = ((goM k (movesL rs fs[k].move_word) fs).1, true) := by rw [← h2]
          rw [e]
          exact ⟨gs, gp, fun g hg => by have := hgg g hg; simp only at this ⊢; omega, fun h => by cases h⟩
        | false =>
          have e : goM k (movesL rs fs[k].move_word) fs = ((goM k (movesL rs fs[k].move_word) fs).1, false) := by rw [← h2]
          rw [e]
          simp only
          have ga := (goM_all k (movesL rs fs[k].move_word) fs h2).1
          obtain ⟨a, b, c', d⟩ := srch_more hd n f (k + 1) (goM k (movesL rs fs[k].move_word) fs).1 (c && !tooL rs fs[k].move_word) (hgl.1 h2) (by omega) (by omega) (by omega) (by omega) gs hgg (fun hc => by
            simp only [Bool.and_eq_true] at hc
            intro j hj hjk m hm
            have hjl : j < fs.length := by omega
            rw [pre_get gp hjl] at hm
            by_cases hjk2 : j = k
            · subst hjk2
              exact ga m hm
            · exact (gp.map kF).subset (hC hc.1 j hjl (by omega) m hm))
          exact ⟨a, gp.trans b, c', d⟩
    · rw [List.getElem?_eq_none (by omega)]
      exact ⟨hS, List.prefix_refl _, hG', fun hc j hj hjk m hm => hC hc j hj (by simp only at hjk hj ⊢; omega) m hm⟩

/-! ### The path's derivation -/
theorem derW_append {rs : List GRewrite} : ∀ (ss : List (List Int)) (w v : List Int) (s : List Int), derW rs ss w = (v, 0) → s.length = 2 → (applyW rs v (s.getD 0 0) (s.getD 1 0)).2 = 0 → derW rs (ss ++ [s]) w = ((applyW rs v (s.getD 0 0) (s.getD 1 0)).1, 0)
  | [], w, v, s, h, hs, ha => by
    simp only [derW, Prod.mk.injEq, and_true] at h
    subst h
    show derW rs [s] w = _
    unfold derW
    rw [decide_eq_false (by simpa using hs), cond_false, decide_eq_false (by simpa using ha), cond_false]
    rfl
  | t :: ss, w, v, s, h, hs, ha => by
    have h0 : (derW rs (t :: ss) w).2 = 0 := by rw [h]
    obtain ⟨h1, h2, h3⟩ := derW_cons h0
    have e1 : decide (t.length ≠ 2) = false := decide_eq_false (by simpa using h1)
    have e2 : decide ((applyW rs w (t.getD 0 0) (t.getD 1 0)).2 ≠ 0) = false := decide_eq_false (by simpa using h2)
    have h' : derW rs ss (applyW rs w (t.getD 0 0) (t.getD 1 0)).1 = (v, 0) := by
      rw [← h]
      conv => rhs; unfold derW
      rw [e1, e2]
      rfl
    have := derW_append ss _ v s h' hs ha
    rw [List.cons_append]
    unfold derW
    rw [e1, e2]
    exact this
theorem pth_der {rs : List GRewrite} {fs : List Gfound} {w : List Int} (hS : StepF rs fs) (h0 : 0 < fs.length) (hw : fs[0].move_word = w) : ∀ (f i : Nat) (hi : i < fs.length), i ≤ f → derW rs (pth fs f i) w = (fs[i].move_word, 0) ∧ (pth fs f i).length ≤ i
  | 0, i, hi, hf => by
    obtain rfl : i = 0 := by omega
    rw [pth]
    exact ⟨by rw [hw]; rfl, Nat.le_refl _⟩
  | f + 1, i, hi, hf => by
    rw [pth]
    by_cases hz : i = 0
    · subst hz
      rw [if_pos rfl]
      exact ⟨by rw [hw]; rfl, Nat.le_refl _⟩
    · rw [if_neg hz]
      obtain ⟨p, hp, m, hm, e⟩ := hS i hi (by omega)
      obtain ⟨k, a, hk, ha, hl, rfl, hap⟩ := mv_inv hm
      rw [fget hi, e]
      simp only [toF, Int.toNat_natCast, rowF]
      obtain ⟨d1, d2⟩ := pth_der hS h0 hw f p (by omega) (by omega)
      have := derW_append (pth fs f p) w _ [(k : Int), (a : Int)] d1 rfl (by show (applyW rs _ (k : Int) (a : Int)).2 = 0; rw [hap])
      refine ⟨?_, by rw [List.length_append, List.length_singleton]; omega⟩
      rw [this]
      show ((applyW rs fs[p].move_word (k : Int) (a : Int)).1, (0 : Int)) = _
      rw [hap]

/-! ### The successors -/
theorem succ_run (ms : List Gmove) (b : Bool) (hm : ∀ m ∈ ms, m.word.length ≤ 1000) (hn : ms.length ≤ 100000) : ∀ (n i : Nat) (seen : List (ByteArray × Bool)) (out : List (List Int)), i + n = ms.length → out.length ≤ i → (∀ x ∈ out, ∃ m ∈ ms, m.word = x) →
    ∃ seen' out', run (F_impl_SuccessorsOf_L1 (ms, b)) (seen, out, (i : Int)) = some (.brk (seen', out', (ms.length : Int))) ∧ out <+: out' ∧ out'.length ≤ ms.length ∧ ∀ x ∈ out', ∃ m ∈ ms, m.word = x := by
  intro n
  induction n with
  | zero =>
    intro i seen out hi ho hx
    obtain rfl : i = ms.length := by omega
    refine ⟨seen, out, run_done ?_, List.prefix_refl _, ho, hx⟩
    simp only [F_impl_SuccessorsOf_L1]
    rw [decide_eq_false (by omega), cond_false]
  | succ n ih =>
    intro i seen out hi ho hx
    have hlt : i < ms.length := by omega
    have hw := hm _ (List.getElem_mem hlt)
    have hb : F_impl_SuccessorsOf_L1 (ms, b) (seen, out, (i : Int)) = cond (!((mget seen (keyW ms[i].word)).getD false)) (some (.inl (mput seen (keyW ms[i].word) true, out ++ [ms[i].word], ((i + 1 : Nat) : Int)))) (some (.inl (seen, out, ((i + 1 : Nat) : Int)))) := by
      simp only [F_impl_SuccessorsOf_L1]
      rw [decide_eq_true (by omega), cond_true, idx_nat hlt, bnd_some_eq, impl_key _ (by omega), bnd_some_eq, app_ok (by simp; omega), bnd_some_eq, w64_nat1 (by omega)]
    cases hs : (mget seen (keyW ms[i].word)).getD false
    · rw [hs, Bool.not_false, cond_true] at hb
      obtain ⟨s', o', e, q1, q2, q3⟩ := ih (i + 1) (mput seen (keyW ms[i].word) true) (out ++ [ms[i].word]) (by omega) (by simp; omega) (fun x hx' => by
        rcases List.mem_append.1 hx' with h | h
        · exact hx x h
        · exact ⟨ms[i], List.getElem_mem hlt, (List.mem_singleton.1 h).symm⟩)
      exact ⟨s', o', by rw [run_next hb, e], (List.prefix_append _ _).trans q1, q2, q3⟩
    · rw [hs, Bool.not_true, cond_false] at hb
      obtain ⟨s', o', e, q1, q2, q3⟩ := ih (i + 1) seen out (by omega) (by omega) hx
      exact ⟨s', o', by rw [run_next hb, e], q1, q2, q3⟩
theorem impl_succ {rs : List GRewrite} {w : List Int} (hr : rewsB rs = true) (hs : Sml rs) (hw : wordB w = true) : ∃ out, F_impl_SuccessorsOf rs w = some (out, 0) ∧ (∀ x ∈ out, ∃ m ∈ movesL rs w, m.word = x) ∧ out.length ≤ 100000 ∧ (out.length = 0 ↔ (movesL rs w).length = 0) := by
  have hwl := wordB_len hw
  have hml := movesL_len hr hwl
  unfold F_impl_SuccessorsOf
  rw [impl_rews rs hs, hr, impl_word w (by omega), hw, impl_moves hr hwl]
  simp only [bnd_some_eq, Bool.not_true, cond_false, Out.elim]
  have hmw : ∀ m ∈ movesL rs w, m.word.length ≤ 1000 := fun m hm => by have := wordB_len (mv_word hr hw hm); omega
  obtain ⟨s', o', e, q1, q2, q3⟩ := succ_run (movesL rs w) (tooL rs w) hmw (by omega) (movesL rs w).length 0 [] [] (by omega) (by simp) (by simp)
  rw [show ((0 : Nat) : Int) = 0 from rfl] at e
  rw [e, bnd_some_eq]
  refine ⟨o', rfl, q3, by omega, fun h => ?_, fun h => by omega⟩
  refine Nat.eq_zero_of_not_pos fun hp => ?_
  have hlt : 0 < (movesL rs w).length := hp
  have hb : F_impl_SuccessorsOf_L1 (movesL rs w, tooL rs w) ([], [], ((0 : Nat) : Int)) = some (.inl (mput [] (keyW (movesL rs w)[0].word) true, [] ++ [(movesL rs w)[0].word], ((0 + 1 : Nat) : Int))) := by
    have := hmw _ (List.getElem_mem hlt)
    simp only [F_impl_SuccessorsOf_L1]
    rw [decide_eq_true (by omega), cond_true, idx_nat hlt, bnd_some_eq, impl_key _ (by omega), bnd_some_eq, app_ok (by simp), bnd_some_eq, w64_nat1 (by omega)]
    rfl
  obtain ⟨s2, o2, e2, p1, p2, p3⟩ := succ_run (movesL rs w) (tooL rs w) hmw (by omega) ((movesL rs w).length - 1) (0 + 1) (mput [] (keyW (movesL rs w)[0].word) true) ([] ++ [(movesL rs w)[0].word]) (by omega) (by simp) (fun x hx => ⟨_, List.getElem_mem hlt, (List.mem_singleton.1 (show x ∈ [(movesL rs w)[0].word] from hx)).symm⟩)
  rw [show (0 : Int) = ((0 : Nat) : Int) from rfl, run_next hb, e2] at e
  simp only [Option.some.injEq, Out.brk.injEq, Prod.mk.injEq] at e
  have := p1.length_le
  rw [e.2.1] at this
  simp at this
  omega
theorem posn_none {rs : List GRewrite} (hd : ∀ r ∈ rs, RuleD r) {w : List Int} (hw : w.length ≤ 100) : (rs.any fun r => decide (0 < (posn w r.From).length)) = !decide ((movesL rs w).length = 0) := by
  have hiff : (rs.any fun r => decide (0 < (posn w r.From).length)) = true ↔ ¬ (movesL rs w).length = 0 := by
    rw [List.any_eq_true]
    constructor
    · rintro ⟨r, hr, h⟩
      simp only [decide_eq_true_eq] at h
      obtain ⟨k, hk, rfl⟩ := List.getElem_of_mem hr
      have e : rs.getD k zR = rs[k] := by rw [List.getD_eq_getElem?_getD, List.getElem?_eq_getElem hk]; rfl
      have hp : (posn w rs[k].From)[0] ∈ posn w rs[k].From := List.getElem_mem h
      have hpm := posn_mem hp
      have hm : (⟨(k : Int), (((posn w rs[k].From)[0] : Nat) : Int), newW w rs[k] (posn w rs[k].From)[0]⟩ : Gmove) ∈ movesL rs w := by
        unfold movesL
        refine List.mem_flatMap.2 ⟨k, List.mem_range.2 hk, ?_⟩
        unfold mvK
        rw [e]
        refine List.mem_map.2 ⟨_, List.mem_filter.2 ⟨hp, ?_⟩, rfl⟩
        unfold tooB newW
        rw [putW_len hpm.2]
        have := (hd _ (List.getElem_mem hk)).2.2.2.2
        have := (hd _ (List.getElem_mem hk)).2.2.2.1
        rw [decide_eq_false (by omega)]
        rfl
      exact fun h0 => by
        rw [List.eq_nil_of_length_eq_zero h0] at hm
        simp at hm
    · intro h
      have h1 : 0 < (movesL rs w).length := by omega
      have hm : (movesL rs w)[0] ∈ movesL rs w := List.getElem_mem h1
      unfold movesL at hm
      obtain ⟨k, hk, hm⟩ := List.mem_flatMap.1 hm
      have hk := List.mem_range.1 hk
      have e : rs.getD k zR = rs[k] := by rw [List.getD_eq_getElem?_getD, List.getElem?_eq_getElem hk]; rfl
      unfold mvK at hm
      obtain ⟨a, ha, _⟩ := List.mem_map.1 hm
      have hp := (List.mem_filter.1 ha).1
      rw [e] at hp
      exact ⟨rs[k], List.getElem_mem hk, by simpa using List.length_pos_of_mem hp⟩
  cases h1 : decide ((movesL rs w).length = 0)
  · rw [Bool.not_false]
    exact hiff.2 (by simpa using h1)
  · rw [Bool.not_true]
    cases h2 : rs.any fun r => decide (0 < (posn w r.From).length)
    · rfl
    · exact absurd (by simpa using h1) (hiff.1 h2)
def start0 (w : List Int) : List Gfound := [⟨0, 0, w, -1⟩]
theorem rewsB_drawn {rs : List GRewrite} (h1 : 1 ≤ rs.length) (h4 : rs.length ≤ 4) (h : ∀ r ∈ rs, RuleD r) : rewsB rs = true ∧ Sml rs := by
  have hw : ∀ {w : List Int}, Let 4 w → w.length ≤ 400 → wordB w = true := fun {w} hl hn => by
    unfold wordB
    simp only [Bool.and_eq_true, decide_eq_true_eq, List.all_eq_true]
    exact ⟨hn, fun x hx => inB_iff'.2 (by have := hl x hx; omega)⟩
  refine ⟨?_, by omega, fun r hr => ?_⟩
  · unfold rewsB
    simp only [Bool.and_eq_true, decide_eq_true_eq, List.all_eq_true]
    refine ⟨⟨h1, by omega⟩, fun r hr => ?_⟩
    obtain ⟨a, b, c, d, e⟩ := h r hr
    unfold rewB
    rw [hw a (by omega), hw b (by omega), decide_eq_true (by omega)]
    rfl
  · obtain ⟨a, b, c, d, e⟩ := h r hr
    exact ⟨⟨by omega, fun _ _ => trivial⟩, ⟨by omega, fun _ _ => trivial⟩⟩
end Go.Fn
