/-
  The plain law of FnDerivations: words that are found have derivations, and a complete search is closed. No program in sight. No condition.
-/
import Derived.Test.YthmompdfapcgkaaPSrc
import Derived.Test.YthmompdfapcgkaaPDerOf
import Derived.Test.YthmompdfapcgkaaPMoD
namespace Go.Fn
open Go Go.Tc
/-! ### Equal lists -/
theorem b10Nums_eq (a b : List Int) (h : a.length ≤ 1048576) : F_laws_b10Nums a b = some (decide (a = b)) := by
  unfold F_laws_b10Nums
  by_cases hl : a.length = b.length
  · rw [decide_eq_false (by omega : ¬ (a.length : Int) ≠ (b.length : Int)), cond_false]
    rw [run_all a.length (by omega) (fun i => decide (a[i]? = b[i]?)) (.ret false) (.brk (a.length : Int)) ?_ ?_ ?_]
    · by_cases k : ∀ i, i < a.length → decide (a[i]? = b[i]?) = true
      · rw [if_pos k, bnd_some_eq]
        have : a = b := by
          refine List.ext_getElem? fun i => ?_
          by_cases hi : i < a.length
          · simpa using k i hi
          · rw [List.getElem?_eq_none (by omega), List.getElem?_eq_none (by omega)]
        rw [decide_eq_true this]
        rfl
      · rw [if_neg k, bnd_some_eq]
        have : ¬ a = b := fun e => k fun i _ => by rw [e]; simp
        rw [decide_eq_false this]
        rfl
    · intro i hi hp
      have hi2 : i < b.length := by omega
      simp only [decide_eq_true_eq, List.getElem?_eq_getElem hi, List.getElem?_eq_getElem hi2, Option.some.injEq] at hp
      simp only [F_laws_b10Nums_L1]
      rw [decide_eq_true (by omega), cond_true, idx_nat hi, bnd_some_eq, idx_nat hi2, bnd_some_eq, decide_eq_false (by simpa using hp), cond_false]
    · intro i hi hp
      have hi2 : i < b.length := by omega
      simp only [decide_eq_false_iff_not, List.getElem?_eq_getElem hi, List.getElem?_eq_getElem hi2, Option.some.injEq] at hp
      simp only [F_laws_b10Nums_L1]
      rw [decide_eq_true (by omega), cond_true, idx_nat hi, bnd_some_eq, idx_nat hi2, bnd_some_eq, decide_eq_true (by simpa using hp), cond_true]
    · simp [F_laws_b10Nums_L1]
  · rw [decide_eq_true (by omega : (a.length : Int) ≠ (b.length : Int)), cond_true, decide_eq_false (fun e => hl (by rw [e]))]
theorem b10Row_mem (rows : List (List Int)) (x : List Int) (h : rows.length ≤ 1048576) (h2 : ∀ r ∈ rows, r.length ≤ 1048576) : F_laws_b10Row rows x = some (rows.any fun r => decide (r = x)) := by
  unfold F_laws_b10Row
  rw [run_allp rows (by omega) (fun r => !decide (r = x)) (.ret true) (.brk (rows.length : Int)) (fun i hi => by
    simp only [F_laws_b10Row_L1, Int.ofNat_lt, hi, decide_true, cond_true, idx_nat hi, bnd_some_eq, b10Nums_eq _ x (h2 _ (List.getElem_mem hi))]
    cases decide (rows[i] = x) <;> rfl) (by simp [F_laws_b10Row_L1])]
  rw [← any_not]
  simp only [Bool.not_not]
  cases rows.any fun r => decide (r = x) <;> rfl

/-! ### What a search keeps -/
theorem mv_inv {rs : List GRewrite} {w : List Int} {m : Gmove} (h : m ∈ movesL rs w) : ∃ k a : Nat, k < rs.length ∧ a ≤ w.length ∧ a + (rs.getD k zR).From.length ≤ w.length ∧ m = ⟨(k : Int), (a : Int), newW w (rs.getD k zR) a⟩ ∧ applyW rs w (k : Int) (a : Int) = (newW w (rs.getD k zR) a, 0) := by
  unfold movesL at h
  obtain ⟨k, hk, hm⟩ := List.mem_flatMap.1 h
  have hk := List.mem_range.1 hk
  unfold mvK at hm
  obtain ⟨a, ha, rfl⟩ := List.mem_map.1 hm
  obtain ⟨hp, ht⟩ := List.mem_filter.1 ha
  have hpm := posn_mem hp
  have hpp : (w.drop a).take (rs.getD k zR).From.length = (rs.getD k zR).From := by
    unfold posn at hp
    simpa using (List.mem_filter.1 hp).2
  refine ⟨k, a, hk, hpm.1, hpm.2, rfl, ?_⟩
  unfold applyW
  rw [inB_iff'.2 (by omega : 0 ≤ (k : Int) ∧ (k : Int) ≤ (rs.length : Int) - 1), inB_iff'.2 (by omega : 0 ≤ (a : Int) ∧ (a : Int) ≤ (w.length : Int))]
  simp only [Int.toNat_natCast, Bool.and_self, cond_true]
  rw [decide_eq_true hpp, cond_true]
  have : ¬ 400 < (putW w (rs.getD k zR).To a (rs.getD k zR).From.length).length := fun h => by
    unfold tooB newW at ht
    rw [decide_eq_true h] at ht
    exact Bool.noConfusion ht
  rw [decide_eq_false this]
  rfl
/-- Each word but the first comes from an earlier one by a move. -/
def StepF (rs : List GRewrite) (fs : List Gfound) : Prop := ∀ (i : Nat) (h : i < fs.length), 0 < i → ∃ (p : Nat) (hp : p < i), ∃ m ∈ movesL rs (fs[p]'(by omega)).move_word, fs[i] = toF m p
theorem StepF.add {rs : List GRewrite} {fs : List Gfound} (h : StepF rs fs) {k : Nat} (hk : k < fs.length) {m : Gmove} (hm : m ∈ movesL rs fs[k].move_word) : StepF rs (fs ++ [toF m k]) := by
  intro i hi h0
  by_cases hlt : i < fs.length
  · obtain ⟨p, hp, m', hm', e⟩ := h i hlt h0
    refine ⟨p, hp, m', ?_, ?_⟩
    · rw [List.getElem_append_left (by omega)]; exact hm'
    · rw [List.getElem_append_left hlt]; exact e
  · have : i = fs.length := by simp at hi; omega
    subst this
    refine ⟨k, hk, m, ?_, ?_⟩
    · rw [List.getElem_append_left hk]; exact hm
    · simp
theorem goM_step {rs : List GRewrite} (k : Nat) (w : List Int) : ∀ (ms : List Gmove) (fs : List Gfound), (hk : k < fs.length) → fs[k].move_word = w → (∀ m ∈ ms, m ∈ movesL rs w) → StepF rs fs → StepF rs (goM k ms fs).1 ∧ fs <+: (goM k ms fs).1
  | [], fs, hk, hw, hm, h => ⟨h, List.prefix_refl _⟩
  | m :: ms, fs, hk, hw, hm, h => by
    by_cases hf : keyW m.word ∈ fs.map kF
    · rw [goM_in hf]; exact goM_step k w ms fs hk hw (fun x hx => hm x (by simp [hx])) h
    · have h' := h.add hk (m := m) (by rw [hw]; exact hm m (by simp))
      rw [goM_new hf]
      split
      · exact ⟨h', List.prefix_append _ _⟩
      · obtain ⟨a, b⟩ := goM_step k w ms (fs ++ [toF m k]) (by simp; omega) (by rw [List.getElem_append_left hk]; exact hw) (fun x hx => hm x (by simp [hx])) h'
        exact ⟨a, (List.prefix_append _ _).trans b⟩
theorem goM_all (k : Nat) : ∀ (ms : List Gmove) (fs : List Gfound), (goM k ms fs).2 = false → (∀ m ∈ ms, keyW m.word ∈ (goM k ms fs).1.map kF) ∧ fs <+: (goM k ms fs).1
  | [], fs, _ => ⟨by simp, List.prefix_refl _⟩
  | m :: ms, fs, h => by
    by_cases hf : keyW m.word ∈ fs.map kF
    · rw [goM_in hf] at h ⊢
      obtain ⟨a, b⟩ := goM_all k ms fs h
      refine ⟨fun x hx => ?_, b⟩
      rcases List.mem_cons.1 hx with rfl | hx
      · exact (b.map kF).subset hf
      · exact a x hx
    · rw [goM_new hf] at h ⊢
      by_cases h3 : fs.length + 1 = 300
      · rw [if_pos h3] at h; cases h
      · rw [if_neg h3] at h ⊢
        obtain ⟨a, b⟩ := goM_all k ms _ h
        refine ⟨fun x hx => ?_, (List.prefix_append _ _).trans b⟩
        rcases List.mem_cons.1 hx with rfl | hx
        · exact (b.map kF).subset (by simp [kF, toF])
        · exact a x hx
/-- All moves of the first k words lead to words that are found. -/
def Closed (rs : List GRewrite) (k : Nat) (fs : List Gfound) : Prop := ∀ (j : Nat) (h : j < fs.length), j < k → ∀ m ∈ movesL rs fs[j].move_word, keyW m.word ∈ fs.map kF
theorem pre_get {α : Type} {a b : List α} (h : a <+: b) {i : Nat} (hi : i < a.length) : b[i]'(by have := h.length_le; omega) = a[i] := (h.getElem hi).symm
theorem len_new {rs : List GRewrite} (hr : ∀ r ∈ rs, RuleD r) {w : List Int} {m : Gmove} (h : m ∈ movesL rs w) : m.word.length ≤ w.length + 1 := by
  obtain ⟨k, a, hk, ha, hl, rfl, _⟩ := mv_inv h
  simp only
  unfold newW
  rw [putW_len hl]
  have e : rs.getD k zR = rs[k] := by rw [List.getD_eq_getElem?_getD, List.getElem?_eq_getElem hk]; rfl
  have := (hr _ (List.getElem_mem hk)).2.2.2.2
  rw [e] at hl ⊢
  omega
theorem srch_more {rs : List GRewrite} (hd : ∀ r ∈ rs, RuleD r) (n : Nat) : ∀ (f k : Nat) (fs : List Gfound) (c : Bool), fs.length ≤ 299 → k ≤ fs.length → k ≤ 12 → 1 ≤ fs.length → k + f = 301 → StepF rs fs → GoodF (fun w => w.length ≤ n + k) fs → (c = true → Closed rs k fs) →
    StepF rs (srch rs 12 f k fs c).1 ∧ fs <+: (srch rs 12 f k fs c).1 ∧ GoodF (fun w => w.length ≤ n + 13) (srch rs 12 f k fs c).1 ∧ ((srch rs 12 f k fs c).2 = true → Closed rs (srch rs 12 f k fs c).1.length (srch rs 12 f k fs c).1)
  | 0, k, fs, c, hl, hk, h12, h1, hf, hS, hG, hC => by omega
  | f + 1, k, fs, c, hl, hk, h12, h1, hf, hS, hG, hC => by
    rw [srch]
    have hG' : GoodF (fun w => w.length ≤ n + 13) fs := fun g hg => by have := hG g hg; simp only at this ⊢; omega
    by_cases hlt : k < fs.length
    · rw [List.getElem?_eq_getElem hlt]
      simp only
      by_cases hkb : (k : Int) = 12
      · rw [if_pos hkb]
        exact ⟨hS, List.prefix_refl _, hG', fun h => by cases h⟩
      · rw [if_neg hkb]
        have hgl := goM_len k (movesL rs fs[k].move_word) fs hl
        have hlen := hG _ (List.getElem_mem hlt)
        simp only at hlen
        have hgg := goM_good (P := fun w => w.length ≤ n + (k + 1)) k (movesL rs fs[k].move_word) fs (fun m hm => by have := len_new hd hm; omega) (fun g hg => by have := hG g hg; simp only at this ⊢; omega)
        obtain ⟨gs, gp⟩ := goM_step (rs := rs) k _ (movesL rs fs[k].move_word) fs hlt rfl (fun m hm => hm) hS
        cases h2 : (goM k (movesL rs fs[k].move_word) fs).2 with
        | true =>
          have e : goM k (movesL rs fs[k].move_word) fs = ((goM k (movesL rs fs[k].move_word) fs).1, true) := by rw [← h2]
          rw [e]
          exact ⟨gs, gp, fun g hg => by have := hgg g hg; simp only at this ⊢; omega, fun h => by cases h⟩
        | false =>
          have e : goM k (movesL rs fs[k].move_word) fs = ((goM k (movesL rs fs[k].move_word) fs).1, false) := by rw [← h2]
          rw [e]
          simp only
          have ga := (goM_all k (movesL rs fs[k].move_word) fs h2).1
          obtain ⟨a, b, c', d⟩ := srch_more hd n f (k + 1) (goM k (movesL rs fs[k].move_word) fs).1 (c && !tooL rs fs[k].move_word) (hgl.1 h2) (by omega) (by omega) (by omega) (by omega) gs hgg (fun hc => by
            simp only [Bool.and_eq_true] at hc
            intro j hj hjk m hm
            have hjl : j < fs.length := by omega
            rw [pre_get gp hjl] at hm
            by_cases hjk2 : j = k
            · subst hjk2
              exact ga m hm
            · exact (gp.map kF).subset (hC hc.1 j hjl (by omega) m hm))
          exact ⟨a, gp.trans b, c', d⟩
    · rw [List.getElem?_eq_none (by omega)]
      exact ⟨hS, List.prefix_refl _, hG', fun hc j hj hjk m hm => hC hc j hj (by simp only at hjk hj ⊢; omega) m hm⟩

/-! ### The path's derivation -/
theorem derW_append {rs : List GRewrite} : ∀ (ss : List (List Int)) (w v : List Int) (s : List Int), derW rs ss w = (v, 0) → s.length = 2 → (applyW rs v (s.getD 0 0) (s.getD 1 0)).2 = 0 → derW rs (ss ++ [s]) w = ((applyW rs v (s.getD 0 0) (s.getD 1 0)).1, 0)
  | [], w, v, s, h, hs, ha => by
    simp only [derW, Prod.mk.injEq, and_true] at h
    subst h
    show derW rs [s] w = _
    unfold derW
    rw [decide_eq_false (by simpa using hs), cond_false, decide_eq_false (by simpa using ha), cond_false]
    rfl
  | t :: ss, w, v, s, h, hs, ha => by
    have h0 : (derW rs (t :: ss) w).2 = 0 := by rw [h]
    obtain ⟨h1, h2, h3⟩ := derW_cons h0
    have e1 : decide (t.length ≠ 2) = false := decide_eq_false (by simpa using h1)
    have e2 : decide ((applyW rs w (t.getD 0 0) (t.getD 1 0)).2 ≠ 0) = false := decide_eq_false (by simpa using h2)
    have h' : derW rs ss (applyW rs w (t.getD 0 0) (t.getD 1 0)).1 = (v, 0) := by
      rw [← h]
      conv => rhs; unfold derW
      rw [e1, e2]
      rfl
    have := derW_append ss _ v s h' hs ha
    rw [List.cons_append]
    unfold derW
    rw [e1, e2]
    exact this
theorem pth_der {rs : List GRewrite} {fs : List Gfound} {w : List Int} (hS : StepF rs fs) (h0 : 0 < fs.length) (hw : fs[0].move_word = w) : ∀ (f i : Nat) (hi : i < fs.length), i ≤ f → derW rs (pth fs f i) w = (fs[i].move_word, 0) ∧ (pth fs f i).length ≤ i
  | 0, i, hi, hf => by
    obtain rfl : i = 0 := by omega
    rw [pth]
    exact ⟨by rw [hw]; rfl, Nat.le_refl _⟩
  | f + 1, i, hi, hf => by
    rw [pth]
    by_cases hz : i = 0
    · subst hz
      rw [if_pos rfl]
      exact ⟨by rw [hw]; rfl, Nat.le_refl _⟩
    · rw [if_neg hz]
      obtain ⟨p, hp, m, hm, e⟩ := hS i hi (by omega)
      obtain ⟨k, a, hk, ha, hl, rfl, hap⟩ := mv_inv hm
      rw [fget hi, e]
      simp only [toF, Int.toNat_natCast, rowF]
      obtain ⟨d1, d2⟩ := pth_der hS h0 hw f p (by omega) (by omega)
      have := derW_append (pth fs f p) w _ [(k : Int), (a : Int)] d1 rfl (by show (applyW rs _ (k : Int) (a : Int)).2 = 0; rw [hap])
      refine ⟨?_, by rw [List.length_append, List.length_singleton]; omega⟩
      rw [this]
      show ((applyW rs fs[p].move_word (k : Int) (a : Int)).1, (0 : Int)) = _
      rw [hap]

/-! ### The successors -/
theorem succ_run (ms : List Gmove) (b : Bool) (hm : ∀ m ∈ ms, m.word.length ≤ 1000) (hn : ms.length ≤ 100000) : ∀ (n i : Nat) (seen : List (ByteArray × Bool)) (out : List (List Int)), i + n = ms.length → out.length ≤ i → (∀ x ∈ out, ∃ m ∈ ms, m.word = x) →
    ∃ seen' out', run (F_impl_SuccessorsOf_L1 (ms, b)) (seen, out, (i : Int)) = some (.brk (seen', out', (ms.length : Int))) ∧ out <+: out' ∧ out'.length ≤ ms.length ∧ ∀ x ∈ out', ∃ m ∈ ms, m.word = x := by
  intro n
  induction n with
  | zero =>
    intro i seen out hi ho hx
    obtain rfl : i = ms.length := by omega
    refine ⟨seen, out, run_done ?_, List.prefix_refl _, ho, hx⟩
    simp only [F_impl_SuccessorsOf_L1]
    rw [decide_eq_false (by omega), cond_false]
  | succ n ih =>
    intro i seen out hi ho hx
    have hlt : i < ms.length := by omega
    have hw := hm _ (List.getElem_mem hlt)
    have hb : F_impl_SuccessorsOf_L1 (ms, b) (seen, out, (i : Int)) = cond (!((mget seen (keyW ms[i].word)).getD false)) (some (.inl (mput seen (keyW ms[i].word) true, out ++ [ms[i].word], ((i + 1 : Nat) : Int)))) (some (.inl (seen, out, ((i + 1 : Nat) : Int)))) := by
      simp only [F_impl_SuccessorsOf_L1]
      rw [decide_eq_true (by omega), cond_true, idx_nat hlt, bnd_some_eq, impl_key _ (by omega), bnd_some_eq, app_ok (by simp; omega), bnd_some_eq, w64_nat1 (by omega)]
    cases hs : (mget seen (keyW ms[i].word)).getD false
    · rw [hs, Bool.not_false, cond_true] at hb
      obtain ⟨s', o', e, q1, q2, q3⟩ := ih (i + 1) (mput seen (keyW ms[i].word) true) (out ++ [ms[i].word]) (by omega) (by simp; omega) (fun x hx' => by
        rcases List.mem_append.1 hx' with h | h
        · exact hx x h
        · exact ⟨ms[i], List.getElem_mem hlt, (List.mem_singleton.1 h).symm⟩)
      exact ⟨s', o', by rw [run_next hb, e], (List.prefix_append _ _).trans q1, q2, q3⟩
    · rw [hs, Bool.not_true, cond_false] at hb
      obtain ⟨s', o', e, q1, q2, q3⟩ := ih (i + 1) seen out (by omega) (by omega) hx
      exact ⟨s', o', by rw [run_next hb, e], q1, q2, q3⟩
theorem impl_succ {rs : List GRewrite} {w : List Int} (hr : rewsB rs = true) (hs : Sml rs) (hw : wordB w = true) : ∃ out, F_impl_SuccessorsOf rs w = some (out, 0) ∧ (∀ x ∈ out, ∃ m ∈ movesL rs w, m.word = x) ∧ out.length ≤ 100000 ∧ (out.length = 0 ↔ (movesL rs w).length = 0) := by
  have hwl := wordB_len hw
  have hml := movesL_len hr hwl
  unfold F_impl_SuccessorsOf
  rw [impl_rews rs hs, hr, impl_word w (by omega), hw, impl_moves hr hwl]
  simp only [bnd_some_eq, Bool.not_true, cond_false, Out.elim]
  have hmw : ∀ m ∈ movesL rs w, m.word.length ≤ 1000 := fun m hm => by have := wordB_len (mv_word hr hw hm); omega
  obtain ⟨s', o', e, q1, q2, q3⟩ := succ_run (movesL rs w) (tooL rs w) hmw (by omega) (movesL rs w).length 0 [] [] (by omega) (by simp) (by simp)
  rw [show ((0 : Nat) : Int) = 0 from rfl] at e
  rw [e, bnd_some_eq]
  refine ⟨o', rfl, q3, by omega, fun h => ?_, fun h => by omega⟩
  refine Nat.eq_zero_of_not_pos fun hp => ?_
  have hlt : 0 < (movesL rs w).length := hp
  have hb : F_impl_SuccessorsOf_L1 (movesL rs w, tooL rs w) ([], [], ((0 : Nat) : Int)) = some (.inl (mput [] (keyW (movesL rs w)[0].word) true, [] ++ [(movesL rs w)[0].word], ((0 + 1 : Nat) : Int))) := by
    have := hmw _ (List.getElem_mem hlt)
    simp only [F_impl_SuccessorsOf_L1]
    rw [decide_eq_true (by omega), cond_true, idx_nat hlt, bnd_some_eq, impl_key _ (by omega), bnd_some_eq, app_ok (by simp), bnd_some_eq, w64_nat1 (by omega)]
    rfl
  obtain ⟨s2, o2, e2, p1, p2, p3⟩ := succ_run (movesL rs w) (tooL rs w) hmw (by omega) ((movesL rs w).length - 1) (0 + 1) (mput [] (keyW (movesL rs w)[0].word) true) ([] ++ [(movesL rs w)[0].word]) (by omega) (by simp) (fun x hx => ⟨_, List.getElem_mem hlt, (List.mem_singleton.1 (show x ∈ [(movesL rs w)[0].word] from hx)).symm⟩)
  rw [show (0 : Int) = ((0 : Nat) : Int) from rfl, run_next hb, e2] at e
  simp only [Option.some.injEq, Out.brk.injEq, Prod.mk.injEq] at e
  have := p1.length_le
  rw [e.2.1] at this
  simp at this
  omega
theorem posn_none {rs : List GRewrite} (hd : ∀ r ∈ rs, RuleD r) {w : List Int} (hw : w.length ≤ 100) : (rs.any fun r => decide (0 < (posn w r.From).length)) = !decide ((movesL rs w).length = 0) := by
  have hiff : (rs.any fun r => decide (0 < (posn w r.From).length)) = true ↔ ¬ (movesL rs w).length = 0 := by
    rw [List.any_eq_true]
    constructor
    · rintro ⟨r, hr, h⟩
      simp only [decide_eq_true_eq] at h
      obtain ⟨k, hk, rfl⟩ := List.getElem_of_mem hr
      have e : rs.getD k zR = rs[k] := by rw [List.getD_eq_getElem?_getD, List.getElem?_eq_getElem hk]; rfl
      have hp : (posn w rs[k].From)[0] ∈ posn w rs[k].From := List.getElem_mem h
      have hpm := posn_mem hp
      have hm : (⟨(k : Int), (((posn w rs[k].From)[0] : Nat) : Int), newW w rs[k] (posn w rs[k].From)[0]⟩ : Gmove) ∈ movesL rs w := by
        unfold movesL
        refine List.mem_flatMap.2 ⟨k, List.mem_range.2 hk, ?_⟩
        unfold mvK
        rw [e]
        refine List.mem_map.2 ⟨_, List.mem_filter.2 ⟨hp, ?_⟩, rfl⟩
        unfold tooB newW
        rw [putW_len hpm.2]
        have := (hd _ (List.getElem_mem hk)).2.2.2.2
        have := (hd _ (List.getElem_mem hk)).2.2.2.1
        rw [decide_eq_false (by omega)]
        rfl
      exact fun h0 => by
        rw [List.eq_nil_of_length_eq_zero h0] at hm
        simp at hm
    · intro h
      have h1 : 0 < (movesL rs w).length := by omega
      have hm : (movesL rs w)[0] ∈ movesL rs w := List.getElem_mem h1
      unfold movesL at hm
      obtain ⟨k, hk, hm⟩ := List.mem_flatMap.1 hm
      have hk := List.mem_range.1 hk
      have e : rs.getD k zR = rs[k] := by rw [List.getD_eq_getElem?_getD, List.getElem?_eq_getElem hk]; rfl
      unfold mvK at hm
      obtain ⟨a, ha, _⟩ := List.mem_map.1 hm
      have hp := (List.mem_filter.1 ha).1
      rw [e] at hp
      exact ⟨rs[k], List.getElem_mem hk, by simpa using List.length_pos_of_mem hp⟩
  cases h1 : decide ((movesL rs w).length = 0)
  · rw [Bool.not_false]
    exact hiff.2 (by simpa using h1)
  · rw [Bool.not_true]
    cases h2 : rs.any fun r => decide (0 < (posn w r.From).length)
    · rfl
    · exact absurd (by simpa using h1) (hiff.1 h2)
theorem impl_normal {rs : List GRewrite} {w : List Int} (hr : rewsB rs = true) (hs : Sml rs) (hd : ∀ r ∈ rs, RuleD r) (hw : wordB w = true) (hwl : w.length ≤ 100) : F_impl_IsNormalWord rs w = some (decide ((movesL rs w).length = 0)) := by
  unfold F_impl_IsNormalWord F_impl_isNormalWord F_slices_ContainsFunc_Simpl_Rewrite_impl_Rewrite F_slices_IndexFunc_Simpl_Rewrite_impl_Rewrite
  rw [impl_rews rs hs, hr, impl_word w (by omega), hw]
  simp only [bnd_some_eq, cond_true]
  rw [run_find rs (by have := (rewsB_len hr).2; omega) (fun r => decide (0 < (posn w r.From).length)) (fun i hi => by
    simp only [F_slices_IndexFunc_Simpl_Rewrite_impl_Rewrite_L1, F_impl_isNormalWord_1, Int.ofNat_lt, hi, decide_true, cond_true, idx_nat hi, bnd_some_eq, impl_occ w _ (by omega : w.length ≤ 1000)]
    rw [List.length_map, show decide ((0 : Int) < ((posn w rs[i].From).length : Int)) = decide (0 < (posn w rs[i].From).length) by rw [decide_eq_decide]; omega]
    cases decide (0 < (posn w rs[i].From).length) <;> rfl) (by simp [F_slices_IndexFunc_Simpl_Rewrite_impl_Rewrite_L1])]
  simp only [bnd_some_eq]
  rw [find_any, posn_none hd hwl, Bool.not_not]

/-! ### The program's searches -/
noncomputable def KR (z61 : List Gfound) (_ : List (ByteArray × Int)) : Option (List (List Int) × Bool × Int) :=
  bnd (run (F_impl_ReachWords_L3 z61) (([] : List (List Int)), 0)) (Out.elim (fun (s66 : (List (List Int)) × Int) => some (s66.1, false, 0)) (fun (r : (List (List Int)) × Bool × Int) => some r))
theorem reach_rows {fs : List Gfound} (h : fs.length ≤ 300) : run (F_impl_ReachWords_L3 fs) (([] : List (List Int)), 0) = some (.brk (wF fs, (fs.length : Int))) := by
  have key : ∀ (n i : Nat) (out : List (List Int)), i + n = fs.length → out = wF (fs.take i) → run (F_impl_ReachWords_L3 fs) (out, (i : Int)) = some (.brk (wF fs, (fs.length : Int))) := by
    intro n
    induction n with
    | zero =>
      intro i out hi ho
      obtain rfl : i = fs.length := by omega
      rw [List.take_length] at ho
      refine run_done ?_
      simp only [F_impl_ReachWords_L3]
      rw [decide_eq_false (by omega), cond_false, ho]
    | succ n ih =>
      intro i out hi ho
      have hlt : i < fs.length := by omega
      have hol : out.length = i := by rw [ho]; simp [wF]; omega
      have hb : F_impl_ReachWords_L3 fs (out, (i : Int)) = some (.inl (out ++ [fs[i].move_word], ((i + 1 : Nat) : Int))) := by
        simp only [F_impl_ReachWords_L3]
        rw [decide_eq_true (by omega), cond_true, idx_nat hlt, bnd_some_eq, app_ok (by simp; omega), bnd_some_eq, w64_nat1 (by omega)]
      rw [run_next hb]
      refine ih (i + 1) _ (by omega) ?_
      show out ++ [fs[i].move_word] = (fs.take (i + 1)).map _
      rw [List.take_add_one, List.getElem?_eq_getElem hlt, List.map_append, ho]
      rfl
  exact key fs.length 0 [] (by omega) (by simp [wF])
def start0 (w : List Int) : List Gfound := [⟨0, 0, w, -1⟩]
theorem impl_reach {rs : List GRewrite} {f : List Int} (b : Int) (hr : rewsB rs = true) (hs : Sml rs) (hf : wordB f = true) (hb : inB b 1 20000 = true) :
    F_impl_ReachWords rs f b = some (wF (srch rs b 301 0 (start0 f) true).1, (srch rs b 301 0 (start0 f) true).2, 0) := by
  have hfl := wordB_len hf
  have hsf : Sml f := ⟨by omega, fun _ _ => trivial⟩
  unfold F_impl_ReachWords F_impl_searchCode F_impl_budgetOk
  rw [impl_rews rs hs, hr, impl_areWords [f] ⟨by simp, by simp only [List.mem_cons, List.not_mem_nil, or_false]; exact fun x hx => hx ▸ hsf⟩, impl_in, hb]
  have k0 : decide ((0 : Int) ≠ 0) = false := rfl
  simp only [List.all_cons, List.all_nil, hf, Bool.and_true, Bool.not_true, cond_false, bnd_some_eq, k0]
  rw [impl_clone f (by omega), bnd_some_eq, impl_key f (by omega), bnd_some_eq]
  have e3 : app ([] : List Gfound) [(⟨0, 0, f, -1⟩ : Gfound)] = some (start0 f) := rfl
  rw [e3, bnd_some_eq]
  have hT0 : TreeF (start0 f) := fun i hi => by
    obtain rfl : i = 0 := by simpa [start0] using hi
    rfl
  have hG0 : GoodF (fun w => wordB w = true) (start0 f) := fun g hg => by rw [List.mem_singleton.1 hg]; exact hf
  have hN0 : NumK (start0 f) (mput [] (keyW f) ((0 : Nat) : Int)) := by
    have : NumK ([] : List Gfound) [] := fun x => rfl
    exact this.add (f := ⟨0, 0, f, -1⟩) (by simp)
  have him := im_search KR b hr 301 0 (start0 f) true (mput [] (keyW f) ((0 : Nat) : Int)) rfl (by simp) (by simp [start0]) hN0 hG0
  obtain ⟨_, _, pl, _⟩ := srch_props (b := b) hr 301 0 (start0 f) true (by simp [start0]) hT0 hG0
  have q2 : F_impl_ReachWords_L1 rs b = imS1 KR rs b := rfl
  obtain ⟨nums, hN, him⟩ := him
  rw [q2]
  rw [show ((0 : Nat) : Int) = 0 from rfl] at him ⊢
  rcases him with ⟨hc, hrun⟩ | ⟨n, hrun⟩
  · rw [hrun, bnd_some_eq]
    simp only [Out.elim]
    unfold KR
    rw [reach_rows pl, bnd_some_eq, hc]
    rfl
  · rw [hrun, bnd_some_eq]
    simp only [Out.elim]
    have q3 : F_impl_ReachWords_L5 ((srch rs b 301 0 (start0 f) true).1, nums, (srch rs b 301 0 (start0 f) true).2, n) = F_impl_ReachWords_L3 (srch rs b 301 0 (start0 f) true).1 := rfl
    rw [q3, reach_rows pl, bnd_some_eq]
    rfl
theorem impl_derOf {rs : List GRewrite} {f t : List Int} (b : Int) (hr : rewsB rs = true) (hs : Sml rs) (hf : wordB f = true) (ht : wordB t = true) (hb : inB b 1 20000 = true) :
    F_impl_DerivationOf rs f t b = some (fin (srch rs b 301 0 (start0 f) true).1 (srch rs b 301 0 (start0 f) true).2 t) := by
  have hfl := wordB_len hf
  have htl := wordB_len ht
  have hsf : Sml f := ⟨by omega, fun _ _ => trivial⟩
  have hst : Sml t := ⟨by omega, fun _ _ => trivial⟩
  unfold F_impl_DerivationOf F_impl_searchCode F_impl_budgetOk
  rw [impl_rews rs hs, hr, two_words f t hsf hst, impl_in, hb, hf, ht]
  have k0 : decide ((0 : Int) ≠ 0) = false := rfl
  simp only [Bool.and_self, Bool.not_true, cond_false, bnd_some_eq, k0]
  rw [impl_clone f (by omega), bnd_some_eq, impl_key f (by omega), bnd_some_eq]
  have e3 : app ([] : List Gfound) [(⟨0, 0, f, -1⟩ : Gfound)] = some (start0 f) := rfl
  rw [e3, bnd_some_eq]
  have hT0 : TreeF (start0 f) := fun i hi => by
    obtain rfl : i = 0 := by simpa [start0] using hi
    rfl
  have hG0 : GoodF (fun w => wordB w = true) (start0 f) := fun g hg => by rw [List.mem_singleton.1 hg]; exact hf
  have hN0 : NumK (start0 f) (mput [] (keyW f) ((0 : Nat) : Int)) := by
    have : NumK ([] : List Gfound) [] := fun x => rfl
    exact this.add (f := ⟨0, 0, f, -1⟩) (by simp)
  have him := im_search (KI t) b hr 301 0 (start0 f) true (mput [] (keyW f) ((0 : Nat) : Int)) rfl (by simp) (by simp [start0]) hN0 hG0
  obtain ⟨pT, pG, pl, p1⟩ := srch_props (b := b) hr 301 0 (start0 f) true (by simp [start0]) hT0 hG0
  have q2 : F_impl_DerivationOf_L1 rs t b = imS1 (KI t) rs b := rfl
  obtain ⟨o, ho⟩ : ∃ o, srch rs b 301 0 (start0 f) true = o := ⟨_, rfl⟩
  rw [ho] at him pT pG pl p1 ⊢
  obtain ⟨nums, hN, him⟩ := him
  rw [q2]
  rw [show ((0 : Nat) : Int) = 0 from rfl] at him ⊢
  rcases him with ⟨hc, hrun⟩ | ⟨n, hrun⟩
  · rw [hrun, bnd_some_eq]
    simp only [Out.elim]
    rw [KI_eq hN ht pT pG pl, hc]
  · rw [hrun, bnd_some_eq]
    simp only [Out.elim]
    unfold fin
    rw [impl_key _ (by omega), bnd_some_eq, hN, find_key ht pG]
    cases hq : o.1.findIdx? fun f => decide (f.move_word = t) with
    | none => cases o.2 <;> rfl
    | some i =>
      have hi : i < o.1.length := (List.findIdx?_eq_some_iff_getElem.1 hq).1
      simp only [Option.map_some, Option.isSome_some, Bool.not_true, cond_false, bnd_some_eq, Option.getD_some]
      exact impl_fin pT pl (fun _ => rfl) hi

/-! ### The law -/
theorem rewsB_drawn {rs : List GRewrite} (h1 : 1 ≤ rs.length) (h4 : rs.length ≤ 4) (h : ∀ r ∈ rs, RuleD r) : rewsB rs = true ∧ Sml rs := by
  have hw : ∀ {w : List Int}, Let 4 w → w.length ≤ 400 → wordB w = true := fun {w} hl hn => by
    unfold wordB
    simp only [Bool.and_eq_true, decide_eq_true_eq, List.all_eq_true]
    exact ⟨hn, fun x hx => inB_iff'.2 (by have := hl x hx; omega)⟩
  refine ⟨?_, by omega, fun r hr => ?_⟩
  · unfold rewsB
    simp only [Bool.and_eq_true, decide_eq_true_eq, List.all_eq_true]
    refine ⟨⟨h1, by omega⟩, fun r hr => ?_⟩
    obtain ⟨a, b, c, d, e⟩ := h r hr
    unfold rewB
    rw [hw a (by omega), hw b (by omega), decide_eq_true (by omega)]
    rfl
  · obtain ⟨a, b, c, d, e⟩ := h r hr
    exact ⟨⟨by omega, fun _ _ => trivial⟩, ⟨by omega, fun _ _ => trivial⟩⟩
theorem b10At_in (c : List (Ik .u8)) (n : Nat) (h : Bytes c) (hn : 0 < n) (hn2 : n ≤ 1000) : ∃ k : Nat, F_laws_b10At c 0 (n : Int) = some (k : Int) ∧ k < n := by
  unfold F_laws_b10At
  by_cases h1 : n ≤ 1
  · rw [decide_eq_true (by omega), cond_true]
    exact ⟨0, rfl, hn⟩
  · have hm : ∀ x : Int, 0 ≤ x → ∃ k : Nat, Int.tmod x (n : Int) = (k : Int) ∧ k < n := fun x hx => by
      rw [Int.tmod_eq_emod_of_nonneg hx]
      have a := Int.emod_nonneg x (b := (n : Int)) (by omega)
      have b := Int.emod_lt_of_pos x (b := (n : Int)) (by omega)
      exact ⟨(x % (n : Int)).toNat, by omega, by omega⟩
    rw [decide_eq_false (by omega), cond_false, nz_src (by omega)]
    by_cases h2 : 0 < c.length
    · have hv := h.2 _ (List.getElem_mem h2)
      rw [decide_eq_true (by omega), cond_true, show (0 : Int) = ((0 : Nat) : Int) from rfl, idx_nat h2, bnd_some_eq, bnd_some_eq, w64_in (by omega) (by omega)]
      obtain ⟨k, e, hk⟩ := hm _ hv.1
      exact ⟨k, by rw [e], hk⟩
    · rw [decide_eq_false (by omega), cond_false, bnd_some_eq]
      obtain ⟨k, e, hk⟩ := hm 11 (by omega)
      exact ⟨k, by rw [← e]; rfl, hk⟩
theorem law_Derivations (c d : List (Ik .u8)) (w0 : Wf.wf c) (w1 : Wf.wf d) : F_laws_FnDerivations c d = some true := by
  unfold F_laws_FnDerivations F_laws_b10Long
  simp only [bnd_some_eq]
  by_cases hc : 1048576 < c.length
  · rw [decide_eq_true (by omega)]; rfl
  by_cases hd : 1048576 < d.length
  · rw [decide_eq_false (by omega), decide_eq_true (by omega)]; rfl
  rw [decide_eq_false (by omega), decide_eq_false (by omega)]
  simp only [cond_false, bnd_some_eq, Out.elim]
  obtain ⟨rs, w, e, h1, h4, hR, hw9, hwl⟩ := src_b10Rules (bytes_of w0 (by omega))
  obtain ⟨hr, hs⟩ := rewsB_drawn h1 h4 hR
  have hw : wordB w = true := by
    unfold wordB
    simp only [Bool.and_eq_true, decide_eq_true_eq, List.all_eq_true]
    exact ⟨by omega, fun x hx => inB_iff'.2 (by have := hwl x hx; omega)⟩
  rw [e, bnd_some_eq]
  simp only
  rw [impl_reach 12 hr hs hw rfl, bnd_some_eq]
  have hT0 : TreeF (start0 w) := fun i hi => by
    obtain rfl : i = 0 := by simpa [start0] using hi
    rfl
  have hG0 : GoodF (fun w => wordB w = true) (start0 w) := fun g hg => by rw [List.mem_singleton.1 hg]; exact hw
  obtain ⟨pT, pG, pl, p1⟩ := srch_props (b := 12) hr 301 0 (start0 w) true (by simp [start0]) hT0 hG0
  obtain ⟨pS, pp, pL, pC⟩ := srch_more hR 9 301 0 (start0 w) true (by simp [start0]) (by simp) (by simp) (by simp [start0]) rfl (fun i hi h0 => by simp [start0] at hi; omega) (fun g hg => by rw [List.mem_singleton.1 hg]; simp only; omega) (fun _ j hj h0 => by omega)
  have hder := fun t (ht : wordB t = true) => impl_derOf (t := t) 12 hr hs hw ht rfl
  obtain ⟨o, ho⟩ : ∃ o, srch rs 12 301 0 (start0 w) true = o := ⟨_, rfl⟩
  rw [ho] at pT pG pl p1 pS pp pL pC hder ⊢
  have p1' : 0 < o.1.length := by have := p1; simp only [start0, List.length_singleton] at this; omega
  have hwF : (wF o.1).length = o.1.length := by simp [wF]
  have h00 : o.1[0].move_word = w := by rw [pre_get pp (by simp [start0])]; rfl
  have hlen : ∀ (i : Nat) (hi : i < o.1.length), (wF o.1)[i]'(by omega) = o.1[i].move_word := fun i hi => by simp [wF]
  simp only
  rw [decide_eq_false (by simp), cond_false, decide_eq_false (by omega), cond_false, show (0 : Int) = ((0 : Nat) : Int) from rfl, idx_nat (by omega : 0 < (wF o.1).length), bnd_some_eq, b10Nums_eq _ _ (by rw [hlen 0 p1', h00]; omega), hlen 0 p1', h00, bnd_some_eq, decide_eq_true rfl, hwF]
  simp only [Bool.not_true, cond_false, bnd_some_eq]
  obtain ⟨k, ek, hk⟩ := b10At_in d o.1.length (bytes_of w1 (by omega)) p1' (by omega)
  rw [show ((0 : Nat) : Int) = 0 from rfl, ek, bnd_some_eq, idx_nat (by omega : k < (wF o.1).length), hlen k hk]
  simp only [bnd_some_eq]
  have hkw := pG _ (List.getElem_mem hk)
  have hkl := pL _ (List.getElem_mem hk)
  simp only at hkw hkl
  obtain ⟨i, hq⟩ : ∃ i, (o.1.findIdx? fun f => decide (f.move_word = o.1[k].move_word)) = some i := by
    cases hq : o.1.findIdx? fun f => decide (f.move_word = o.1[k].move_word) with
    | some i => exact ⟨i, rfl⟩
    | none =>
      have := List.findIdx?_eq_none_iff.1 hq _ (List.getElem_mem hk)
      simp at this
  have hqi := List.findIdx?_eq_some_iff_getElem.1 hq
  have hi : i < o.1.length := hqi.1
  have hiw : o.1[i].move_word = o.1[k].move_word := by simpa using hqi.2.1
  obtain ⟨d1, d2⟩ := pth_der pS p1' h00 300 i hi (by omega)
  have hfin : fin o.1 o.2 o.1[k].move_word = if 100 < (pth o.1 300 i).length then ([], 5) else (pth o.1 300 i, 0) := by
    unfold fin
    rw [hq]
  rw [hder _ hkw]
  by_cases hlong : 100 < (pth o.1 300 i).length
  · rw [if_pos hlong] at hfin
    rw [hfin, bnd_some_eq]
    simp only
    have h100 : (100 : Int) < (o.1.length : Int) := by omega
    rw [decide_eq_true (by simp : (5 : Int) ≠ 0), cond_true]
    simp [h100, Out.elim]
  · rw [if_neg hlong] at hfin
    rw [hfin, bnd_some_eq]
    simp only
    rw [decide_eq_false (by simp), cond_false]
    unfold F_impl_CheckDerivation
    rw [impl_rews rs hs, hr, impl_word w (by omega), hw]
    simp only [bnd_some_eq, Bool.not_true, cond_false]
    rw [impl_derived rs w _ hr hw (by omega), bnd_some_eq]
    have hdp : derP rs (pth o.1 300 i) w = (o.1[k].move_word, 0) := by
      unfold derP
      rw [decide_eq_false hlong, cond_false, d1, hiw]
    rw [hdp]
    obtain ⟨out, es, hmem, hol, hz⟩ := impl_succ (w := o.1[k].move_word) hr hs hkw
    rw [es]
    simp only [bnd_some_eq]
    rw [decide_eq_false (by simp), cond_false, b10Nums_eq _ _ (by omega), decide_eq_true rfl, impl_normal hr hs hR hkw (by omega)]
    simp only [cond_false, bnd_some_eq, Bool.not_true]
    have hzz : decide ((out.length : Int) = 0) = decide ((movesL rs o.1[k].move_word).length = 0) := by
      rw [decide_eq_decide]
      exact ⟨fun h => hz.1 (by omega), fun h => by have := hz.2 h; omega⟩
    rw [hzz, bne_self_eq_false, cond_false, bnd_some_eq]
    simp only [Out.elim]
    have hrun : run (F_laws_FnDerivations_L1 (wF o.1, o.2, 0) (out, 0)) 0 = some (.brk (if o.2 = true then (out.length : Int) else 0)) := by
      cases hcpl : o.2
      · refine run_done ?_
        simp only [F_laws_FnDerivations_L1, cond_false]
        rfl
      · have hh := run_allp (body := F_laws_FnDerivations_L1 (wF o.1, true, 0) (out, 0)) out (by omega) (fun _ => true) (.ret false) (.brk (out.length : Int)) (fun j hj => by
          simp only [F_laws_FnDerivations_L1, cond_true]
          rw [decide_eq_true (by omega), cond_true, idx_nat hj, bnd_some_eq, b10Row_mem _ _ (by omega) (fun r hr' => by
            obtain ⟨g, hg, rfl⟩ := List.mem_map.1 hr'
            have := pL g hg
            simp only at this
            omega)]
          have : ((wF o.1).any fun r => decide (r = out[j])) = true := by
            obtain ⟨m, hm, em⟩ := hmem _ (List.getElem_mem hj)
            have hkey := pC hcpl k hk hk m hm
            obtain ⟨g, hg, eg⟩ := List.mem_map.1 hkey
            have hgw := pG g hg
            have hmw := mv_word hr hkw hm
            have := keyW_inj (wordB_letters hgw) (wordB_letters hmw) eg
            rw [List.any_eq_true]
            exact ⟨g.move_word, List.mem_map.2 ⟨g, hg, rfl⟩, by rw [this, em]; simp⟩
          rw [this, bnd_some_eq]
          rfl) (by
          simp only [F_laws_FnDerivations_L1, cond_true]
          rw [decide_eq_false (by omega), cond_false])
        have hall : (out.all fun _ => true) = true := by simp
        rw [hh, hall]
        rfl
    rw [hrun]
    rfl
end Go.Fn
