/-
  Derivations that a search finds; the plain law of DerivationOf. No program in sight. No condition.
-/
import Derived.Test.YtneglngdbcefgaaPSearch
namespace Go.Fn
open Go Go.Tc
/-- Each word but the first was found from one before it. -/
def TreeF (fs : List Gfound) : Prop := ∀ (i : Nat) (h : i < fs.length), if i = 0 then fs[i].parent = -1 else 0 ≤ fs[i].parent ∧ fs[i].parent < i
theorem TreeF.add {fs : List Gfound} (h : TreeF fs) {m : Gmove} {k : Nat} (hk : k < fs.length) : TreeF (fs ++ [toF m k]) := by
  intro i hi
  by_cases hlt : i < fs.length
  · rw [List.getElem_append_left hlt]
    exact h i hlt
  · have : i = fs.length := by simp at hi; omega
    subst this
    rw [if_neg (by omega)]
    simp [toF]
    omega
theorem goM_tree (k : Nat) : ∀ (ms : List Gmove) (fs : List Gfound), k < fs.length → TreeF fs → TreeF (goM k ms fs).1
  | [], fs, _, h => h
  | m :: ms, fs, hk, h => by
    by_cases hf : keyW m.word ∈ fs.map kF
    · rw [goM_in hf]; exact goM_tree k ms fs hk h
    · rw [goM_new hf]
      by_cases h3 : fs.length + 1 = 300
      · rw [if_pos h3]; exact h.add hk
      · rw [if_neg h3]; exact goM_tree k ms _ (by simp; omega) (h.add hk)
theorem srch_props {rs : List GRewrite} {b : Int} (hr : rewsB rs = true) : ∀ (f k : Nat) (fs : List Gfound) (c : Bool), fs.length ≤ 299 → TreeF fs → GoodF (fun w => wordB w = true) fs →
    TreeF (srch rs b f k fs c).1 ∧ GoodF (fun w => wordB w = true) (srch rs b f k fs c).1 ∧ (srch rs b f k fs c).1.length ≤ 300 ∧ fs.length ≤ (srch rs b f k fs c).1.length
  | 0, k, fs, c, hl, hT, hG => ⟨hT, hG, by rw [srch]; simp only; omega, by rw [srch]; exact Nat.le_refl _⟩
  | f + 1, k, fs, c, hl, hT, hG => by
    rw [srch]
    by_cases hlt : k < fs.length
    · rw [List.getElem?_eq_getElem hlt]
      simp only
      by_cases hkb : (k : Int) = b
      · rw [if_pos hkb]; exact ⟨hT, hG, by simp only; omega, Nat.le_refl _⟩
      · rw [if_neg hkb]
        have hgw := hG _ (List.getElem_mem hlt)
        have hgl := goM_len k (movesL rs fs[k].move_word) fs hl
        have hgg := goM_good (P := fun w => wordB w = true) k (movesL rs fs[k].move_word) fs (fun m hm => mv_word hr hgw hm) hG
        have hgt := goM_tree k (movesL rs fs[k].move_word) fs hlt hT
        cases h1 : (goM k (movesL rs fs[k].move_word) fs).2 with
        | true =>
          have e : goM k (movesL rs fs[k].move_word) fs = ((goM k (movesL rs fs[k].move_word) fs).1, true) := by rw [← h1]
          rw [e]
          exact ⟨hgt, hgg, hgl.2.1, hgl.2.2⟩
        | false =>
          have e : goM k (movesL rs fs[k].move_word) fs = ((goM k (movesL rs fs[k].move_word) fs).1, false) := by rw [← h1]
          rw [e]
          simp only
          obtain ⟨a, b', c', d⟩ := srch_props (b := b) hr f (k + 1) (goM k (movesL rs fs[k].move_word) fs).1 (c && !tooL rs fs[k].move_word) (hgl.1 h1) hgt hgg
          exact ⟨a, b', c', Nat.le_trans hgl.2.2 d⟩
    · rw [List.getElem?_eq_none (by omega)]
      exact ⟨hT, hG, by simp only; omega, Nat.le_refl _⟩
def zF : Gfound := ⟨0, 0, [], -1⟩
def rowF (f : Gfound) : List Int := [f.move_rule, f.move_at_]
/-- The steps to the i-th word. -/
def pth (fs : List Gfound) : Nat → Nat → List (List Int)
  | 0, _ => []
  | f + 1, i => if i = 0 then [] else pth fs f (fs.getD i zF).parent.toNat ++ [rowF (fs.getD i zF)]
theorem fget {fs : List Gfound} {i : Nat} (h : i < fs.length) : fs.getD i zF = fs[i] := by rw [List.getD_eq_getElem?_getD, List.getElem?_eq_getElem h]; rfl
theorem pth_len (fs : List Gfound) : ∀ f i, (pth fs f i).length ≤ f
  | 0, _ => by simp [pth]
  | f + 1, i => by
    rw [pth]
    split
    · simp
    · have := pth_len fs f (fs.getD i zF).parent.toNat
      rw [List.length_append, List.length_singleton]; omega
theorem pth_rows (fs : List Gfound) : ∀ f i, ∀ x ∈ pth fs f i, x.length ≤ 2
  | 0, _, x, hx => by simp [pth] at hx
  | f + 1, i, x, hx => by
    rw [pth] at hx
    split at hx
    · simp at hx
    · rcases List.mem_append.1 hx with hx | hx
      · exact pth_rows fs f _ x hx
      · rw [List.mem_singleton.1 hx]; simp [rowF]
theorem sp_path {R : Type} {body : Int × List (List Int) → Option ((Int × List (List Int)) ⊕ Out (Int × List (List Int)) R)} {fs : List Gfound} (hT : TreeF fs) (hl : fs.length ≤ 300)
    (hb : ∀ s, body s = (cond (decide (0 < s.1)) (bnd (idx (sF fs) s.1) fun y167 => bnd (F_spec_l00Own y167) fun r172 => bnd (app ([r172] : List (List Int)) s.2) fun z176 => bnd (idx (bF fs) s.1) fun y179 => some (.inl (y179, z176))) (some (.inr (.brk (s.1, s.2)))))) :
    ∀ (f i : Nat) (acc : List (List Int)), i ≤ f → i < fs.length → acc.length + i ≤ 1000 → run body ((i : Int), acc) = some (.brk (0, pth fs f i ++ acc)) := by
  intro f
  induction f with
  | zero =>
    intro i acc hi hlt _
    obtain rfl : i = 0 := by omega
    exact run_done (by rw [hb]; rfl)
  | succ f ih =>
    intro i acc hi hlt ha
    rw [pth]
    by_cases h0 : i = 0
    · subst h0
      rw [if_pos rfl]
      exact run_done (by rw [hb]; rfl)
    · rw [if_neg h0]
      have ht := hT i hlt
      rw [if_neg h0] at ht
      rw [fget hlt]
      have h1 : i < (sF fs).length := by simpa [sF] using hlt
      have h2 : i < (bF fs).length := by simpa [bF] using hlt
      have e1 : (sF fs)[i] = rowF fs[i] := by simp only [sF, List.getElem_map]; unfold rF; rw [if_neg (by omega)]; rfl
      have e2 : (bF fs)[i] = ((fs[i].parent.toNat : Nat) : Int) := by simp only [bF, List.getElem_map]; omega
      have hrl : (rowF fs[i]).length = 2 := rfl
      have hstep : body ((i : Int), acc) = some (.inl (((fs[i].parent.toNat : Nat) : Int), rowF fs[i] :: acc)) := by
        rw [hb]
        simp only
        rw [decide_eq_true (by omega : 0 < (i : Int)), cond_true, idx_nat h1, bnd_some_eq, e1, spec_own _ (by omega), bnd_some_eq, app_ok (by simp; omega), bnd_some_eq, idx_nat h2, bnd_some_eq, e2]
        rfl
      rw [run_next hstep, ih _ _ (by omega) (by omega) (by simp; omega), List.append_assoc]
      rfl
theorem im_path {R : Type} {body : Int × List (List Int) → Option ((Int × List (List Int)) ⊕ Out (Int × List (List Int)) R)} {fs : List Gfound} (hT : TreeF fs) (hl : fs.length ≤ 300)
    (hb : ∀ s, body s = bnd (idx fs s.1) fun y76 => (cond (decide (0 ≤ y76.parent)) (bnd (idx fs s.1) fun y82 => bnd (idx fs s.1) fun y85 => bnd (app s.2 ([([(⟨y82.move_rule, y82.move_at_, y82.move_word⟩ : Gmove).rule, (⟨y85.move_rule, y85.move_at_, y85.move_word⟩ : Gmove).at_] : List Int)] : List (List Int))) fun z93 => bnd (idx fs s.1) fun y96 => some (.inl (y96.parent, z93))) (some (.inr (.brk (s.1, s.2)))))) :
    ∀ (f i : Nat) (acc : List (List Int)), i ≤ f → i < fs.length → acc.length + i ≤ 1000 → run body ((i : Int), acc) = some (.brk (0, acc ++ (pth fs f i).reverse)) := by
  have base : ∀ (acc : List (List Int)), 0 < fs.length → run body (0, acc) = some (.brk (0, acc)) := by
    intro acc h
    refine run_done ?_
    have ht := hT 0 h
    rw [if_pos rfl] at ht
    rw [hb]
    simp only
    rw [show (0 : Int) = ((0 : Nat) : Int) from rfl, idx_nat h, bnd_some_eq, decide_eq_false (by omega), cond_false]
  intro f
  induction f with
  | zero =>
    intro i acc hi hlt _
    obtain rfl : i = 0 := by omega
    rw [pth, show ((0 : Nat) : Int) = 0 from rfl, base acc hlt]
    simp
  | succ f ih =>
    intro i acc hi hlt ha
    rw [pth]
    by_cases h0 : i = 0
    · subst h0
      rw [if_pos rfl, show ((0 : Nat) : Int) = 0 from rfl, base acc hlt]
      simp
    · rw [if_neg h0]
      have ht := hT i hlt
      rw [if_neg h0] at ht
      rw [fget hlt]
      have e2 : fs[i].parent = ((fs[i].parent.toNat : Nat) : Int) := by omega
      have hstep : body ((i : Int), acc) = some (.inl (((fs[i].parent.toNat : Nat) : Int), acc ++ [rowF fs[i]])) := by
        rw [hb]
        simp only
        rw [idx_nat hlt, bnd_some_eq, decide_eq_true (by omega : 0 ≤ fs[i].parent), cond_true, bnd_some_eq, bnd_some_eq, app_ok (by simp; omega), bnd_some_eq, bnd_some_eq, ← e2]
        rfl
      rw [run_next hstep, ih _ _ (by omega) (by omega) (by simp; omega), List.reverse_append, List.append_assoc]
      rfl
def fin (fs : List Gfound) (c : Bool) (to : List Int) : List (List Int) × Int := match fs.findIdx? fun f => decide (f.move_word = to) with
  | none => ([], if c then 3 else 5)
  | some i => if 100 < (pth fs 300 i).length then ([], 5) else (pth fs 300 i, 0)
theorem wordB_letters {w : List Int} (h : wordB w = true) : ∀ x ∈ w, 0 ≤ x ∧ x ≤ 9 := by
  unfold wordB at h
  simp only [Bool.and_eq_true, List.all_eq_true] at h
  exact fun x hx => inB_iff'.1 (h.2 x hx)
theorem find_key {to : List Int} (ht : wordB to = true) : ∀ {fs : List Gfound}, GoodF (fun w => wordB w = true) fs → (fs.findIdx? fun f => decide (kF f = keyW to)) = fs.findIdx? fun f => decide (f.move_word = to)
  | [], _ => rfl
  | f :: fs, hG => by
    have e : decide (kF f = keyW to) = decide (f.move_word = to) := by
      rw [decide_eq_decide]
      exact ⟨fun h => keyW_inj (wordB_letters (hG f (by simp))) (wordB_letters ht) h, fun h => by unfold kF; rw [h]⟩
    rw [List.findIdx?_cons, List.findIdx?_cons, e, find_key ht (fs := fs) (fun g hg => hG g (by simp [hg]))]

theorem spec_fin {R : Type} {body : Int × List (List Int) → Option ((Int × List (List Int)) ⊕ Out (Int × List (List Int)) (List (List Int) × Int))} {fs : List Gfound} (hT : TreeF fs) (hl : fs.length ≤ 300) (h1 : 1 ≤ fs.length)
    (hb : ∀ s, body s = (cond (decide (0 < s.1)) (bnd (idx (sF fs) s.1) fun y167 => bnd (F_spec_l00Own y167) fun r172 => bnd (app ([r172] : List (List Int)) s.2) fun z176 => bnd (idx (bF fs) s.1) fun y179 => some (.inl (y179, z176))) (some (.inr (.brk (s.1, s.2))))))
    {i : Nat} (hi : i < fs.length) : (bnd (run body ((i : Int), ([] : List (List Int)))) (Out.elim (fun (s164 : Int × (List (List Int))) => (cond (decide (100 < (s164.2.length : Int))) (some (([] : (List (List Int))), 5)) (some (s164.2, 0)))) (fun (r : (List (List Int)) × Int) => some r))) = some (if 100 < (pth fs 300 i).length then ([], 5) else (pth fs 300 i, 0)) := by
  rw [sp_path hT hl hb 300 i [] (by omega) hi (by simp; omega), bnd_some_eq, List.append_nil]
  simp only [Out.elim]
  by_cases h : 100 < (pth fs 300 i).length
  · rw [if_pos h, decide_eq_true (by omega), cond_true]
  · rw [if_neg h, decide_eq_false (by omega), cond_false]
theorem impl_fin {body : Int × List (List Int) → Option ((Int × List (List Int)) ⊕ Out (Int × List (List Int)) (List (List Int) × Int))} {fs : List Gfound} (hT : TreeF fs) (hl : fs.length ≤ 300)
    (hb : ∀ s, body s = bnd (idx fs s.1) fun y76 => (cond (decide (0 ≤ y76.parent)) (bnd (idx fs s.1) fun y82 => bnd (idx fs s.1) fun y85 => bnd (app s.2 ([([(⟨y82.move_rule, y82.move_at_, y82.move_word⟩ : Gmove).rule, (⟨y85.move_rule, y85.move_at_, y85.move_word⟩ : Gmove).at_] : List Int)] : List (List Int))) fun z93 => bnd (idx fs s.1) fun y96 => some (.inl (y96.parent, z93))) (some (.inr (.brk (s.1, s.2))))))
    {i : Nat} (hi : i < fs.length) : (bnd (run body ((i : Int), ([] : List (List Int)))) (Out.elim (fun (s74 : Int × (List (List Int))) => (cond (decide (100 < (s74.2.length : Int))) (some (([] : (List (List Int))), 5)) (bnd (rev s74.2) fun z100 => some (z100, 0)))) (fun (r : (List (List Int)) × Int) => some r))) = some (if 100 < (pth fs 300 i).length then ([], 5) else (pth fs 300 i, 0)) := by
  have hpl := pth_len fs 300 i
  rw [im_path hT hl hb 300 i [] (by omega) hi (by simp; omega), bnd_some_eq, List.nil_append]
  simp only [Out.elim, List.length_reverse]
  by_cases h : 100 < (pth fs 300 i).length
  · rw [if_pos h, decide_eq_true (by omega), cond_true]
  · rw [if_neg h, decide_eq_false (by omega), cond_false]
    unfold rev
    rw [if_pos (by simp; omega), bnd_some_eq, List.reverse_reverse]
end Go.Fn
