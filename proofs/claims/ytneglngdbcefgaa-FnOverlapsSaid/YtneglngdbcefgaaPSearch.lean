/-
  The search for words, on both sides. No program in sight. No condition.
-/
import Derived.Test.YtneglngdbcefgaaPMoves
namespace Go.Fn
open Go Go.Tc
/-! ### The search, plainly -/
def kF (f : Gfound) : ByteArray := keyW f.move_word
def toF (m : Gmove) (k : Nat) : Gfound := ⟨m.rule, m.at_, m.word, (k : Int)⟩
noncomputable def goM (k : Nat) : List Gmove → List Gfound → List Gfound × Bool
  | [], fs => (fs, false)
  | m :: ms, fs => @ite _ (keyW m.word ∈ fs.map kF) (Classical.propDecidable _) (goM k ms fs) (if fs.length + 1 = 300 then (fs ++ [toF m k], true) else goM k ms (fs ++ [toF m k]))
theorem goM_in {k : Nat} {m : Gmove} {ms : List Gmove} {fs : List Gfound} (h : keyW m.word ∈ fs.map kF) : goM k (m :: ms) fs = goM k ms fs := by rw [goM, if_pos h]
theorem goM_new {k : Nat} {m : Gmove} {ms : List Gmove} {fs : List Gfound} (h : ¬ keyW m.word ∈ fs.map kF) : goM k (m :: ms) fs = if fs.length + 1 = 300 then (fs ++ [toF m k], true) else goM k ms (fs ++ [toF m k]) := by rw [goM, if_neg h]
noncomputable def ddN : List Gmove → List ByteArray → List Gmove
  | [], _ => []
  | m :: ms, L => @ite _ (keyW m.word ∈ L) (Classical.propDecidable _) (ddN ms L) (m :: ddN ms (addK L (keyW m.word)))
theorem dd_new : ∀ (ms : List Gmove) (st : List Gmove × List ByteArray), (ms.foldl ddF st).1 = st.1 ++ ddN ms st.2
  | [], st => by simp [ddN]
  | m :: ms, st => by
    rw [List.foldl_cons, dd_new ms, ddN]
    by_cases h : keyW m.word ∈ st.2
    · rw [ddF_in h, if_pos h]
    · rw [ddF_new h, if_neg h]
      simp
theorem goM_dd (k : Nat) : ∀ (ms : List Gmove) (L : List ByteArray) (fs : List Gfound), (∀ x ∈ L, x ∈ fs.map kF) → goM k (ddN ms L) fs = goM k ms fs
  | [], _, _, _ => rfl
  | m :: ms, L, fs, h => by
    rw [ddN]
    by_cases hL : keyW m.word ∈ L
    · rw [if_pos hL, goM_in (h _ hL)]
      exact goM_dd k ms L fs h
    · rw [if_neg hL]
      by_cases hf : keyW m.word ∈ fs.map kF
      · rw [goM_in hf, goM_in hf]
        refine goM_dd k ms _ fs fun x hx => ?_
        rcases addK_mem.1 hx with rfl | hx
        · exact hf
        · exact h x hx
      · rw [goM_new hf, goM_new hf]
        by_cases h3 : fs.length + 1 = 300
        · rw [if_pos h3, if_pos h3]
        · rw [if_neg h3, if_neg h3]
          refine goM_dd k ms _ _ fun x hx => ?_
          rw [List.map_append, List.mem_append]
          rcases addK_mem.1 hx with rfl | hx
          · exact .inr (by simp [kF, toF])
          · exact .inl (h x hx)
noncomputable def srch (rs : List GRewrite) (b : Int) : Nat → Nat → List Gfound → Bool → List Gfound × Bool
  | 0, _, fs, c => (fs, c)
  | f + 1, k, fs, c => match fs[k]? with
    | none => (fs, c)
    | some x => if (k : Int) = b then (fs, false) else
      match goM k (movesL rs x.move_word) fs with
      | (fs', true) => (fs', false)
      | (fs', false) => srch rs b f (k + 1) fs' (c && !tooL rs x.move_word)
theorem goM_len (k : Nat) : ∀ (ms : List Gmove) (fs : List Gfound), fs.length ≤ 299 → ((goM k ms fs).2 = false → (goM k ms fs).1.length ≤ 299) ∧ (goM k ms fs).1.length ≤ 300 ∧ fs.length ≤ (goM k ms fs).1.length
  | [], fs, h => ⟨fun _ => h, by rw [goM]; simp only; omega, by rw [goM]; exact Nat.le_refl _⟩
  | m :: ms, fs, h => by
    by_cases hf : keyW m.word ∈ fs.map kF
    · rw [goM_in hf]; exact goM_len k ms fs h
    · rw [goM_new hf]
      by_cases h3 : fs.length + 1 = 300
      · rw [if_pos h3]; simp; omega
      · rw [if_neg h3]
        obtain ⟨a, b, c⟩ := goM_len k ms (fs ++ [toF m k]) (by simp; omega)
        exact ⟨a, b, by simp at c; omega⟩
/-- What is known of all words that are found. -/
def GoodF (P : List Int → Prop) (fs : List Gfound) : Prop := ∀ f ∈ fs, P f.move_word
theorem goM_good {P : List Int → Prop} (k : Nat) : ∀ (ms : List Gmove) (fs : List Gfound), (∀ m ∈ ms, P m.word) → GoodF P fs → GoodF P (goM k ms fs).1
  | [], fs, _, h => h
  | m :: ms, fs, hm, h => by
    have h' : GoodF P (fs ++ [toF m k]) := fun f hf => by
      rcases List.mem_append.1 hf with hf | hf
      · exact h f hf
      · rw [List.mem_singleton.1 hf]; exact hm m (by simp)
    by_cases hf : keyW m.word ∈ fs.map kF
    · rw [goM_in hf]; exact goM_good k ms fs (fun x hx => hm x (by simp [hx])) h
    · rw [goM_new hf]
      by_cases h3 : fs.length + 1 = 300
      · rw [if_pos h3]; exact h'
      · rw [if_neg h3]; exact goM_good k ms _ (fun x hx => hm x (by simp [hx])) h'
/-! ### The reference's search -/
section
variable {R0 : Type} (K : List (List Int) → List Int → List (List Int) → R0)
abbrev SpI := (List (List Int)) × (List Int) × (List (List Int)) × (List ByteArray) × Int
abbrev SpO := (List (List Int)) × (List Int) × (List (List Int)) × Bool × (List ByteArray) × Int
noncomputable def lowB {R : Type} (L : List ByteArray) (k : ByteArray) (s80 : Int × Int) : Option ((Int × Int) ⊕ Out (Int × Int) R) :=
  (cond (decide (s80.1 < s80.2)) (bnd (idx L (w64 (Int.tdiv (w64 (s80.1 + s80.2)) 2))) fun y83 => (cond (Op.bytesLess y83.toList k.toList) (some (.inl ((w64 ((w64 (Int.tdiv (w64 (s80.1 + s80.2)) 2)) + 1)), s80.2))) (some (.inl (s80.1, (w64 (Int.tdiv (w64 (s80.1 + s80.2)) 2))))))) (some (.inr (.brk (s80.1, s80.2)))))
noncomputable def spS3 (s26 : SpO) (r63 : (List (List Int)) × (List (List Int)) × Bool) (s69 : SpI) : Option (SpI ⊕ Out SpI R0) :=
  (cond (decide (s69.2.2.2.2 < (r63.1.length : Int))) (bnd (idx r63.1 s69.2.2.2.2) fun y72 => bnd (F_spec_l10Key y72) fun r77 => bnd (run (lowB (R := Option (SpI ⊕ Out SpI R0)) s69.2.2.2.1 r77) (0, (s69.2.2.2.1.length : Int))) (Out.elim (fun (s80 : Int × Int) => bnd ((cond (decide (s80.1 < (s69.2.2.2.1.length : Int))) (bnd (idx s69.2.2.2.1 s80.1) fun y92 => (cond (y92.toList == r77.toList) (some (.ret (some (.inl (s69.1, s69.2.1, s69.2.2.1, s69.2.2.2.1, (w64 (s69.2.2.2.2 + 1))))))) (some (.brk ())))) (some (.brk ()))) : Option (Out (Unit) (Option (SpI ⊕ Out SpI R0)))) (Out.elim (fun (s89 : Unit) => bnd (app s69.2.2.2.1 ([(⟨#[]⟩ : ByteArray)] : List ByteArray)) fun z99 => bnd (slc z99 (w64 (s80.1 + 1)) (z99.length : Int)) fun z105 => bnd (slc z99 s80.1 (z99.length : Int)) fun z107 => bnd (idx (cpyAt z99 (w64 (s80.1 + 1)) (z99.length : Int) z107) s80.1) fun y109 => bnd (bnd (idx r63.1 s69.2.2.2.2) fun y115 => bnd (app s69.1 ([y115] : List (List Int))) fun z122 => some (.brk z122) : Option (Out ((List (List Int))) R0)) (Out.elim (fun (s113 : (List (List Int))) => bnd (app s69.2.1 ([s26.2.2.2.2.2] : List Int)) fun z130 => bnd (bnd (idx r63.2.1 s69.2.2.2.2) fun y135 => bnd (app s69.2.2.1 ([y135] : List (List Int))) fun z144 => some (.brk z144) : Option (Out ((List (List Int))) R0)) (Out.elim (fun (s133 : (List (List Int))) => (cond (decide ((s113.length : Int) = 300)) (some (.inr (.ret (K s113 z130 s133)))) (some (.inl (s113, z130, s133, ((cpyAt z99 (w64 (s80.1 + 1)) (z99.length : Int) z107).set s80.1.toNat r77), (w64 (s69.2.2.2.2 + 1))))))) (fun (r : R0) => some (.inr (.ret r))))) (fun (r : R0) => some (.inr (.ret r))))) (fun (r : Option (SpI ⊕ Out SpI R0)) => r))) (fun (r : Option (SpI ⊕ Out SpI R0)) => r))) (some (.inr (.brk (s69.1, s69.2.1, s69.2.2.1, s69.2.2.2.1, s69.2.2.2.2)))))
noncomputable def spS1 (p0 : List GRewrite) (p3 : Int) (s26 : SpO) : Option (SpO ⊕ Out SpO R0) :=
  (cond (decide (s26.2.2.2.2.2 < (s26.1.length : Int))) (cond (decide (s26.2.2.2.2.2 = p3)) (some (.inr (.ret (K s26.1 s26.2.1 s26.2.2.1)))) (bnd (idx s26.1 s26.2.2.2.2.2) fun y58 => bnd (F_spec_l10Next p0 y58) fun r63 => bnd ((cond s26.2.2.2.1 (some (.brk r63.2.2)) (some (.brk false))) : Option (Out (Bool) R0)) (Out.elim (fun (s66 : Bool) => bnd (run (spS3 K s26 r63) (s26.1, s26.2.1, s26.2.2.1, s26.2.2.2.2.1, 0)) (Out.elim (fun (s69 : SpI) => some (.inl (s69.1, s69.2.1, s69.2.2.1, s66, s69.2.2.2.1, (w64 (s26.2.2.2.2.2 + 1))))) (fun (r : R0) => some (.inr (.ret r))))) (fun (r : R0) => some (.inr (.ret r)))))) (some (.inr (.brk (s26.1, s26.2.1, s26.2.2.1, s26.2.2.2.1, s26.2.2.2.2.1, s26.2.2.2.2.2)))))
def wF (fs : List Gfound) : List (List Int) := fs.map (·.move_word)
def bF (fs : List Gfound) : List Int := fs.map (·.parent)
def rF (f : Gfound) : List Int := if f.parent < 0 then [] else [f.move_rule, f.move_at_]
def sF (fs : List Gfound) : List (List Int) := fs.map rF
def SeenOk (L : List ByteArray) (fs : List Gfound) : Prop := SrtK L ∧ (∀ x, x ∈ L ↔ x ∈ fs.map kF) ∧ L.length ≤ fs.length
theorem rF_to (m : Gmove) (k : Nat) : rF (toF m k) = rowM m := by unfold rF toF; rw [if_neg (by simp only; omega)]; rfl
theorem sp_go (s26 : SpO) (k : Nat) (hk : s26.2.2.2.2.2 = (k : Int)) (all : List Gmove) (hall : ∀ m ∈ all, m.word.length ≤ 1000) (hal : all.length ≤ 100000) (fit : Bool) :
    ∀ (ms : List Gmove) (i : Nat) (fs : List Gfound) (L : List ByteArray), all.drop i = ms → i ≤ all.length → fs.length ≤ 299 → SeenOk L fs →
      ((goM k ms fs).2 = true ∧ run (spS3 K s26 (all.map Gmove.word, all.map rowM, fit)) (wF fs, bF fs, sF fs, L, (i : Int)) = some (.ret (K (wF (goM k ms fs).1) (bF (goM k ms fs).1) (sF (goM k ms fs).1)))) ∨
      ((goM k ms fs).2 = false ∧ ∃ L', SeenOk L' (goM k ms fs).1 ∧ run (spS3 K s26 (all.map Gmove.word, all.map rowM, fit)) (wF fs, bF fs, sF fs, L, (i : Int)) = some (.brk (wF (goM k ms fs).1, bF (goM k ms fs).1, sF (goM k ms fs).1, L', (all.length : Int))))
  | [], i, fs, L, hd, hi, hl, hS => by
    right
    have : i = all.length := by
      have := congrArg List.length hd
      simp at this
      omega
    subst this
    rw [goM]
    refine ⟨rfl, L, hS, run_done ?_⟩
    simp only [spS3, List.length_map, Int.lt_irrefl, decide_false, cond_false]
  | m :: ms, i, fs, L, hd, hi, hl, hS => by
    have hlt : i < all.length := by
      have := congrArg List.length hd
      simp at this
      omega
    have hm : all[i] = m := by
      rw [List.drop_eq_getElem_cons hlt] at hd
      exact (List.cons.inj hd).1
    have hd' : all.drop (i + 1) = ms := by
      rw [List.drop_eq_getElem_cons hlt] at hd
      exact (List.cons.inj hd).2
    obtain ⟨hs, hmem, hLl⟩ := hS
    have hml : m.word.length ≤ 1000 := hall m (hm ▸ List.getElem_mem hlt)
    have hi1 : i < (all.map Gmove.word).length := by simpa using hlt
    have hi2 : i < (all.map rowM).length := by simpa using hlt
    have hbase : spS3 K s26 (all.map Gmove.word, all.map rowM, fit) (wF fs, bF fs, sF fs, L, (i : Int)) = spS3 K s26 (all.map Gmove.word, all.map rowM, fit) (wF fs, bF fs, sF fs, L, (i : Int)) := rfl
    conv at hbase => rhs; unfold spS3
    simp only [] at hbase
    rw [decide_eq_true (by omega : (i : Int) < ((all.map Gmove.word).length : Int)), cond_true, idx_nat hi1, bnd_some_eq, List.getElem_map, hm, spec_key _ (by omega), bnd_some_eq, spec_low (body := lowB (R := Option (SpI ⊕ Out SpI R0)) L (keyW m.word)) (k := keyW m.word) hs (by omega) (fun _ => rfl), bnd_some_eq] at hbase
    simp only [Out.elim] at hbase
    by_cases hkL : keyW m.word ∈ L
    · obtain ⟨hlow, he⟩ := (low_mem hs).1 hkL
      rw [decide_eq_true (by omega : ((lowK L (keyW m.word) : Nat) : Int) < (L.length : Int)), cond_true, idx_nat hlow, bnd_some_eq, he, toList_beq, decide_eq_true rfl, cond_true, bnd_some_eq] at hbase
      simp only [Out.elim] at hbase
      rw [w64_nat1 (show i < 4611686018427387904 by omega)] at hbase
      rw [goM_in ((hmem _).1 hkL), run_next hbase]
      exact sp_go s26 k hk all hall hal fit ms (i + 1) fs L hd' (by omega) hl ⟨hs, hmem, hLl⟩
    · have hnf : ¬ keyW m.word ∈ fs.map kF := fun h => hkL ((hmem _).2 h)
      have hll := lowK_le L (keyW m.word)
      have hz : app L [(⟨#[]⟩ : ByteArray)] = some (L ++ [(⟨#[]⟩ : ByteArray)]) := app_ok (by simp; omega)
      have hzl : (L ++ [(⟨#[]⟩ : ByteArray)]).length = L.length + 1 := by simp
      have hcond : ((cond (decide (((lowK L (keyW m.word) : Nat) : Int) < (L.length : Int))) (bnd (idx L ((lowK L (keyW m.word) : Nat) : Int)) fun y92 => (cond (y92.toList == (keyW m.word).toList) (some (.ret (some (.inl (wF fs, bF fs, sF fs, L, (w64 ((i : Int) + 1))))))) (some (.brk ())))) (some (.brk ()))) : Option (Out (Unit) (Option (SpI ⊕ Out SpI R0)))) = some (.brk ()) := by
        by_cases hlt : lowK L (keyW m.word) < L.length
        · rw [decide_eq_true (by omega), cond_true, idx_nat hlt, bnd_some_eq, toList_beq, decide_eq_false (fun e => hkL ((low_mem hs).2 ⟨hlt, e⟩)), cond_false]
        · rw [decide_eq_false (by omega), cond_false]
      have hins := ins_eq L (⟨#[]⟩ : ByteArray) (keyW m.word) hll
      have hcl : (cpyAt (L ++ [(⟨#[]⟩ : ByteArray)]) ((lowK L (keyW m.word) + 1 : Nat) : Int) (((L ++ [(⟨#[]⟩ : ByteArray)]).length : Nat) : Int) ((L ++ [(⟨#[]⟩ : ByteArray)]).drop (lowK L (keyW m.word)))).length = L.length + 1 := by
        have := congrArg List.length hins
        rw [List.length_set] at this
        rw [this]
        simp
        omega
      have hadd : addK L (keyW m.word) = L.take (lowK L (keyW m.word)) ++ [keyW m.word] ++ L.drop (lowK L (keyW m.word)) := by
        unfold addK
        rw [if_neg hkL]
      have hal' := addK_len L (keyW m.word)
      have e1 : app (wF fs) [m.word] = some (wF (fs ++ [toF m k])) := by rw [app_ok (by simp [wF]; omega)]; simp [wF, toF]
      have e2 : app (bF fs) [s26.2.2.2.2.2] = some (bF (fs ++ [toF m k])) := by rw [app_ok (by simp [bF]; omega), hk]; simp [bF, toF]
      have e3 : app (sF fs) [rowM m] = some (sF (fs ++ [toF m k])) := by rw [app_ok (by simp [sF]; omega)]; unfold sF; rw [List.map_append, List.map_cons, rF_to]; rfl
      rw [hcond, bnd_some_eq] at hbase
      simp only [Out.elim] at hbase
      rw [hz, bnd_some_eq, w64_nat1 (by omega), slc_from (by omega), bnd_some_eq, slc_from (by omega), bnd_some_eq, idx_nat (by omega), bnd_some_eq, bnd_some_eq, e1, bnd_some_eq, bnd_some_eq] at hbase
      simp only [Out.elim] at hbase
      rw [e2, bnd_some_eq, idx_nat hi2, bnd_some_eq, List.getElem_map, hm, e3, bnd_some_eq, bnd_some_eq] at hbase
      simp only [Out.elim] at hbase
      have hwl : ((wF (fs ++ [toF m k])).length : Int) = ((fs.length + 1 : Nat) : Int) := by simp [wF]
      rw [goM_new hnf]
      by_cases h3 : fs.length + 1 = 300
      · left
        rw [if_pos h3]
        rw [decide_eq_true (by rw [hwl, h3]; rfl), cond_true] at hbase
        exact ⟨rfl, run_done hbase⟩
      · rw [if_neg h3]
        rw [decide_eq_false (by rw [hwl]; omega), cond_false, Int.toNat_natCast, hins, ← hadd, w64_nat1 (by omega)] at hbase
        rw [run_next hbase]
        refine sp_go s26 k hk all hall hal fit ms (i + 1) (fs ++ [toF m k]) _ hd' (by omega) (by simp; omega) ⟨addK_srt hs, fun x => ?_, by simp; omega⟩
        rw [addK_mem, hmem, List.map_append, List.mem_append]
        simp [kF, toF, or_comm]
end
/-! ### The words that are found -/
theorem mv_word {rs : List GRewrite} {w : List Int} (hr : rewsB rs = true) (hw : wordB w = true) {m : Gmove} (h : m ∈ movesL rs w) : wordB m.word = true := by
  unfold movesL at h
  obtain ⟨k, hk, hm⟩ := List.mem_flatMap.1 h
  have hk := List.mem_range.1 hk
  unfold mvK at hm
  obtain ⟨a, ha, rfl⟩ := List.mem_map.1 hm
  obtain ⟨hp, ht⟩ := List.mem_filter.1 ha
  have hpm := posn_mem hp
  have hpp : (w.drop a).take (rs.getD k zR).From.length = (rs.getD k zR).From := by
    unfold posn at hp
    simpa using (List.mem_filter.1 hp).2
  have hap : applyW rs w (k : Int) (a : Int) = (newW w (rs.getD k zR) a, 0) := by
    unfold applyW
    rw [inB_iff'.2 (by omega : 0 ≤ (k : Int) ∧ (k : Int) ≤ (rs.length : Int) - 1), inB_iff'.2 (by omega : 0 ≤ (a : Int) ∧ (a : Int) ≤ (w.length : Int))]
    simp only [Int.toNat_natCast, Bool.and_self, cond_true]
    rw [decide_eq_true hpp, cond_true]
    have : ¬ 400 < (putW w (rs.getD k zR).To a (rs.getD k zR).From.length).length := fun h => by
      unfold tooB newW at ht
      rw [decide_eq_true h] at ht
      exact Bool.noConfusion ht
    rw [decide_eq_false this]
    rfl
  have := applyW_word (r := (k : Int)) (a := (a : Int)) hr hw (by rw [hap])
  rw [hap] at this
  exact this
theorem movesL_len {rs : List GRewrite} {w : List Int} (hr : rewsB rs = true) (hw : w.length ≤ 400) : (movesL rs w).length ≤ 24060 := by
  have hl := rewsB_len hr
  unfold movesL
  have : ∀ ks : List Nat, (ks.flatMap fun k => mvK w k (rs.getD k zR)).length ≤ 401 * ks.length := by
    intro ks
    induction ks with
    | nil => simp
    | cons k ks ih =>
      have := mvK_len w k (rs.getD k zR)
      rw [List.flatMap_cons, List.length_append, List.length_cons]
      omega
  have h := this (List.range rs.length)
  rw [List.length_range] at h
  omega
theorem ddN_sub : ∀ (ms : List Gmove) (L : List ByteArray), (∀ m ∈ ddN ms L, m ∈ ms) ∧ (ddN ms L).length ≤ ms.length
  | [], L => by simp [ddN]
  | m :: ms, L => by
    rw [ddN]
    by_cases h : keyW m.word ∈ L
    · rw [if_pos h]
      obtain ⟨a, b⟩ := ddN_sub ms L
      exact ⟨fun x hx => by simp [a x hx], by simp; omega⟩
    · rw [if_neg h]
      obtain ⟨a, b⟩ := ddN_sub ms (addK L (keyW m.word))
      exact ⟨fun x hx => by rcases List.mem_cons.1 hx with rfl | hx; simp; simp [a x hx], by simp; omega⟩
theorem dd_eq (rs : List GRewrite) (w : List Int) : (dd rs w).1 = ddN (movesL rs w) [] := by unfold dd; rw [dd_new]; rfl
section
variable {R0 : Type} (K : List (List Int) → List Int → List (List Int) → R0)
theorem sp_search {rs : List GRewrite} (b : Int) (hr : rewsB rs = true) : ∀ (f k : Nat) (fs : List Gfound) (c : Bool) (L : List ByteArray), k + f = 301 → k ≤ fs.length → fs.length ≤ 299 → SeenOk L fs → GoodF (fun w => wordB w = true) fs →
    ((srch rs b f k fs c).2 = false ∧ run (spS1 K rs b) (wF fs, bF fs, sF fs, c, L, (k : Int)) = some (.ret (K (wF (srch rs b f k fs c).1) (bF (srch rs b f k fs c).1) (sF (srch rs b f k fs c).1)))) ∨
    (∃ L' n, run (spS1 K rs b) (wF fs, bF fs, sF fs, c, L, (k : Int)) = some (.brk (wF (srch rs b f k fs c).1, bF (srch rs b f k fs c).1, sF (srch rs b f k fs c).1, (srch rs b f k fs c).2, L', n)))
  | 0, k, fs, c, L, hf, hk, hl, _, _ => by omega
  | f + 1, k, fs, c, L, hf, hk, hl, hS, hG => by
    have hwl : (wF fs).length = fs.length := List.length_map _
    rw [srch]
    by_cases hlt : k < fs.length
    · rw [List.getElem?_eq_getElem hlt]
      simp only
      have hlt' : k < (wF fs).length := by omega
      by_cases hkb : (k : Int) = b
      · left
        rw [if_pos hkb]
        refine ⟨rfl, run_done ?_⟩
        simp only [spS1]
        rw [decide_eq_true (by omega : (k : Int) < ((wF fs).length : Int)), cond_true, decide_eq_true hkb, cond_true]
      · rw [if_neg hkb]
        have hgw := hG _ (List.getElem_mem hlt)
        have hww := wordB_len hgw
        have hidx : idx (wF fs) (k : Int) = some fs[k].move_word := by rw [idx_nat hlt']; simp [wF]
        have hbase : spS1 K rs b (wF fs, bF fs, sF fs, c, L, (k : Int)) = spS1 K rs b (wF fs, bF fs, sF fs, c, L, (k : Int)) := rfl
        conv at hbase => rhs; unfold spS1
        simp only [] at hbase
        rw [decide_eq_true (by omega : (k : Int) < ((wF fs).length : Int)), cond_true, decide_eq_false hkb, cond_false, hidx, bnd_some_eq, spec_next hr hww, bnd_some_eq] at hbase
        have hc : ((cond c (some (.brk (!tooL rs fs[k].move_word))) (some (.brk false))) : Option (Out (Bool) R0)) = some (.brk (c && !tooL rs fs[k].move_word)) := by cases c <;> rfl
        simp only [] at hbase
        rw [hc, bnd_some_eq] at hbase
        simp only [Out.elim] at hbase
        have hsub := ddN_sub (movesL rs fs[k].move_word) []
        have hml := movesL_len hr hww
        have hgd : goM k (ddN (movesL rs fs[k].move_word) []) fs = goM k (movesL rs fs[k].move_word) fs := goM_dd k _ _ _ (by simp)
        have hgo := sp_go K (wF fs, bF fs, sF fs, c, L, (k : Int)) k rfl (ddN (movesL rs fs[k].move_word) []) (fun m hm => by have := wordB_len (mv_word hr hgw (hsub.1 m hm)); omega) (by omega) (!tooL rs fs[k].move_word) (ddN (movesL rs fs[k].move_word) []) 0 fs L rfl (Nat.zero_le _) hl hS
        rw [hgd] at hgo
        rw [dd_eq] at hbase
        have hgl := goM_len k (movesL rs fs[k].move_word) fs hl
        have hgg := goM_good (P := fun w => wordB w = true) k (movesL rs fs[k].move_word) fs (fun m hm => mv_word hr hgw hm) hG
        rcases hgo with ⟨h1, h2⟩ | ⟨h1, L', hS', h2⟩
        · left
          rw [show ((0 : Nat) : Int) = 0 from rfl] at h2
          rw [h2, bnd_some_eq] at hbase
          simp only [Out.elim] at hbase
          have e : goM k (movesL rs fs[k].move_word) fs = ((goM k (movesL rs fs[k].move_word) fs).1, true) := by rw [← h1]
          rw [e]
          exact ⟨rfl, run_done hbase⟩
        · rw [show ((0 : Nat) : Int) = 0 from rfl] at h2
          rw [h2, bnd_some_eq] at hbase
          simp only [Out.elim] at hbase
          have e : goM k (movesL rs fs[k].move_word) fs = ((goM k (movesL rs fs[k].move_word) fs).1, false) := by rw [← h1]
          rw [w64_nat1 (show k < 4611686018427387904 by omega)] at hbase
          rw [run_next hbase, e]
          simp only
          exact sp_search b hr f (k + 1) _ _ L' (by omega) (by omega) (hgl.1 h1) hS' hgg
    · right
      rw [List.getElem?_eq_none (by omega)]
      refine ⟨L, (k : Int), run_done ?_⟩
      simp only [spS1]
      rw [decide_eq_false (by omega : ¬ (k : Int) < ((wF fs).length : Int)), cond_false]
end
/-! ### The program's search -/
section
variable {R0 : Type} (K : List Gfound → List (ByteArray × Int) → R0)
abbrev ImI := (List Gfound) × List (ByteArray × Int) × Int
abbrev ImO := (List Gfound) × List (ByteArray × Int) × Bool × Int
noncomputable def imS2 (s25 : ImO) (r34 : (List Gmove) × Bool) (s40 : ImI) : Option (ImI ⊕ Out ImI R0) :=
  (cond (decide (s40.2.2 < (r34.1.length : Int))) (bnd (idx r34.1 s40.2.2) fun y43 => bnd (F_impl_keyOf y43.word) fun r51 => (cond (!((mget s40.2.1 r51).isSome)) (bnd (app s40.1 ([(⟨y43.rule, y43.at_, y43.word, s25.2.2.2⟩ : Gfound)] : List Gfound)) fun z61 => (cond (decide ((z61.length : Int) = 300)) (some (.inr (.ret (K z61 (mput s40.2.1 r51 (s40.1.length : Int)))))) (some (.inl (z61, (mput s40.2.1 r51 (s40.1.length : Int)), (w64 (s40.2.2 + 1))))))) (cond (decide ((s40.1.length : Int) = 300)) (some (.inr (.ret (K s40.1 s40.2.1)))) (some (.inl (s40.1, s40.2.1, (w64 (s40.2.2 + 1)))))))) (some (.inr (.brk (s40.1, s40.2.1, s40.2.2)))))
noncomputable def imS1 (p0 : List GRewrite) (p3 : Int) (s25 : ImO) : Option (ImO ⊕ Out ImO R0) :=
  (cond (decide (s25.2.2.2 < (s25.1.length : Int))) (cond (decide (s25.2.2.2 = p3)) (some (.inr (.brk (s25.1, s25.2.1, false, s25.2.2.2)))) (bnd (idx s25.1 s25.2.2.2) fun y29 => bnd (F_impl_movesOf p0 ((⟨y29.move_rule, y29.move_at_, y29.move_word⟩ : Gmove).word)) fun r34 => bnd ((cond s25.2.2.1 (some (.brk (!r34.2))) (some (.brk false))) : Option (Out (Bool) R0)) (Out.elim (fun (s37 : Bool) => bnd (run (imS2 K s25 r34) (s25.1, s25.2.1, 0)) (Out.elim (fun (s40 : ImI) => some (.inl (s40.1, s40.2.1, s37, (w64 (s25.2.2.2 + 1))))) (fun (r : R0) => some (.inr (.ret r))))) (fun (r : R0) => some (.inr (.ret r)))))) (some (.inr (.brk (s25.1, s25.2.1, s25.2.2.1, s25.2.2.2)))))
def NumK (fs : List Gfound) (nums : List (ByteArray × Int)) : Prop := ∀ x, mget nums x = (fs.findIdx? fun f => decide (kF f = x)).map fun (i : Nat) => (i : Int)
theorem NumK.some {fs : List Gfound} {nums : List (ByteArray × Int)} (h : NumK fs nums) (x : ByteArray) : (mget nums x).isSome = true ↔ x ∈ fs.map kF := by
  rw [h x, Option.isSome_map, List.findIdx?_isSome, List.any_eq_true, List.mem_map]
  constructor
  · rintro ⟨f, hf, he⟩
    exact ⟨f, hf, of_decide_eq_true he⟩
  · rintro ⟨f, hf, he⟩
    exact ⟨f, hf, decide_eq_true he⟩
theorem NumK.add {fs : List Gfound} {nums : List (ByteArray × Int)} (h : NumK fs nums) {f : Gfound} (hx : ¬ kF f ∈ fs.map kF) : NumK (fs ++ [f]) (mput nums (kF f) (fs.length : Int)) := by
  intro y
  rw [mget_mput, List.findIdx?_append]
  by_cases e : kF f = y
  · rw [if_pos e]
    have : fs.findIdx? (fun g => decide (kF g = y)) = none := by
      rw [List.findIdx?_eq_none_iff]
      intro g hg
      refine decide_eq_false fun e2 => hx ?_
      rw [e, ← e2]
      exact List.mem_map_of_mem hg
    rw [this]
    simp [e]
  · rw [if_neg e, h y]
    cases hq : fs.findIdx? (fun g => decide (kF g = y)) <;> simp [e]
theorem im_go (s25 : ImO) (k : Nat) (hk : s25.2.2.2 = (k : Int)) (all : List Gmove) (hall : ∀ m ∈ all, m.word.length ≤ 1000) (hal : all.length ≤ 100000) (oth : Bool) :
    ∀ (ms : List Gmove) (i : Nat) (fs : List Gfound) (nums : List (ByteArray × Int)), all.drop i = ms → i ≤ all.length → fs.length ≤ 299 → NumK fs nums →
      ∃ nums', NumK (goM k ms fs).1 nums' ∧ run (imS2 K s25 (all, oth)) (fs, nums, (i : Int)) = some (if (goM k ms fs).2 = true then .ret (K (goM k ms fs).1 nums') else .brk ((goM k ms fs).1, nums', (all.length : Int)))
  | [], i, fs, nums, hd, hi, hl, hN => by
    have : i = all.length := by
      have := congrArg List.length hd
      simp at this
      omega
    subst this
    rw [goM]
    refine ⟨nums, hN, run_done ?_⟩
    simp only [imS2, Int.lt_irrefl, decide_false, cond_false, Bool.false_eq_true, if_false]
  | m :: ms, i, fs, nums, hd, hi, hl, hN => by
    have hlt : i < all.length := by
      have := congrArg List.length hd
      simp at this
      omega
    have hm : all[i] = m := by
      rw [List.drop_eq_getElem_cons hlt] at hd
      exact (List.cons.inj hd).1
    have hd' : all.drop (i + 1) = ms := by
      rw [List.drop_eq_getElem_cons hlt] at hd
      exact (List.cons.inj hd).2
    have hml : m.word.length ≤ 1000 := hall m (hm ▸ List.getElem_mem hlt)
    have hbase : imS2 K s25 (all, oth) (fs, nums, (i : Int)) = imS2 K s25 (all, oth) (fs, nums, (i : Int)) := rfl
    conv at hbase => rhs; unfold imS2
    simp only [] at hbase
    rw [decide_eq_true (by omega : (i : Int) < (all.length : Int)), cond_true, idx_nat hlt, bnd_some_eq, hm, impl_key _ (by omega), bnd_some_eq] at hbase
    by_cases hkf : keyW m.word ∈ fs.map kF
    · rw [(hN.some _).2 hkf, Bool.not_true, cond_false, decide_eq_false (by omega : ¬ (fs.length : Int) = 300), cond_false, w64_nat1 (show i < 4611686018427387904 by omega)] at hbase
      rw [goM_in hkf, run_next hbase]
      exact im_go s25 k hk all hall hal oth ms (i + 1) fs nums hd' (by omega) hl hN
    · have hns : (mget nums (keyW m.word)).isSome = false := by
        cases h : (mget nums (keyW m.word)).isSome
        · rfl
        · exact absurd ((hN.some _).1 h) hkf
      have hN' : NumK (fs ++ [toF m k]) (mput nums (keyW m.word) (fs.length : Int)) := hN.add (f := toF m k) hkf
      have e1 : app fs [(⟨m.rule, m.at_, m.word, s25.2.2.2⟩ : Gfound)] = some (fs ++ [toF m k]) := by rw [app_ok (by simp; omega), hk]; rfl
      rw [hns, Bool.not_false, cond_true, e1, bnd_some_eq, show ((fs ++ [toF m k]).length : Int) = ((fs.length + 1 : Nat) : Int) by simp] at hbase
      rw [goM_new hkf]
      by_cases h3 : fs.length + 1 = 300
      · rw [if_pos h3]
        rw [h3, decide_eq_true (by rfl), cond_true] at hbase
        exact ⟨_, hN', run_done hbase⟩
      · rw [if_neg h3]
        rw [decide_eq_false (by omega), cond_false, w64_nat1 (show i < 4611686018427387904 by omega)] at hbase
        rw [run_next hbase]
        exact im_go s25 k hk all hall hal oth ms (i + 1) (fs ++ [toF m k]) _ hd' (by omega) (by simp; omega) hN'
theorem im_search {rs : List GRewrite} (b : Int) (hr : rewsB rs = true) : ∀ (f k : Nat) (fs : List Gfound) (c : Bool) (nums : List (ByteArray × Int)), k + f = 301 → k ≤ fs.length → fs.length ≤ 299 → NumK fs nums → GoodF (fun w => wordB w = true) fs →
    ∃ nums', NumK (srch rs b f k fs c).1 nums' ∧ (((srch rs b f k fs c).2 = false ∧ run (imS1 K rs b) (fs, nums, c, (k : Int)) = some (.ret (K (srch rs b f k fs c).1 nums'))) ∨
    (∃ n, run (imS1 K rs b) (fs, nums, c, (k : Int)) = some (.brk ((srch rs b f k fs c).1, nums', (srch rs b f k fs c).2, n))))
  | 0, k, fs, c, L, hf, hk, hl, _, _ => by omega
  | f + 1, k, fs, c, nums, hf, hk, hl, hN, hG => by
    rw [srch]
    by_cases hlt : k < fs.length
    · rw [List.getElem?_eq_getElem hlt]
      simp only
      by_cases hkb : (k : Int) = b
      · rw [if_pos hkb]
        refine ⟨nums, hN, .inr ⟨(k : Int), run_done ?_⟩⟩
        simp only [imS1]
        rw [decide_eq_true (by omega : (k : Int) < (fs.length : Int)), cond_true, decide_eq_true hkb, cond_true]
      · rw [if_neg hkb]
        have hgw := hG _ (List.getElem_mem hlt)
        have hww := wordB_len hgw
        have hbase : imS1 K rs b (fs, nums, c, (k : Int)) = imS1 K rs b (fs, nums, c, (k : Int)) := rfl
        conv at hbase => rhs; unfold imS1
        simp only [] at hbase
        rw [decide_eq_true (by omega : (k : Int) < (fs.length : Int)), cond_true, decide_eq_false hkb, cond_false, idx_nat hlt, bnd_some_eq, impl_moves hr hww, bnd_some_eq] at hbase
        have hc : ((cond c (some (.brk (!tooL rs fs[k].move_word))) (some (.brk false))) : Option (Out (Bool) R0)) = some (.brk (c && !tooL rs fs[k].move_word)) := by cases c <;> rfl
        simp only [] at hbase
        rw [hc, bnd_some_eq] at hbase
        simp only [Out.elim] at hbase
        have hml := movesL_len hr hww
        obtain ⟨nums', hN', hgo⟩ := im_go K (fs, nums, c, (k : Int)) k rfl (movesL rs fs[k].move_word) (fun m hm => by have := wordB_len (mv_word hr hgw hm); omega) (by omega) (tooL rs fs[k].move_word) (movesL rs fs[k].move_word) 0 fs nums rfl (Nat.zero_le _) hl hN
        have hgl := goM_len k (movesL rs fs[k].move_word) fs hl
        have hgg := goM_good (P := fun w => wordB w = true) k (movesL rs fs[k].move_word) fs (fun m hm => mv_word hr hgw hm) hG
        rw [show ((0 : Nat) : Int) = 0 from rfl] at hgo
        rw [hgo] at hbase
        cases h1 : (goM k (movesL rs fs[k].move_word) fs).2 with
        | true =>
          have e : goM k (movesL rs fs[k].move_word) fs = ((goM k (movesL rs fs[k].move_word) fs).1, true) := by rw [← h1]
          rw [h1, if_pos rfl, bnd_some_eq] at hbase
          simp only [Out.elim] at hbase
          rw [e]
          exact ⟨nums', hN', .inl ⟨rfl, run_done hbase⟩⟩
        | false =>
          have e : goM k (movesL rs fs[k].move_word) fs = ((goM k (movesL rs fs[k].move_word) fs).1, false) := by rw [← h1]
          rw [h1, if_neg (by simp), bnd_some_eq] at hbase
          simp only [Out.elim] at hbase
          rw [w64_nat1 (show k < 4611686018427387904 by omega)] at hbase
          rw [run_next hbase, e]
          simp only
          exact im_search b hr f (k + 1) _ _ nums' (by omega) (by omega) (hgl.1 h1) hN' hgg
    · rw [List.getElem?_eq_none (by omega)]
      refine ⟨nums, hN, .inr ⟨(k : Int), run_done ?_⟩⟩
      simp only [imS1]
      rw [decide_eq_false (by omega : ¬ (k : Int) < (fs.length : Int)), cond_false]
end
end Go.Fn
