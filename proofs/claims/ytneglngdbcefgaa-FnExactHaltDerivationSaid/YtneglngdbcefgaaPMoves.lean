/-
  The successors of a word: all moves in order, and those that are new. No program in sight. No condition.
-/
import Derived.Test.YtneglngdbcefgaaPGm
import Derived.Test.YtneglngdbcefgaaPKeys
namespace Go.Fn
open Go Go.Tc
/-- The places at which a word occurs. -/
def posn (w f : List Int) : List Nat := (List.range (w.length + 1)).filter fun a => decide ((w.drop a).take f.length = f)
def newW (w : List Int) (r : GRewrite) (a : Nat) : List Int := putW w r.To a r.From.length
def tooB (w : List Int) (r : GRewrite) (a : Nat) : Bool := decide (400 < (newW w r a).length)
def mvK (w : List Int) (k : Nat) (r : GRewrite) : List Gmove := ((posn w r.From).filter fun a => !tooB w r a).map fun (a : Nat) => ⟨(k : Int), (a : Int), newW w r a⟩
def tooK (w : List Int) (r : GRewrite) : Bool := (posn w r.From).any (tooB w r)
def movesL (rs : List GRewrite) (w : List Int) : List Gmove := (List.range rs.length).flatMap fun k => mvK w k (rs.getD k zR)
def tooL (rs : List GRewrite) (w : List Int) : Bool := rs.any (tooK w)
theorem posn_len (w f : List Int) : (posn w f).length ≤ w.length + 1 := by
  unfold posn
  have := List.length_filter_le (fun a => decide ((w.drop a).take f.length = f)) (List.range (w.length + 1))
  rwa [List.length_range] at this
theorem posn_mem {w f : List Int} {a : Nat} (h : a ∈ posn w f) : a ≤ w.length ∧ a + f.length ≤ w.length := by
  unfold posn at h
  rw [List.mem_filter, List.mem_range, decide_eq_true_eq] at h
  exact ⟨by omega, take_eq_len h.2 (by omega)⟩
theorem mvK_len (w : List Int) (k : Nat) (r : GRewrite) : (mvK w k r).length ≤ w.length + 1 := by
  unfold mvK
  rw [List.length_map]
  exact Nat.le_trans (List.length_filter_le _ _) (posn_len _ _)
theorem any_range (rs : List GRewrite) (p : GRewrite → Bool) : ((List.range rs.length).any fun k => p (rs.getD k zR)) = rs.any p := by
  rw [Bool.eq_iff_iff, List.any_eq_true, List.any_eq_true]
  constructor
  · rintro ⟨k, hk, h⟩
    have hk := List.mem_range.1 hk
    rw [List.getD_eq_getElem?_getD, List.getElem?_eq_getElem hk] at h
    exact ⟨_, List.getElem_mem hk, h⟩
  · rintro ⟨r, hr, h⟩
    obtain ⟨k, hk, rfl⟩ := List.getElem_of_mem hr
    exact ⟨k, List.mem_range.2 hk, by rw [List.getD_eq_getElem?_getD, List.getElem?_eq_getElem hk]; exact h⟩
theorem rget {rs : List GRewrite} {k : Nat} (h : k < rs.length) : idx rs (k : Int) = some (rs.getD k zR) := by
  rw [idx_nat h, List.getD_eq_getElem?_getD, List.getElem?_eq_getElem h]
  rfl
def rowM (m : Gmove) : List Int := [m.rule, m.at_]
noncomputable def ddF (st : List Gmove × List ByteArray) (m : Gmove) : List Gmove × List ByteArray := @ite _ (keyW m.word ∈ st.2) (Classical.propDecidable _) st (st.1 ++ [m], addK st.2 (keyW m.word))
theorem ddF_in {st : List Gmove × List ByteArray} {m : Gmove} (h : keyW m.word ∈ st.2) : ddF st m = st := by unfold ddF; rw [if_pos h]
theorem ddF_new {st : List Gmove × List ByteArray} {m : Gmove} (h : ¬ keyW m.word ∈ st.2) : ddF st m = (st.1 ++ [m], addK st.2 (keyW m.word)) := by unfold ddF; rw [if_neg h]
theorem ddF_srt {st : List Gmove × List ByteArray} {m : Gmove} (h : SrtK st.2) : SrtK (ddF st m).2 := by
  by_cases hk : keyW m.word ∈ st.2
  · rw [ddF_in hk]; exact h
  · rw [ddF_new hk]; exact addK_srt h
theorem ddF_len {st : List Gmove × List ByteArray} {m : Gmove} : (ddF st m).1.length ≤ st.1.length + 1 ∧ (ddF st m).2.length ≤ st.2.length + 1 := by
  by_cases hk : keyW m.word ∈ st.2
  · rw [ddF_in hk]; omega
  · rw [ddF_new hk]; simp only [List.length_append, List.length_singleton]; have := addK_len st.2 (keyW m.word); omega
noncomputable def dd (rs : List GRewrite) (w : List Int) : List Gmove × List ByteArray := (movesL rs w).foldl ddF ([], [])
noncomputable def nxF (w : List Int) (k : Nat) (r : GRewrite) (σ : List Gmove × List ByteArray × Bool) (a : Nat) : List Gmove × List ByteArray × Bool :=
  if tooB w r a = true then (σ.1, σ.2.1, false) else ((ddF (σ.1, σ.2.1) ⟨(k : Int), (a : Int), newW w r a⟩).1, (ddF (σ.1, σ.2.1) ⟨(k : Int), (a : Int), newW w r a⟩).2, σ.2.2)
theorem nxF_fold (w : List Int) (k : Nat) (r : GRewrite) : ∀ (ps : List Nat) (σ : List Gmove × List ByteArray × Bool), ps.foldl (nxF w k r) σ = ((((ps.filter fun a => !tooB w r a).map (fun (a : Nat) => (⟨(k : Int), (a : Int), newW w r a⟩ : Gmove))).foldl ddF (σ.1, σ.2.1)).1, (((ps.filter fun a => !tooB w r a).map (fun (a : Nat) => (⟨(k : Int), (a : Int), newW w r a⟩ : Gmove))).foldl ddF (σ.1, σ.2.1)).2, σ.2.2 && !ps.any (tooB w r))
  | [], σ => by simp
  | a :: ps, σ => by
    rw [List.foldl_cons, nxF_fold w k r ps, nxF]
    by_cases h : tooB w r a = true
    · rw [if_pos h]
      simp [h]
    · rw [if_neg h]
      simp [h]
noncomputable def nxG (rs : List GRewrite) (w : List Int) (σ : List Gmove × List ByteArray × Bool) (k : Nat) : List Gmove × List ByteArray × Bool :=
  (((mvK w k (rs.getD k zR)).foldl ddF (σ.1, σ.2.1)).1, ((mvK w k (rs.getD k zR)).foldl ddF (σ.1, σ.2.1)).2, σ.2.2 && !tooK w (rs.getD k zR))
theorem nxG_fold (rs : List GRewrite) (w : List Int) : ∀ (ks : List Nat) (σ : List Gmove × List ByteArray × Bool), ks.foldl (nxG rs w) σ = (((ks.flatMap fun k => mvK w k (rs.getD k zR)).foldl ddF (σ.1, σ.2.1)).1, ((ks.flatMap fun k => mvK w k (rs.getD k zR)).foldl ddF (σ.1, σ.2.1)).2, σ.2.2 && !ks.any fun k => tooK w (rs.getD k zR))
  | [], σ => by simp
  | a :: ks, σ => by
    rw [List.foldl_cons, nxG_fold rs w ks, nxG]
    simp [List.foldl_append, Bool.and_assoc]
theorem ddF_folds : ∀ (ms : List Gmove) (st : List Gmove × List ByteArray), SrtK st.2 → SrtK (ms.foldl ddF st).2 ∧ (ms.foldl ddF st).1.length ≤ st.1.length + ms.length ∧ (ms.foldl ddF st).2.length ≤ st.2.length + ms.length
  | [], st, h => by simp [h]
  | m :: ms, st, h => by
    rw [List.foldl_cons]
    obtain ⟨a, b, c⟩ := ddF_folds ms (ddF st m) (ddF_srt h)
    have := @ddF_len st m
    rw [List.length_cons]
    exact ⟨a, by omega, by omega⟩
theorem spec_apply1 {rs : List GRewrite} {w : List Int} (hr : rewsB rs = true) (hw : w.length ≤ 400) {k a : Nat} (hk : k < rs.length) (ha : a ≤ w.length) :
    F_spec_l10Apply rs w (k : Int) (a : Int) = some (if (w.drop a).take (rs.getD k zR).From.length = (rs.getD k zR).From then (if tooB w (rs.getD k zR) a = true then ([], 5) else (newW w (rs.getD k zR) a, 0)) else ([], 3)) := by
  have hrg := rget_len hr k
  unfold F_spec_l10Apply
  rw [rget hk, bnd_some_eq, spec_at _ _ _ (by omega) ha (by omega), bnd_some_eq]
  by_cases hp : (w.drop a).take (rs.getD k zR).From.length = (rs.getD k zR).From
  · rw [decide_eq_true hp, if_pos hp]
    have hl := take_eq_len hp ha
    have hnl : (newW w (rs.getD k zR) a).length = w.length - (rs.getD k zR).From.length + (rs.getD k zR).To.length := putW_len hl
    have e : w64 ((w64 ((w.length : Int) - ((rs.getD k zR).From.length : Int))) + ((rs.getD k zR).To.length : Int)) = ((newW w (rs.getD k zR) a).length : Int) := by
      rw [w64_in (n := (w.length : Int) - ((rs.getD k zR).From.length : Int)) (by omega) (by omega), w64_in (by omega) (by omega), hnl]
      omega
    rw [e]
    simp only [Bool.not_true, cond_false]
    unfold tooB
    by_cases ht : 400 < (newW w (rs.getD k zR) a).length
    · rw [decide_eq_true (by omega : (400 : Int) < ((newW w (rs.getD k zR) a).length : Int)), decide_eq_true ht]; rfl
    · rw [decide_eq_false (by omega : ¬ (400 : Int) < ((newW w (rs.getD k zR) a).length : Int)), decide_eq_false ht, cond_false, spec_put _ _ _ _ (by omega) (by omega) hl, bnd_some_eq]
      rfl
  · rw [decide_eq_false hp, if_neg hp]
    rfl
/-- Adding a key, as the reference does it. -/
theorem spec_low {R : Type} {L : List ByteArray} {k : ByteArray} (hs : SrtK L) (hn : L.length ≤ 1000000) {body : Int × Int → Option ((Int × Int) ⊕ Out (Int × Int) R)}
    (hb : ∀ s, body s = (cond (decide (s.1 < s.2)) (bnd (idx L (w64 (Int.tdiv (w64 (s.1 + s.2)) 2))) fun y => (cond (Op.bytesLess y.toList k.toList) (some (.inl ((w64 ((w64 (Int.tdiv (w64 (s.1 + s.2)) 2)) + 1)), s.2))) (some (.inl (s.1, (w64 (Int.tdiv (w64 (s.1 + s.2)) 2))))))) (some (.inr (.brk (s.1, s.2)))))) :
    run body (0, (L.length : Int)) = some (.brk ((lowK L k : Int), (lowK L k : Int))) := by
  refine run_low (X := R) hs hn (fun lo hi h hlt => ?_) (fun lo => ?_)
  · have e : w64 (Int.tdiv (w64 ((lo : Int) + (hi : Int))) 2) = (((lo + hi) / 2 : Nat) : Int) := by
      by_cases hb : lo + hi ≤ 4000000
      · rw [w64_in (n := (lo : Int) + (hi : Int)) (by omega) (by omega), show (lo : Int) + (hi : Int) = ((lo + hi : Nat) : Int) by omega, show (2 : Int) = ((2 : Nat) : Int) from rfl, ← Int.ofNat_tdiv, w64_in (by omega) (by omega)]
      · omega
    rw [hb]
    simp only [e, Int.ofNat_lt, hlt, decide_true, cond_true]
    rw [idx_nat h, bnd_some_eq]
    have e2 : Op.bytesLess L[(lo + hi) / 2].toList k.toList = bl L[(lo + hi) / 2] k := rfl
    rw [e2, w64_nat1 (by omega)]
    cases bl L[(lo + hi) / 2] k <;> rfl
  · rw [hb]
    simp only [Int.lt_irrefl, decide_false, cond_false]
theorem spec_next {rs : List GRewrite} {w : List Int} (hr : rewsB rs = true) (hw : w.length ≤ 400) : F_spec_l10Next rs w = some ((dd rs w).1.map Gmove.word, (dd rs w).1.map rowM, !tooL rs w) := by
  have hlen := rewsB_len hr
  have inner : ∀ (k : Nat) (hk : k < rs.length) (σ : List Gmove × List ByteArray × Bool), SrtK σ.2.1 → σ.1.length ≤ 401 * k → σ.2.1.length ≤ 401 * k →
      run (F_spec_l10Next_L2 rs w (σ.1.map Gmove.word, σ.1.map rowM, σ.2.2, σ.2.1, (k : Int))) (σ.1.map Gmove.word, σ.1.map rowM, σ.2.2, σ.2.1, 0) = some (.brk ((nxG rs w σ k).1.map Gmove.word, (nxG rs w σ k).1.map rowM, (nxG rs w σ k).2.2, (nxG rs w σ k).2.1, ((w.length + 1 : Nat) : Int))) := by
    intro k hk σ hs0 h1 h2
    have hrg := rget_len hr k
    have := (run_rowf (body := F_spec_l10Next_L2 rs w (σ.1.map Gmove.word, σ.1.map rowM, σ.2.2, σ.2.1, (k : Int))) (List.range (w.length + 1)) (by simp; omega) (fun (s : List Gmove × List ByteArray × Bool) i => (s.1.map Gmove.word, s.1.map rowM, s.2.2, s.2.1, i))
      (fun s a => if decide ((w.drop a).take (rs.getD k zR).From.length = (rs.getD k zR).From) = true then nxF w k (rs.getD k zR) s a else s) (fun i s => SrtK s.2.1 ∧ s.1.length ≤ σ.1.length + i ∧ s.2.1.length ≤ σ.2.1.length + i) (by
      intro a ha s ⟨hs, hl1, hl2⟩
      have ha' : a ≤ w.length := by simp at ha; omega
      rw [List.getElem_range]
      have hbase : F_spec_l10Next_L2 rs w (σ.1.map Gmove.word, σ.1.map rowM, σ.2.2, σ.2.1, (k : Int)) (s.1.map Gmove.word, s.1.map rowM, s.2.2, s.2.1, (a : Int)) = F_spec_l10Next_L2 rs w (σ.1.map Gmove.word, σ.1.map rowM, σ.2.2, σ.2.1, (k : Int)) (s.1.map Gmove.word, s.1.map rowM, s.2.2, s.2.1, (a : Int)) := rfl
      simp only [F_spec_l10Next_L2, Int.ofNat_le, ha', decide_true, cond_true] at hbase ⊢
      rw [spec_apply1 hr hw hk ha', bnd_some_eq]
      by_cases hp : (w.drop a).take (rs.getD k zR).From.length = (rs.getD k zR).From
      · rw [if_pos hp, decide_eq_true hp, if_pos rfl]
        have hnl : (newW w (rs.getD k zR) a).length ≤ 1000 := by
          unfold newW
          rw [putW_len (take_eq_len hp ha')]
          omega
        unfold nxF
        by_cases ht : tooB w (rs.getD k zR) a = true
        · rw [if_pos ht, if_pos ht]
          exact ⟨rfl, hs, by simp only; omega, by simp only; omega⟩
        · rw [if_neg ht, if_neg ht]
          have k5 : decide ((0 : Int) = 5) = false := rfl
          have k0 : decide ((0 : Int) ≠ 0) = false := rfl
          simp only [k5, k0, cond_false, bnd_some_eq, Out.elim]
          rw [spec_key _ (by omega), bnd_some_eq, spec_low (body := F_spec_l10Next_L3 (s.1.map Gmove.word, s.1.map rowM, s.2.2, s.2.1, (a : Int)) (keyW (newW w (rs.getD k zR) a))) (k := keyW (newW w (rs.getD k zR) a)) hs (by omega) (fun _ => rfl), bnd_some_eq]
          simp only [Out.elim]
          by_cases hk2 : keyW (newW w (rs.getD k zR) a) ∈ s.2.1
          · obtain ⟨hlt, he⟩ := (low_mem hs).1 hk2
            rw [ddF_in hk2, decide_eq_true (by omega : ((lowK s.2.1 (keyW (newW w (rs.getD k zR) a)) : Nat) : Int) < (s.2.1.length : Int)), cond_true, idx_nat hlt, bnd_some_eq, he, toList_beq, decide_eq_true rfl]
            exact ⟨rfl, hs, by simp only; omega, by simp only; omega⟩
          · have hll := lowK_le s.2.1 (keyW (newW w (rs.getD k zR) a))
            have hz : app s.2.1 [(⟨#[]⟩ : ByteArray)] = some (s.2.1 ++ [(⟨#[]⟩ : ByteArray)]) := app_ok (by simp; omega)
            have hzl : (s.2.1 ++ [(⟨#[]⟩ : ByteArray)]).length = s.2.1.length + 1 := by simp
            have hcond : ((cond (decide (((lowK s.2.1 (keyW (newW w (rs.getD k zR) a)) : Nat) : Int) < (s.2.1.length : Int))) (bnd (idx s.2.1 ((lowK s.2.1 (keyW (newW w (rs.getD k zR) a)) : Nat) : Int)) fun y32 => (cond (y32.toList == (keyW (newW w (rs.getD k zR) a)).toList) (some (.ret (some (.inl (s.1.map Gmove.word, s.1.map rowM, s.2.2, s.2.1, (w64 ((a : Int) + 1))))))) (some (.brk ())))) (some (.brk ()))) : Option (Out (Unit) (Option (((List (List Int)) × (List (List Int)) × Bool × (List ByteArray) × Int) ⊕ Out ((List (List Int)) × (List (List Int)) × Bool × (List ByteArray) × Int) ((List (List Int)) × (List (List Int)) × Bool))))) = some (.brk ()) := by
              by_cases hlt : lowK s.2.1 (keyW (newW w (rs.getD k zR) a)) < s.2.1.length
              · rw [decide_eq_true (by omega), cond_true, idx_nat hlt, bnd_some_eq, toList_beq, decide_eq_false (fun e => hk2 ((low_mem hs).2 ⟨hlt, e⟩)), cond_false]
              · rw [decide_eq_false (by omega), cond_false]
            rw [hcond, bnd_some_eq]
            rw [ddF_new hk2, hz, bnd_some_eq, w64_nat1 (by omega), show ((s.2.1 ++ [(⟨#[]⟩ : ByteArray)]).length : Int) = (((s.2.1 ++ [(⟨#[]⟩ : ByteArray)]).length : Nat) : Int) from rfl, slc_from (by omega), bnd_some_eq, slc_from (by omega), bnd_some_eq]
            have hins := ins_eq s.2.1 (⟨#[]⟩ : ByteArray) (keyW (newW w (rs.getD k zR) a)) hll
            have hcl : (cpyAt (s.2.1 ++ [(⟨#[]⟩ : ByteArray)]) ((lowK s.2.1 (keyW (newW w (rs.getD k zR) a)) + 1 : Nat) : Int) (((s.2.1 ++ [(⟨#[]⟩ : ByteArray)]).length : Nat) : Int) ((s.2.1 ++ [(⟨#[]⟩ : ByteArray)]).drop (lowK s.2.1 (keyW (newW w (rs.getD k zR) a))))).length = s.2.1.length + 1 := by
              have := congrArg List.length hins
              rw [List.length_set] at this
              rw [this]
              simp
              omega
            rw [idx_nat (by omega), bnd_some_eq, app_ok (by simp; omega), bnd_some_eq, app_ok (by simp; omega), bnd_some_eq, Int.toNat_natCast, hins]
            have hadd : addK s.2.1 (keyW (newW w (rs.getD k zR) a)) = s.2.1.take (lowK s.2.1 (keyW (newW w (rs.getD k zR) a))) ++ [keyW (newW w (rs.getD k zR) a)] ++ s.2.1.drop (lowK s.2.1 (keyW (newW w (rs.getD k zR) a))) := by
              unfold addK
              rw [if_neg hk2]
            have hal := addK_len s.2.1 (keyW (newW w (rs.getD k zR) a))
            refine ⟨?_, addK_srt hs, by simp; omega, by simp only; omega⟩
            simp only [hadd, List.map_append, List.map_cons, List.map_nil]
            rfl
      · rw [if_neg hp, decide_eq_false hp]
        simp only [Bool.false_eq_true, if_false]
        exact ⟨rfl, hs, by omega, by omega⟩) σ ⟨hs0, by omega, by omega⟩).1
    rw [this, ← List.foldl_filter, nxF_fold]
    rw [run_done (x := .brk ((nxG rs w σ k).1.map Gmove.word, (nxG rs w σ k).1.map rowM, (nxG rs w σ k).2.2, (nxG rs w σ k).2.1, ((w.length + 1 : Nat) : Int)))]
    rw [List.length_range]
    simp only [F_spec_l10Next_L2]
    rw [decide_eq_false (by omega), cond_false]
    rfl
  unfold F_spec_l10Next
  have := (run_rowf (body := F_spec_l10Next_L1 rs w) (List.range rs.length) (by simp; omega) (fun (s : List Gmove × List ByteArray × Bool) i => (s.1.map Gmove.word, s.1.map rowM, s.2.2, s.2.1, i)) (nxG rs w) (fun i s => SrtK s.2.1 ∧ s.1.length ≤ 401 * i ∧ s.2.1.length ≤ 401 * i) (by
    intro k hk s ⟨hs, h1, h2⟩
    have hk' : k < rs.length := by simpa using hk
    have hml := mvK_len w k (rs.getD k zR)
    rw [List.getElem_range]
    obtain ⟨a, b, c⟩ := ddF_folds (mvK w k (rs.getD k zR)) (s.1, s.2.1) hs
    refine ⟨?_, a, by unfold nxG; simp only at b ⊢; omega, by unfold nxG; simp only at c ⊢; omega⟩
    simp only [F_spec_l10Next_L1, Int.ofNat_lt, hk', decide_true, cond_true]
    rw [inner k hk' s hs h1 h2]
    rfl) ([], [], true) ⟨List.Pairwise.nil, by simp, by simp⟩).1
  have e0 : (([] : List (List Int)), ([] : List (List Int)), true, ([] : List ByteArray), (0 : Int)) = ((([], [], true) : List Gmove × List ByteArray × Bool).1.map Gmove.word, (([], [], true) : List Gmove × List ByteArray × Bool).1.map rowM, (([], [], true) : List Gmove × List ByteArray × Bool).2.2, (([], [], true) : List Gmove × List ByteArray × Bool).2.1, (0 : Int)) := rfl
  rw [e0, this, nxG_fold, List.length_range, run_done (x := .brk ((dd rs w).1.map Gmove.word, (dd rs w).1.map rowM, !tooL rs w, (dd rs w).2, (rs.length : Int)))]
  · rfl
  · simp only [F_spec_l10Next_L1, Int.lt_irrefl, decide_false, cond_false, Bool.true_and]
    rw [any_range rs (tooK w)]
    rfl
end Go.Fn
