/-
  The law FnMeasured. No program in sight. No condition.
-/
import Derived.Test.YtcgaddlkebifdaaPMeaA
import Derived.Test.YtcgaddlkebifdaaPMeaB
import Derived.Test.YtcgaddlkebifdaaPR8
namespace Go.Fn
open Go Go.Tc
section
variable {m : GMachine} {s q : Nat}
def blankC : GConfig := ⟨0, [], []⟩
theorem blank_ok (h : machB m = true) : confB m blankC = true := by
  obtain ⟨s, q, hs, hq, b1, b2, b3, b4, _⟩ := machB_nat h
  unfold confB
  rw [show sideB m.Symbols blankC.Left = true from rfl, show sideB m.Symbols blankC.Right = true from rfl, Bool.and_true, Bool.and_true]
  exact inB_iff.2 (by show (0 : Int) ≤ 0 ∧ (0 : Int) ≤ m.States - 1; omega)
theorem blank_rm (M : MaI m s q) (h : confB m blankC = true) {n : Nat} (hn : n ≤ 60) : Rm s q n blankC 0 0 :=
  ⟨CfT.of M h, by show 0 + n ≤ 150; omega, by show 0 + 2 * n ≤ 150; omega, by omega, by omega, by omega⟩
def tr (m : GMachine) (n : Nat) : List Int := trk m n blankC 0
def lo0 (m : GMachine) (n : Nat) : Int := (tr m n).foldl mnL 0
def hi0 (m : GMachine) (n : Nat) : Int := (tr m n).foldl mxG 0
theorem good_nil : Good [] [] 0 0 := ⟨by omega, by omega, by simp, fun i h => by simp at h, fun i h => by simp at h, fun k => by simp⟩
theorem Good.rc_len {ps : List Int} {rc : List Grecord} {lo hi : Int} (G : Good ps rc lo hi) : rc.length ≤ ps.length := by
  by_cases he : rc.length = 0
  · omega
  · have key : ∀ i (h : i < rc.length), (i : Int) < rc[i].steps := by
      intro i
      induction i with
      | zero => intro h; have := (G.st 0 h).1; omega
      | succ i ih => intro h; have := ih (by omega); have := G.inc i h; omega
    have := key (rc.length - 1) (by omega)
    have := (G.st (rc.length - 1) (by omega)).2.1
    omega
theorem run_code (hm : machB m = true) {n : Nat} (h1 : 1 ≤ n) (h2 : n ≤ 20000) : F_impl_runCode m blankC (n : Int) = some 0 := by
  have hc := blank_ok hm
  unfold F_impl_runCode F_impl_budgetOk
  rw [impl_confV m blankC (machB_sml hm) (confB_sml hc), bnd_some_eq, hm, hc, impl_in, inB_iff.2 (by omega), bnd_some_eq]
  rfl
theorem mea_measure (hm : machB m = true) {n : Nat} (h1 : 1 ≤ n) (h2 : n ≤ 60) : ∃ sp ch tu mk hb, F_impl_MeasureRun m blankC (n : Int) = some (⟨(((tr m n).length - 1 : Nat) : Int), hb, sp, lo0 m n, hi0 m n, ch, tu, mk⟩, 0) := by
  obtain ⟨s, q, M⟩ := machB_mai hm
  have hc := blank_ok hm
  obtain ⟨sp, ch, tu, mk, hb, e⟩ := meas_run M (0, [], []) n 0 blankC 0 0 0 0 0 0 0 0 (blank_rm M hc h2)
  refine ⟨sp, ch, tu, mk, hb, ?_⟩
  rw [Nat.add_zero, Nat.zero_add] at e
  unfold F_impl_MeasureRun
  rw [run_code hm h1 (by omega), bnd_some_eq, decide_eq_false (fun h => h rfl : ¬ ((0 : Int) ≠ 0)), cond_false, impl_runnerOf hc, bnd_some_eq]
  have e' : run (F_impl_MeasureRun_L1 (n : Int) (m.Symbols, m.States, m.Rules, blankC.State, blankC.Left.reverse, blankC.Right.reverse)) (0, 0, 0, 0, 0, 0, 0, blankC.State, blankC.Left.reverse, blankC.Right.reverse, 0, 0) = _ := e
  simp only
  rw [e', bnd_some_eq]
  rfl
theorem mea_tracked (hm : machB m = true) {n : Nat} (h2 : n ≤ 60) : ∃ rc hb, F_impl_tracked m (n : Int) = some ((tr m n, rc, lo0 m n, hi0 m n), hb, 0) ∧ Good (tr m n) rc (lo0 m n) (hi0 m n) := by
  obtain ⟨s, q, M⟩ := machB_mai hm
  have hc := blank_ok hm
  obtain ⟨rc, hb, e, G⟩ := trk_run M (0, [], []) n 0 blankC 0 [] [] 0 0 (blank_rm M hc h2) rfl good_nil (by omega) (fun _ => by omega)
  refine ⟨rc, hb, ?_, G⟩
  rw [Nat.add_zero] at e
  unfold F_impl_tracked
  have hro : F_impl_runnerOf m (⟨0, ([] : List Int), ([] : List Int)⟩ : GConfig) = _ := impl_runnerOf hc
  rw [hro, bnd_some_eq]
  have e' : run (F_impl_tracked_L1 (n : Int) (m.Symbols, m.States, m.Rules, blankC.State, blankC.Left.reverse, blankC.Right.reverse)) ([], [], 0, 0, blankC.State, blankC.Left.reverse, blankC.Right.reverse, 0, 0) = _ := e
  show bnd (run (F_impl_tracked_L1 (n : Int) (m.Symbols, m.States, m.Rules, blankC.State, blankC.Left.reverse, blankC.Right.reverse)) ([], [], 0, 0, blankC.State, blankC.Left.reverse, blankC.Right.reverse, 0, 0)) _ = _
  rw [e', bnd_some_eq]
  rfl
theorem mea_budgeted (hm : machB m = true) {n : Nat} (h1 : 1 ≤ n) (h2 : n ≤ 20000) : F_impl_budgeted m (n : Int) = some 0 := by
  unfold F_impl_budgeted
  have : F_impl_runCode m (⟨0, ([] : List Int), ([] : List Int)⟩ : GConfig) (n : Int) = some 0 := run_code hm h1 h2
  rw [this]
  rfl
def recR (r : Grecord) : List Int := [r.steps, r.side, r.Config_State]
theorem recs_run (x : Bool × Int) (y : (List Int)) (z : Int × Int) (rc : List Grecord) (h : rc.length ≤ 100000) : run (F_impl_RecordsOf_L1 ((y, rc, z), x)) (([] : List (List Int)), 0) = some (.brk (rc.map recR, (rc.length : Int))) := by
  have := (run_rowf (body := F_impl_RecordsOf_L1 ((y, rc, z), x)) rc (by omega) (fun (a : List (List Int)) i => (a, i)) (fun a r => a ++ [recR r]) (fun i a => a.length = i) (fun i hi a hk => by
    refine ⟨?_, by rw [List.length_append, List.length_singleton, hk]⟩
    simp only [F_impl_RecordsOf_L1, Int.ofNat_lt, hi, decide_true, cond_true, idx_nat hi, bnd_some_eq]
    rw [app_ok (by simp; omega), bnd_some_eq, w64_nat1 (by omega)]
    rfl) [] rfl).1
  rw [this, foldl_snoc, run_done (x := .brk ([] ++ rc.map recR, (rc.length : Int))) (by simp [F_impl_RecordsOf_L1])]
  rfl
theorem mm_fold : ∀ (l : List Int) (a b : Int), l.foldl (fun (s : Int × Int) y => (mnL s.1 y, mxG s.2 y)) (a, b) = (l.foldl mnL a, l.foldl mxG b)
  | [], a, b => rfl
  | x :: l, a, b => by rw [List.foldl_cons, mm_fold l, List.foldl_cons, List.foldl_cons]
theorem ends_run (l : List Int) (c : Int) (h : l.length ≤ 100000) : run (F_laws_FnMeasured_L1 (l, c)) (0, 0, 0) = some (.brk (l.foldl mnL 0, l.foldl mxG 0, (l.length : Int))) := by
  have := (run_rowf (body := F_laws_FnMeasured_L1 (l, c)) l (by omega) (fun (a : Int × Int) i => (a.1, a.2, i)) (fun s y => (mnL s.1 y, mxG s.2 y)) (fun _ _ => True) (fun i hi a hk => by
    refine ⟨?_, trivial⟩
    simp only [F_laws_FnMeasured_L1, Int.ofNat_lt, hi, decide_true, cond_true, idx_nat hi, bnd_some_eq]
    rw [w64_nat1 (by omega)]
    rfl) (0, 0) trivial).1
  rw [this, mm_fold, run_done (x := .brk (l.foldl mnL 0, l.foldl mxG 0, (l.length : Int))) (by simp [F_laws_FnMeasured_L1])]
theorem run_up {A : Type} {body : Int → Option (Int ⊕ A)} : ∀ (n k : Nat), (∀ j : Nat, k ≤ j → j < k + n → body (j : Int) = some (.inl ((j + 1 : Nat) : Int))) → run body (k : Int) = run body ((k + n : Nat) : Int)
  | 0, k, _ => rfl
  | n + 1, k, h => by
    rw [run_next (h k (Nat.le_refl _) (by omega)), run_up n (k + 1) (fun j h1 h2 => h j (by omega) (by omega))]
    congr 1
    omega
theorem check_run {ps : List Int} {rc : List Grecord} {lo hi : Int} (G : Good ps rc lo hi) (hp : ps.length ≤ 100000) (c d : Int) : run (F_laws_FnMeasured_L2 (rc.map recR, c) (ps, d)) 0 = some (.brk (rc.length : Int)) := by
  have hrc := G.rc_len
  have hml : (rc.map recR).length = rc.length := List.length_map ..
  rw [show (0 : Int) = ((0 : Nat) : Int) from rfl, run_up rc.length 0 (fun i _ hi => by
    rw [Nat.zero_add] at hi
    obtain ⟨g1, g2, g3, g4⟩ := G.st i hi
    have hg : idx (rc.map recR) (i : Int) = some [rc[i].steps, rc[i].side, rc[i].Config_State] := by
      rw [idx_nat (by omega), List.getElem_map]
      rfl
    have i0 : ∀ a b c : Int, idx [a, b, c] 0 = some a := fun a b c => rfl
    have i1 : ∀ a b c : Int, idx [a, b, c] 1 = some b := fun a b c => rfl
    obtain ⟨k, hk⟩ : ∃ k : Nat, rc[i].steps = (k : Int) := ⟨rc[i].steps.toNat, by omega⟩
    have bd := G.bd k
    rw [hk, Int.toNat_natCast] at g3
    have hat : idx ps rc[i].steps = some (ps.getD k 0) := by
      rw [hk, idx_nat (by omega), List.getD_eq_getElem?_getD, List.getElem?_eq_getElem (by omega)]
      rfl
    have hmul : w64 (ps.getD k 0 * rc[i].side) = ps.getD k 0 * rc[i].side := by
      rcases g4 with g4 | g4 <;> rw [g4] <;> rw [w64_in (by omega) (by omega)]
    simp only [F_laws_FnMeasured_L2]
    rw [decide_eq_true (by omega), cond_true, hg]
    simp only [bnd_some_eq, i0, i1]
    rw [decide_eq_false (by simp), cond_false, decide_eq_false (by omega), cond_false, decide_eq_false (by omega), cond_false, bnd_some_eq]
    simp only [Out.elim]
    rw [hat, bnd_some_eq, hmul, decide_eq_false (by omega), cond_false]
    by_cases h0 : 0 < i
    · have hw : w64 ((i : Int) - 1) = ((i - 1 : Nat) : Int) := by rw [w64_in (by omega) (by omega)]; omega
      have hg2 : idx (rc.map recR) ((i - 1 : Nat) : Int) = some [rc[i - 1].steps, rc[i - 1].side, rc[i - 1].Config_State] := by
        rw [idx_nat (by omega), List.getElem_map]
        rfl
      have hinc := G.inc (i - 1) (by omega)
      have he : rc[i - 1 + 1]'(by omega) = rc[i] := by congr 1; omega
      rw [he] at hinc
      rw [decide_eq_true (by omega), cond_true, hw, hg2]
      simp only [bnd_some_eq, i0]
      rw [decide_eq_false (by omega), cond_false, w64_nat1 (by omega)]
    · rw [decide_eq_false (by omega), cond_false, w64_nat1 (by omega)]), Nat.zero_add]
  refine run_done ?_
  simp only [F_laws_FnMeasured_L2]
  rw [decide_eq_false (by omega), cond_false]
theorem law_Measured (c d : List (Ik .u8)) (w0 : Wf.wf c) (w1 : Wf.wf d) : F_laws_FnMeasured c d = some true := by
  unfold F_laws_FnMeasured
  rw [r8_long, bnd_some_eq]
  by_cases hl : 1048576 < c.length
  · rw [decide_eq_true hl, Bool.true_or, cond_true]
  rw [decide_eq_false hl, Bool.false_or]
  by_cases hl2 : 1048576 < d.length
  · rw [decide_eq_true hl2, cond_true]
  rw [decide_eq_false hl2, cond_false]
  obtain ⟨m, e1, hm⟩ := src_r8Runner (bytes_of w0 (by omega))
  obtain ⟨n, e2, n1, n2⟩ := src_r8Budget (bytes_of w1 (by omega)) (k := 50) (by omega)
  have n2' : n ≤ 50 := by omega
  obtain ⟨sp, ch, tu, mk, hb, e3⟩ := mea_measure hm n1 (by omega : n ≤ 60)
  obtain ⟨rc, hb2, e4, G⟩ := mea_tracked hm (by omega : n ≤ 60)
  obtain ⟨t1, t2⟩ := trk_len (m := m) n blankC 0
  have t1 : 1 ≤ (tr m n).length := t1
  have t2 : (tr m n).length ≤ n + 1 := t2
  have hrc := G.rc_len
  have g1 := G.l0
  have g2 := G.h0
  have g3 := G.ln
  have hbk : F_laws_r8Blank = some blankC := rfl
  have hcv : F_impl_CellsVisited m (n : Int) = some (hi0 m n - lo0 m n + 1, 0) := by
    unfold F_impl_CellsVisited
    rw [mea_budgeted hm n1 (by omega), bnd_some_eq, decide_eq_false (fun h => h rfl : ¬ ((0 : Int) ≠ 0)), cond_false, e4, bnd_some_eq]
    simp only
    rw [decide_eq_false (fun h => h rfl : ¬ ((0 : Int) ≠ 0)), cond_false, w64_in (n := hi0 m n - lo0 m n) (by omega) (by omega), w64_in (by omega) (by omega)]
  have hro : F_impl_RecordsOf m (n : Int) = some (rc.map recR, 0) := by
    unfold F_impl_RecordsOf
    rw [mea_budgeted hm n1 (by omega), bnd_some_eq, decide_eq_false (fun h => h rfl : ¬ ((0 : Int) ≠ 0)), cond_false, e4, bnd_some_eq]
    simp only
    rw [decide_eq_false (fun h => h rfl : ¬ ((0 : Int) ≠ 0)), cond_false, recs_run _ _ _ _ (by omega), bnd_some_eq]
    rfl
  have hht : F_impl_HeadTrack m (n : Int) = some (tr m n, 0) := by
    unfold F_impl_HeadTrack
    rw [impl_mach m (machB_sml hm), bnd_some_eq, hm]
    simp only [Bool.not_true, cond_false]
    rw [impl_in, inB_iff.2 (by omega), bnd_some_eq]
    simp only [Bool.not_true, cond_false]
    rw [e4, bnd_some_eq]
    simp only
    rw [decide_eq_false (fun h => h rfl : ¬ ((0 : Int) ≠ 0)), cond_false]
  rw [e1, bnd_some_eq, e2, bnd_some_eq, hbk, bnd_some_eq, e3, bnd_some_eq, bnd_some_eq]
  simp only [Out.elim]
  rw [hcv, bnd_some_eq, hro, bnd_some_eq, hht, bnd_some_eq]
  simp only
  rw [decide_eq_false (fun h => h rfl : ¬ ((0 : Int) ≠ 0)), cond_false, cond_false, cond_false, cond_false, decide_eq_false (by omega : ¬ (((tr m n).length : Int) = 0)), cond_false, bnd_some_eq]
  simp only [Out.elim]
  rw [ends_run _ _ (by omega), bnd_some_eq]
  simp only [Out.elim]
  have x1 : w64 (((tr m n).length : Int) - 1) = (((tr m n).length - 1 : Nat) : Int) := by rw [w64_in (by omega) (by omega)]; omega
  have x2 : w64 (w64 (hi0 m n - lo0 m n) + 1) = hi0 m n - lo0 m n + 1 := by rw [w64_in (n := hi0 m n - lo0 m n) (by omega) (by omega), w64_in (by omega) (by omega)]
  have x3 : w64 (hi0 m n - lo0 m n + 1 - 1) = hi0 m n - lo0 m n := by rw [w64_in (by omega) (by omega)]; omega
  have hlo : (tr m n).foldl mnL 0 = lo0 m n := rfl
  have hhi : (tr m n).foldl mxG 0 = hi0 m n := rfl
  rw [hlo, hhi]
  rw [x1, x2, x3, decide_eq_false (fun h => h rfl), cond_false, decide_eq_false (fun h => h rfl), cond_false, decide_eq_false (fun h => h rfl), cond_false, decide_eq_false (fun h => h rfl), cond_false, decide_eq_false (by rw [List.length_map]; omega), cond_false, bnd_some_eq]
  simp only [Out.elim]
  rw [check_run G (by omega), bnd_some_eq]
  rfl
end
end Go.Fn
