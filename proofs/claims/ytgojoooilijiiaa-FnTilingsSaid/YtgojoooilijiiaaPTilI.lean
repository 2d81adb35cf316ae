/-
  What the program answers about the tilings of a machine's row. No program in sight. No condition.
-/
import Derived.Test.YtgojoooilijiiaaPTilC
import Derived.Test.YtgojoooilijiiaaPTopOf
namespace Go.Fn
open Go Go.Tc
/-- A small machine, a configuration of it that fits, and a place. -/
structure Row0 (m : GMachine) (s q W A : Nat) (c : GConfig) : Prop where
  hm : machB m = true
  hc : confB m c = true
  M : MaI m s q
  s2 : s = 2
  q3 : q ≤ 3
  W1 : 1 ≤ W
  W9 : W ≤ 9
  hA : A < W
  fl : c.Left.length ≤ A
  fr : c.Right.length ≤ W - A
theorem Row0.fit {m : GMachine} {s q W A : Nat} {c : GConfig} (R : Row0 m s q W A c) : FitC s q W A c := ⟨CfT.of R.M R.hc, R.hA, R.fl, R.fr⟩
theorem Row0.tl {m : GMachine} {s q W A : Nat} {c : GConfig} (R : Row0 m s q W A c) : 1 ≤ (tilesM m s q).length ∧ (tilesM m s q).length ≤ 20 := by
  have h := tilesM_len m s q
  have h2 := R.s2
  have h3 := R.q3
  have h4 := R.M.b3
  subst h2
  omega
theorem Row0.bl {m : GMachine} {s q W A : Nat} {c : GConfig} (_ : Row0 m s q W A c) : (botR m c W A).length = W := by unfold botR; rw [List.length_set, rowC_len]
theorem head_le {m : GMachine} {s q : Nat} (M : MaI m s q) (s2 : s = 2) (q3 : q ≤ 3) {p a : Nat} (hp : p < q) (ha : a < s) : 0 ≤ headC m p a ∧ headC m p a ≤ 9 := by
  rw [headC_eq M.hs M.b2 M.b4 hp ha]
  subst s2
  omega
theorem Row0.valid {m : GMachine} {s q W A : Nat} {c : GConfig} (R : Row0 m s q W A c) : validT (tilesM m s q) = true := by
  have hl := R.tl
  have M := R.M
  unfold validT
  rw [decide_eq_true (by omega), decide_eq_true (by omega), decide_eq_true (tiles_nodup M.hs M.b1 M.b2 M.b4), Bool.true_and, Bool.true_and, Bool.and_true, List.all_eq_true]
  intro t ht
  have s2 := R.s2
  have q3 := R.q3
  have col : ∀ {l b r o : Int}, (0 ≤ l ∧ l ≤ 9999) → (0 ≤ b ∧ b ≤ 9999) → (0 ≤ r ∧ r ≤ 9999) → (0 ≤ o ∧ o ≤ 9999) → colB ⟨l, b, r, o⟩ = true := by
    intro l b r o h1 h2 h3 h4
    unfold colB
    rw [inB_iff.2 h1, inB_iff.2 h2, inB_iff.2 h3, inB_iff.2 h4]
    rfl
  rcases mem_tiles M ht with ⟨a, ha, rfl⟩ | ⟨p, a, hp, ha, hn, rfl⟩ | ⟨p, a, hp, ha, h⟩
  · exact col (by omega) (by omega) (by omega) (by omega)
  · have hh := head_le M s2 q3 hp ha
    have hlt : p * s + a < m.Rules.length := by rw [M.hl]; exact at_lt hp ha
    have hmem : m.Rules.getD (p * s + a) noR ∈ m.Rules := by
      rw [List.getD_eq_getElem?_getD, List.getElem?_eq_getElem hlt]
      exact List.getElem_mem hlt
    obtain ⟨w1, _, w3⟩ := rule_in M hmem hn
    split
    · exact col (by omega) (by omega) (by omega) (by omega)
    · exact col (by omega) (by omega) (by omega) (by omega)
  · have hh := head_le M s2 q3 hp ha
    rcases h with rfl | rfl
    · exact col (by omega) (by omega) (by omega) (by omega)
    · exact col (by omega) (by omega) (by omega) (by omega)
theorem Row0.frame {m : GMachine} {s q W A : Nat} {c : GConfig} (R : Row0 m s q W A c) : frameB (botR m c W A) = true := by
  have hb := R.bl
  have h1 := R.W1
  have h9 := R.W9
  have hA := R.hA
  have M := R.M
  have s2 := R.s2
  unfold frameB
  rw [decide_eq_true (by omega), decide_eq_true (by omega), Bool.true_and, Bool.true_and, List.all_eq_true]
  intro x hx
  obtain ⟨j, hj, rfl⟩ := List.mem_iff_getElem.1 hx
  rw [get_getD hj, botR_getD m c hA (by omega)]
  refine inB_iff.2 ?_
  obtain ⟨p, a, hp, ha, hpq, has, _, _⟩ := at_eq M R.fit.cf.cf
  by_cases h : j = A
  · rw [if_pos h]
    have hga : (rowC c W A).getD A 0 = a := by rw [rowC_getD c hA, if_neg (by omega), Nat.sub_self, ha]
    rw [hga, hp]
    have := head_le M s2 R.q3 hpq has
    omega
  · rw [if_neg h]
    have := R.fit.cf.cf.row (W := W) (A := A) (i := j) (by omega)
    omega
theorem Row0.sml {m : GMachine} {s q W A : Nat} {c : GConfig} (R : Row0 m s q W A c) : Sml m := machB_sml R.hm
theorem impl_tilesOf {m : GMachine} {s q W A : Nat} {c : GConfig} (R : Row0 m s q W A c) : F_impl_TilesOfMachine m = some (tilesM m s q, 0) := by
  have M := R.M
  have hl := R.tl
  unfold F_impl_TilesOfMachine
  rw [impl_mach m R.sml, bnd_some_eq, R.hm, impl_tiles m M.hs M.hq M.b1 M.b2 M.b3 M.b4 M.hl M.b5, bnd_some_eq, decide_eq_false (by omega)]
  rfl
theorem impl_rowOf {m : GMachine} {s q W A : Nat} {c : GConfig} (R : Row0 m s q W A c) : F_impl_RowOfConfig m c (W : Int) (A : Int) = some (botR m c W A, 0) := by
  have h1 := R.W1
  have h9 := R.W9
  have hA := R.hA
  unfold F_impl_RowOfConfig
  rw [impl_confV m c R.sml (confB_sml R.hc), bnd_some_eq, R.hm, R.hc]
  unfold F_impl_rowCode
  rw [impl_in, show inB (W : Int) 1 30 = true from inB_iff.2 (by omega)]
  simp only [Bool.and_self, cond_true, bnd_some_eq, Bool.not_true, cond_false]
  rw [w64_in (by omega) (by omega), impl_in, show inB (A : Int) 0 ((W : Int) - 1) = true from inB_iff.2 (by omega), impl_cellsRow c hA (by omega), decide_eq_true R.fl, decide_eq_true R.fr]
  have hl : A < (rowC c W A).length := by rw [rowC_len]; exact hA
  simp only [Bool.and_self, cond_true, Bool.not_true, cond_false, bnd_some_eq]
  rw [idx_nat hl, get_getD hl]
  unfold F_impl_headColor
  simp only [bnd_some_eq]
  rfl
theorem impl_tilingRun {m : GMachine} {s q W A : Nat} {c : GConfig} (R : Row0 m s q W A c) {T : Nat} (t1 : 1 ≤ T) (t2 : T ≤ 40) : F_impl_TilingOfRun m c (W : Int) (A : Int) (T : Int) = some (goT m (tilesM m s q) W T A c []) := by
  have h1 := R.W1
  have h9 := R.W9
  have hA := R.hA
  have M := R.M
  have hl := R.tl
  have kn : decide ((0 : Int) ≠ 0) = false := rfl
  unfold F_impl_TilingOfRun
  rw [impl_confV m c R.sml (confB_sml R.hc), bnd_some_eq, R.hm, R.hc]
  unfold F_impl_rowCode
  rw [impl_in, show inB (W : Int) 1 30 = true from inB_iff.2 (by omega)]
  simp only [Bool.and_self, cond_true, bnd_some_eq, Bool.not_true, cond_false]
  rw [w64_in (by omega) (by omega), impl_in, show inB (A : Int) 0 ((W : Int) - 1) = true from inB_iff.2 (by omega)]
  simp only [Bool.and_self, cond_true, bnd_some_eq, Bool.not_true, cond_false, kn]
  rw [impl_in, show inB (T : Int) 1 40 = true from inB_iff.2 (by omega)]
  simp only [Bool.and_self, cond_true, bnd_some_eq, Bool.not_true, cond_false, kn]
  rw [impl_tiles m M.hs M.hq M.b1 M.b2 M.b3 M.b4 M.hl M.b5]
  simp only [bnd_some_eq]
  rw [decide_eq_false (by omega : ¬ 300 < (tilesM m s q).length)]
  simp only [cond_false, bnd_some_eq, Bool.not_true, kn]
  rw [impl_cellsRow c hA (by omega), decide_eq_true R.fl, decide_eq_true R.fr]
  simp only [Bool.and_self, Bool.not_true, cond_false, cond_true, bnd_some_eq, kn]
  obtain ⟨pl, hpl, hpl2⟩ := places_run (tilesM m s q) (by omega) (tiles_nodup M.hs M.b1 M.b2 M.b4) 0
  rw [hpl, bnd_some_eq]
  simp only [Out.elim]
  have := impl_runT M hpl2 (W := W) (by omega) ((tilesM m s q).length : Int) T (by omega) T A 200 c [] R.fit.cf.cf (by omega) hA (by simp; omega) (Nat.le_refl _)
  rw [Nat.sub_self] at this
  exact this
theorem impl_countT {ts : List GTile} {bs : List Int} {k B : Nat} (hv : validT ts = true) (hf : frameB bs = true) (k1 : 1 ≤ k ∧ k ≤ 40) (hB : 1 ≤ B ∧ B ≤ 20000) (hcost : costT ts bs (bs.length * k) [] ≤ B) (hsol : (solsT ts bs (bs.length * k) []).length ≤ 1000) :
    F_impl_CountTilings ts bs (k : Int) (B : Int) = some (((solsT ts bs (bs.length * k) []).length : Int), 0) := by
  have hts : ts.length ≤ 300 := by
    unfold validT at hv
    simp only [Bool.and_eq_true, decide_eq_true_eq] at hv
    exact hv.1.1.2
  have hbs : 0 < bs.length ∧ bs.length ≤ 30 := by
    unfold frameB at hf
    simp only [Bool.and_eq_true, decide_eq_true_eq] at hf
    exact hf.1
  unfold F_impl_CountTilings F_impl_budgetOk F_impl_size_int64
  rw [impl_valid ts (by omega), impl_frame bs (by omega), impl_in, impl_in, hv, hf, show inB (k : Int) 1 40 = true from inB_iff.2 (by omega), show inB (B : Int) 1 20000 = true from inB_iff.2 (by omega)]
  simp only [if_true, Bool.and_self, Bool.not_true, cond_false, bnd_some_eq]
  have hN : bs.length * k ≤ 1200 := Nat.le_trans (Nat.mul_le_mul hbs.2 k1.2) (by omega)
  have ew : w64 ((bs.length : Int) * (k : Int)) = ((bs.length * k : Nat) : Int) := by
    rw [← Int.natCast_mul]
    exact w64_in (by omega) (by omega)
  rw [ew]
  have hm : mke ((bs.length * k : Nat) : Int) (0 : Int) = some (List.replicate (bs.length * k) 0) := by
    unfold mke
    rw [if_pos (by constructor <;> omega), Int.toNat_natCast]
  obtain ⟨q, hq, g1, g2, _, _, _, g6⟩ := impl_cnt (N := bs.length * k) (B := B) hts hbs.1 hbs.2 (by omega) hN (bs.length * k) [] (List.replicate (bs.length * k) 0) 0 0 (by simp) (fun x hx => by simp at hx) (by omega) (by simp) (by simp)
  have e2 : F_impl_tiler_fill_impl_CountTilings_1 ⟨ts, bs, List.replicate (bs.length * k) 0, (B : Int)⟩ 0 0 = some q := by
    have hq' := hq
    rw [show (B : Int) - ((0 : Nat) : Int) = B by omega] at hq'
    exact (fixR_iff mono_I).2 ⟨bs.length * k + 1, hq'⟩
  rw [hm]
  simp only [bnd_some_eq]
  rw [e2]
  simp only [bnd_some_eq]
  have hall := srchT_all (ts := ts) (bs := bs) (B := B) (bs.length * k) [] 0 0 (by omega) (by omega) (by omega)
  rw [g2, g6, hall]
  simp only [Bool.not_false, Bool.not_true, cond_false, Int.zero_add]
/-- Rows come back when they are laid end to end and cut again. -/
theorem cut_flat {W : Nat} {rows : List (List Int)} (h : ∀ r ∈ rows, r.length = W) : cutR W rows.flatten rows.length = rows := by
  have hfl : ∀ rs : List (List Int), (∀ r ∈ rs, r.length = W) → rs.flatten.length = rs.length * W := by
    intro rs
    induction rs with
    | nil => intro _; simp
    | cons x xs ih =>
      intro h
      rw [List.flatten_cons, List.length_append, ih (fun r hr => h r (List.mem_cons_of_mem _ hr)), h x (List.mem_cons_self ..), List.length_cons, Nat.succ_mul]
      omega
  apply List.ext_getElem
  · rw [cutR_len]
  · intro i h1 h2
    have e0 : (cutR W rows.flatten rows.length)[i] = (rows.flatten.take ((i + 1) * W)).drop (i * W) := by simp [cutR]
    rw [e0]
    have hs : rows.flatten = (rows.take i).flatten ++ (rows[i] ++ (rows.drop (i + 1)).flatten) := by
      rw [← List.flatten_cons, ← List.drop_eq_getElem_cons h2, ← List.flatten_append, List.take_append_drop]
    have hi : (rows.take i).flatten.length = i * W := by
      rw [hfl _ (fun r hr => h r (List.mem_of_mem_take hr)), List.length_take, Nat.min_eq_left (by omega)]
    have hr : rows[i].length = W := h _ (List.getElem_mem h2)
    rw [hs, List.take_append, List.drop_append, List.take_of_length_le (by rw [hi, Nat.succ_mul]; omega), List.drop_of_length_le (by omega), List.nil_append, hi, Nat.sub_self, List.drop_zero, Nat.succ_mul, Nat.add_sub_cancel_left, List.take_left' hr]
theorem impl_solveT {ts : List GTile} {bs : List Int} {k B : Nat} (hv : validT ts = true) (hf : frameB bs = true) (k1 : 1 ≤ k ∧ k ≤ 40) (hB : 1 ≤ B ∧ B ≤ 20000) (hcost : costT ts bs (bs.length * k) [] ≤ B) :
    (solsT ts bs (bs.length * k) [] = [] → F_impl_SolveTiling ts bs (k : Int) (B : Int) = some ([], 3)) ∧
      ∀ P l, solsT ts bs (bs.length * k) [] = P :: l → P.length = bs.length * k → F_impl_SolveTiling ts bs (k : Int) (B : Int) = some (cutR bs.length P k, 0) := by
  have hts : ts.length ≤ 300 := by
    unfold validT at hv
    simp only [Bool.and_eq_true, decide_eq_true_eq] at hv
    exact hv.1.1.2
  have hbs : 0 < bs.length ∧ bs.length ≤ 30 := by
    unfold frameB at hf
    simp only [Bool.and_eq_true, decide_eq_true_eq] at hf
    exact hf.1
  unfold F_impl_SolveTiling F_impl_budgetOk F_impl_size_int64
  rw [impl_valid ts (by omega), impl_frame bs (by omega), impl_in, impl_in, hv, hf, show inB (k : Int) 1 40 = true from inB_iff.2 (by omega), show inB (B : Int) 1 20000 = true from inB_iff.2 (by omega)]
  simp only [if_true, Bool.and_self, Bool.not_true, cond_false, bnd_some_eq]
  have hN : bs.length * k ≤ 1200 := Nat.le_trans (Nat.mul_le_mul hbs.2 k1.2) (by omega)
  have ew : w64 ((bs.length : Int) * (k : Int)) = ((bs.length * k : Nat) : Int) := by
    rw [← Int.natCast_mul]
    exact w64_in (by omega) (by omega)
  rw [ew]
  have hm : mke ((bs.length * k : Nat) : Int) (0 : Int) = some (List.replicate (bs.length * k) 0) := by
    unfold mke
    rw [if_pos (by constructor <;> omega), Int.toNat_natCast]
  obtain ⟨q, hq, g1, g2, g3, _, _, g6, g7⟩ := impl_sol (N := bs.length * k) (B := B) hts hbs.1 hbs.2 (by omega) hN (bs.length * k) [] (List.replicate (bs.length * k) 0) 0 (by simp) (fun x hx => by simp at hx) (by omega) (by simp) (by simp)
  have e2 : F_impl_tiler_fill_impl_SolveTiling_1 ⟨ts, bs, List.replicate (bs.length * k) 0, (B : Int)⟩ 0 false = some q := by
    have hq' := hq
    rw [show (B : Int) - ((0 : Nat) : Int) = B by omega] at hq'
    exact (fixR_iff mono_V).2 ⟨bs.length * k + 1, hq'⟩
  rw [hm]
  simp only [bnd_some_eq]
  rw [e2]
  simp only [bnd_some_eq]
  have hall := srch2_all (ts := ts) (bs := bs) (B := B) (bs.length * k) [] 0 (by omega)
  rw [g2, g6]
  constructor
  · intro hs
    rw [hs] at hall
    simp only at hall
    rw [hall]
    rfl
  · intro P l hs hP
    rw [hs] at hall
    obtain ⟨s', e, _⟩ := hall
    rw [e] at g7 ⊢
    have p2 := impl_cut (P := P) (h := k) hbs.1 hbs.2 (by omega) hP q (g7 rfl) k 0 (by omega)
    rw [Nat.zero_mul] at p2
    rw [show cutR bs.length P 0 = [] from rfl, show ((0 : Nat) : Int) = 0 from rfl] at p2
    simp only
    rw [p2, decide_eq_false (by omega : ¬ ((bs.length : Int) < 1))]
    rfl
theorem impl_confRow {m : GMachine} {s q : Nat} (hm : machB m = true) (M : MaI m s q) {row : List Int} (h : 1 ≤ row.length ∧ row.length ≤ 30) : F_impl_ConfigOfRow m row = some (confP m row) := by
  unfold F_impl_ConfigOfRow F_impl_size_int64
  rw [impl_mach m (machB_sml hm), bnd_some_eq, hm]
  simp only [Bool.not_true, cond_false, bnd_some_eq, impl_in]
  rw [inB_iff.2 ⟨by omega, by omega⟩, impl_config m row M.hs M.hq M.b1 M.b2 M.b4 M.b5 h.2]
  rfl
theorem topsOk_get {m : GMachine} {s q W : Nat} : ∀ {tl : List (List Int)} {l : List GConfig}, topsOk m s q W tl l → tl.length = l.length ∧ ∀ i (h1 : i < tl.length) (h2 : i < l.length), ∃ B, tl[i] = botR m l[i] W B ∧ FitC s q W B l[i]
  | [], [], _ => ⟨rfl, fun i h => absurd h (by simp)⟩
  | t :: ts, x :: xs, h => by
    obtain ⟨h1, h2⟩ := h
    obtain ⟨e, k⟩ := topsOk_get h2
    refine ⟨by rw [List.length_cons, List.length_cons, e], fun i => ?_⟩
    cases i with
    | zero => intro _ _; exact h1
    | succ i => intro g1 g2; exact k i (by simpa using g1) (by simpa using g2)
  | [], _ :: _, h => by cases h
  | _ :: _, [], h => by cases h
theorem impl_runTl {m : GMachine} {s q W A : Nat} {c : GConfig} (R : Row0 m s q W A c) {rows : List (List Int)} (h1 : 1 ≤ rows.length ∧ rows.length ≤ 40) (hs : Sml rows) {tl : List (List Int)} {l : List GConfig} (ht : topsM (tilesM m s q) (botR m c W A) rows = some tl) (hk : topsOk m s q W tl l) :
    F_impl_RunOfTiling m (botR m c W A) rows = some (c :: l, 0) := by
  have M := R.M
  have hl := R.tl
  have hb := R.bl
  have w1 := R.W1
  have w9 := R.W9
  obtain ⟨hlen, hget⟩ := topsOk_get hk
  have htl := topsM_length ht
  have hf : fewB rows = true := by
    unfold fewB
    rw [decide_eq_true (by omega), decide_eq_true (by omega)]
    rfl
  have hcd : decide ((0 : Int) ≠ 0) = false := rfl
  unfold F_impl_RunOfTiling
  rw [impl_mach m R.sml, bnd_some_eq, R.hm]
  simp only [Bool.not_true, cond_false]
  rw [impl_tiles m M.hs M.hq M.b1 M.b2 M.b3 M.b4 M.hl M.b5]
  simp only [bnd_some_eq]
  rw [decide_eq_false (by omega : ¬ 300 < (tilesM m s q).length)]
  simp only [cond_false, bnd_some_eq]
  rw [impl_confRow R.hm M (by omega), confP_bot M R.fit]
  simp only [cond_false, Bool.not_true, bnd_some_eq, hcd]
  rw [impl_tops _ _ rows (by omega) (by omega) (by omega) hs, hf, if_pos rfl, ht]
  simp only [Bool.not_true, cond_false, bnd_some_eq, hcd]
  have impl_loop := (run_rowf (body := F_impl_RunOfTiling_L1 m (tl, true)) tl (by omega) (fun (a : List GConfig) i => (a, i)) (fun a t => a ++ [(confP m t).1]) (fun i a => a.length = i + 1) (fun i hi a ha => by
    obtain ⟨B, e, hB⟩ := hget i hi (by omega)
    refine ⟨?_, by simp [ha]⟩
    simp only [F_impl_RunOfTiling_L1, Int.ofNat_lt, hi, decide_true, cond_true, idx_nat hi, bnd_some_eq]
    have hlb : (botR m (l[i]'(by omega)) W B).length = W := by unfold botR; rw [List.length_set, rowC_len]
    rw [e, impl_config m _ M.hs M.hq M.b1 M.b2 M.b4 M.b5 (by omega), bnd_some_eq, confP_bot M hB]
    simp only [hcd, cond_false]
    rw [app_ok (by simp; omega), bnd_some_eq]) [c] rfl).1
  have efold : ∀ (xs : List (List Int)) (a : List GConfig), xs.foldl (fun a t => a ++ [(confP m t).1]) a = a ++ runC m xs := by
    intro xs
    induction xs with
    | nil => intro a; simp [runC]
    | cons x xs ih => intro a; rw [List.foldl_cons, ih]; simp [runC]
  have erun : runC m tl = l := by
    unfold runC
    apply List.ext_getElem
    · rw [List.length_map, hlen]
    · intro i g1 g2
      obtain ⟨B, e, hB⟩ := hget i (by omega) g2
      rw [List.getElem_map, e, confP_bot M hB]
  rw [efold, erun] at impl_loop
  rw [impl_loop, run_done (x := Out.brk ([c] ++ l, (tl.length : Int))) (by simp [F_impl_RunOfTiling_L1])]
  rfl
theorem impl_topOf {ts : List GTile} {bs : List Int} {rows : List (List Int)} (hv : validT ts = true) (hf : frameB bs = true) (h1 : 1 ≤ rows.length ∧ rows.length ≤ 40) (hs : Sml rows) {tl : List (List Int)} (ht : topsM ts bs rows = some tl) : F_impl_TopOf ts bs rows = some (tl.getLastD bs, 0) := by
  have hts : ts.length ≤ 300 := by
    unfold validT at hv
    simp only [Bool.and_eq_true, decide_eq_true_eq] at hv
    exact hv.1.1.2
  have hbs : 0 < bs.length ∧ bs.length ≤ 30 := by
    unfold frameB at hf
    simp only [Bool.and_eq_true, decide_eq_true_eq] at hf
    exact hf.1
  have hfw : fewB rows = true := by
    unfold fewB
    rw [decide_eq_true (by omega), decide_eq_true (by omega)]
    rfl
  have hl := topsM_length ht
  unfold F_impl_TopOf
  rw [impl_valid ts (by omega), bnd_some_eq, hv, impl_frame bs (by omega), hf, impl_tops ts bs rows (by omega) hbs.1 (by omega) hs, hfw, if_pos rfl, ht]
  simp only [Bool.not_true, cond_false, bnd_some_eq]
  rw [idx_end bs (by omega) (by omega)]
  rfl
end Go.Fn
