/-
  Runs that are measured and followed: the heads' positions and the records. No program in sight. No condition.
-/
import Derived.Test.YtcgaddlkebifdaaPRnr
namespace Go.Fn
open Go Go.Tc
section
variable {m : GMachine} {s q : Nat}
def trk (m : GMachine) : Nat → GConfig → Int → List Int
  | 0, _, h => [h]
  | n + 1, c, h => if ruleAt m c = noR then [h] else h :: trk m n (stepC (ruleAt m c) c) (h + (ruleAt m c).Move)
def mnL (a y : Int) : Int := if y < a then y else a
def mxG (a y : Int) : Int := if y > a then y else a
theorem trk_zero (c : GConfig) (h : Int) : trk m 0 c h = [h] := rfl
theorem trk_stop {n : Nat} {c : GConfig} {h : Int} (e : ruleAt m c = noR) : trk m n c h = [h] := by
  cases n with
  | zero => rfl
  | succ n => unfold trk; rw [if_pos e]
theorem trk_go {n : Nat} {c : GConfig} {h : Int} (e : ruleAt m c ≠ noR) : trk m (n + 1) c h = h :: trk m n (stepC (ruleAt m c) c) (h + (ruleAt m c).Move) := by
  conv => lhs; unfold trk
  rw [if_neg e]
theorem trk_len : ∀ (n : Nat) (c : GConfig) (h : Int), 1 ≤ (trk m n c h).length ∧ (trk m n c h).length ≤ n + 1
  | 0, c, h => by simp [trk]
  | n + 1, c, h => by
    by_cases e : ruleAt m c = noR
    · rw [trk_stop e]; simp
    · rw [trk_go e, List.length_cons]
      have := trk_len n (stepC (ruleAt m c) c) (h + (ruleAt m c).Move)
      omega
/-- What is wanted of a configuration with so many steps ahead. -/
structure Rm (s q n : Nat) (c : GConfig) (h : Int) (j : Nat) : Prop where
  cf : CfT s q c
  ll : c.Left.length + n ≤ 150
  lr : c.Right.length + 2 * n ≤ 150
  nj : n + j ≤ 1000
  h0 : -500 + (n : Int) ≤ h
  h1 : h ≤ 500 - (n : Int)
theorem Rm.small {n : Nat} {c : GConfig} {h : Int} {j : Nat} (X : Rm s q (n + 1) c h j) (r : GRule) : small (stepC r c) = true := by
  have h1 := stepC_len r c
  have h2 := X.ll
  have h3 := X.lr
  unfold Fn.small
  rw [decide_eq_true (by omega), decide_eq_true (by omega)]
  rfl
theorem Rm.move (M : MaI m s q) {n : Nat} {c : GConfig} {h : Int} {j : Nat} (X : Rm s q n c h j) (hn : ruleAt m c ≠ noR) : (ruleAt m c).Move = 1 ∨ (ruleAt m c).Move = -1 := (rule_in M (ruleAt_idx M X.cf.cf).2 hn).2.1
theorem Rm.next (M : MaI m s q) {n : Nat} {c : GConfig} {h : Int} {j : Nat} (X : Rm s q (n + 1) c h j) (hn : ruleAt m c ≠ noR) : Rm s q n (stepC (ruleAt m c) c) (h + (ruleAt m c).Move) (j + 1) := by
  have h1 := stepC_len (ruleAt m c) c
  have h2 := X.ll
  have h3 := X.lr
  have h4 := X.nj
  have h5 := X.h0
  have h6 := X.h1
  have h7 := X.move M hn
  exact ⟨X.cf.step M hn (X.small _), by omega, by omega, by omega, by omega, by omega⟩
/-! ### Measured -/
theorem count_some (xs : List Int) (k : Int) (h : xs.length ≤ 1048576) : ∃ v, F_impl_countOf xs k = some v := by
  unfold F_impl_countOf
  have := (run_rowf (body := F_impl_countOf_L1 xs k) xs (by omega) (fun (a : Int) i => (a, i)) (fun a x => if x = k then w64 (a + 1) else a) (fun _ _ => True) (fun i hi a _ => by
    refine ⟨?_, trivial⟩
    simp only [F_impl_countOf_L1, Int.ofNat_lt, hi, decide_true, cond_true, idx_nat hi, bnd_some_eq]
    by_cases e : xs[i] = k
    · rw [decide_eq_true e, cond_true, if_pos e, w64_nat1 (by omega)]
    · rw [decide_eq_false e, cond_false, if_neg e, w64_nat1 (by omega)]) 0 trivial).1
  rw [this, run_done (x := .brk (xs.foldl (fun a x => if x = k then w64 (a + 1) else a) 0, (xs.length : Int))) (by simp [F_impl_countOf_L1])]
  exact ⟨_, rfl⟩
theorem size_some (xs : List Int) : F_impl_size_int64 xs = some (xs.length : Int) := rfl
theorem meas_config (p : Gmeasurer) {c : GConfig} (h1 : c.Left.length ≤ 1000) (h2 : c.Right.length ≤ 1000) (h : Int) : ∃ sp mk, F_impl_measurer_config p (rnr m c) h = some ((), (sp, mnL p.measure_Least h, mxG p.measure_Greatest h, mk)) := by
  obtain ⟨v1, e1⟩ := count_some c.Left.reverse 0 (by simp; omega)
  obtain ⟨v2, e2⟩ := count_some c.Right.reverse 0 (by simp; omega)
  unfold F_impl_measurer_config
  simp only [size_some, bnd_some_eq, Out.elim, rnr, e1, e2]
  exact ⟨_, _, rfl⟩
theorem meas_step (p : Gmeasurer) {c : GConfig} (h2 : c.Right.length ≤ 1000) (h : Int) (r : GRule) : ∃ ch tu, F_impl_measurer_step p (rnr m c) h r = some ((), (ch, tu, r.Move)) := by
  unfold F_impl_measurer_step F_impl_runner_symbol
  have : (rnr m c).right = c.Right.reverse := rfl
  rw [this, impl_nearest _ (by omega)]
  simp only [bnd_some_eq]
  cases decide (r.Write ≠ c.Right.getD 0 0) <;> simp only [cond_true, cond_false, bnd_some_eq, Out.elim] <;> cases decide (p.last ≠ 0) <;> simp only [cond_true, cond_false, bnd_some_eq, Out.elim]
  · exact ⟨_, _, rfl⟩
  · cases decide (r.Move ≠ p.last)
    · exact ⟨_, _, rfl⟩
    · exact ⟨_, _, rfl⟩
  · exact ⟨_, _, rfl⟩
  · cases decide (r.Move ≠ p.last)
    · exact ⟨_, _, rfl⟩
    · exact ⟨_, _, rfl⟩
theorem meas_run (M : MaI m s q) (x : Int × List Int × List Int) : ∀ (n j : Nat) (c : GConfig) (h sp lo hi ch tu mk la : Int), Rm s q n c h j →
    ∃ sp' ch' tu' mk' hb, run (F_impl_MeasureRun_L1 ((n + j : Nat) : Int) (m.Symbols, m.States, m.Rules, x)) (sp, lo, hi, ch, tu, mk, la, c.State, c.Left.reverse, c.Right.reverse, h, (j : Int)) =
      some (.ret (some (⟨((j + (trk m n c h).length - 1 : Nat) : Int), hb, sp', (trk m n c h).foldl mnL lo, (trk m n c h).foldl mxG hi, ch', tu', mk'⟩, 0))) := by
  intro n
  induction n with
  | zero =>
    intro j c h sp lo hi ch tu mk la X
    have hl := X.cf.cf.ll
    have hr := X.cf.cf.rl
    obtain ⟨sp', mk', e1⟩ := meas_config (m := m) ⟨0, false, sp, lo, hi, ch, tu, mk, la⟩ (c := c) (by omega) (by omega) h
    have hh : F_impl_runner_halts ⟨m.Symbols, m.States, m.Rules, c.State, c.Left.reverse, c.Right.reverse⟩ = some (decide (ruleAt m c = noR)) := impl_haltsR M X.cf.cf (by omega)
    have e1' : F_impl_measurer_config ⟨0, false, sp, lo, hi, ch, tu, mk, la⟩ ⟨m.Symbols, m.States, m.Rules, c.State, c.Left.reverse, c.Right.reverse⟩ h = _ := e1
    refine ⟨sp', ch, tu, mk', decide (ruleAt m c = noR), run_done ?_⟩
    simp only [F_impl_MeasureRun_L1]
    rw [e1', bnd_some_eq, decide_eq_true (by omega), cond_true, hh, bnd_some_eq, bnd_some_eq, trk_zero]
    rfl
  | succ n ih =>
    intro j c h sp lo hi ch tu mk la X
    have hl := X.cf.cf.ll
    have hr := X.cf.cf.rl
    obtain ⟨sp', mk', e1⟩ := meas_config (m := m) ⟨0, false, sp, lo, hi, ch, tu, mk, la⟩ (c := c) (by omega) (by omega) h
    have hh : F_impl_runner_halts ⟨m.Symbols, m.States, m.Rules, c.State, c.Left.reverse, c.Right.reverse⟩ = some (decide (ruleAt m c = noR)) := impl_haltsR M X.cf.cf (by omega)
    have e1' : F_impl_measurer_config ⟨0, false, sp, lo, hi, ch, tu, mk, la⟩ ⟨m.Symbols, m.States, m.Rules, c.State, c.Left.reverse, c.Right.reverse⟩ h = _ := e1
    by_cases hn : ruleAt m c = noR
    · refine ⟨sp', ch, tu, mk', true, run_done ?_⟩
      simp only [F_impl_MeasureRun_L1]
      rw [e1', bnd_some_eq, decide_eq_false (by omega), cond_false, hh, bnd_some_eq, decide_eq_true hn, cond_true, bnd_some_eq, bnd_some_eq, trk_stop hn]
      rfl
    · have hu : F_impl_runner_rule ⟨m.Symbols, m.States, m.Rules, c.State, c.Left.reverse, c.Right.reverse⟩ = some (ruleAt m c) := impl_ruleR M X.cf.cf (by omega)
      have hs : F_impl_runner_step ⟨m.Symbols, m.States, m.Rules, c.State, c.Left.reverse, c.Right.reverse⟩ = _ := impl_stepR M X.cf.cf (by omega) X.cf.lt X.cf.rt
      obtain ⟨ch', tu', e2⟩ := meas_step (m := m) ⟨0, false, sp', mnL lo h, mxG hi h, ch, tu, mk', la⟩ (c := c) (by omega) h (ruleAt m c)
      have e2' : F_impl_measurer_step ⟨0, false, sp', mnL lo h, mxG hi h, ch, tu, mk', la⟩ ⟨m.Symbols, m.States, m.Rules, c.State, c.Left.reverse, c.Right.reverse⟩ h (ruleAt m c) = _ := e2
      have hmv := X.move M hn
      have b0 := X.h0
      have b1 := X.h1
      have bn := X.nj
      have hb : F_impl_MeasureRun_L1 ((n + 1 + j : Nat) : Int) (m.Symbols, m.States, m.Rules, x) (sp, lo, hi, ch, tu, mk, la, c.State, c.Left.reverse, c.Right.reverse, h, (j : Int)) = some (.inl (sp', mnL lo h, mxG hi h, ch', tu', mk', (ruleAt m c).Move, (stepC (ruleAt m c) c).State, (stepC (ruleAt m c) c).Left.reverse, (stepC (ruleAt m c) c).Right.reverse, h + (ruleAt m c).Move, ((j + 1 : Nat) : Int))) := by
        simp only [F_impl_MeasureRun_L1]
        rw [e1', bnd_some_eq, decide_eq_false (by omega), cond_false, hh, bnd_some_eq, decide_eq_false hn, cond_false, bnd_some_eq]
        simp only [Out.elim]
        rw [hu, bnd_some_eq, e2', bnd_some_eq, hs, bnd_some_eq, X.small]
        simp only [Bool.not_true, cond_false]
        rw [w64_in (n := h + (ruleAt m c).Move) (by omega) (by omega), w64_nat1 (by omega)]
      obtain ⟨sp2, ch2, tu2, mk2, hb2, e⟩ := ih (j + 1) (stepC (ruleAt m c) c) (h + (ruleAt m c).Move) sp' (mnL lo h) (mxG hi h) ch' tu' mk' (ruleAt m c).Move (X.next M hn)
      refine ⟨sp2, ch2, tu2, mk2, hb2, ?_⟩
      rw [run_next hb, show n + 1 + j = n + (j + 1) by omega, e, trk_go hn]
      have hlen := trk_len (m := m) n (stepC (ruleAt m c) c) (h + (ruleAt m c).Move)
      rw [List.foldl_cons, List.foldl_cons, List.length_cons]
      congr 6
      omega
/-! ### Followed -/
structure Good (ps : List Int) (rc : List Grecord) (lo hi : Int) : Prop where
  l0 : lo ≤ 0
  h0 : 0 ≤ hi
  ln : (rc.length : Int) = hi - lo
  st : ∀ i (h : i < rc.length), 1 ≤ rc[i].steps ∧ rc[i].steps < ps.length ∧ 0 < (ps.getD rc[i].steps.toNat 0) * rc[i].side ∧ (rc[i].side = 1 ∨ rc[i].side = -1)
  inc : ∀ i (h : i + 1 < rc.length), rc[i].steps < rc[i + 1].steps
  bd : ∀ k, -1000 ≤ ps.getD k 0 ∧ ps.getD k 0 ≤ 1000
theorem getD_snoc (ps : List Int) (h : Int) (k : Nat) : (ps ++ [h]).getD k 0 = if k < ps.length then ps.getD k 0 else if k = ps.length then h else 0 := by
  rw [List.getD_eq_getElem?_getD, List.getElem?_append]
  by_cases h1 : k < ps.length
  · rw [if_pos h1, if_pos h1, List.getD_eq_getElem?_getD]
  · rw [if_neg h1, if_neg h1]
    by_cases h2 : k = ps.length
    · rw [if_pos h2, h2, Nat.sub_self]; rfl
    · rw [if_neg h2]
      have : k - ps.length = (k - ps.length - 1) + 1 := by omega
      rw [this]
      rfl
theorem Good.push {ps : List Int} {rc : List Grecord} {lo hi h : Int} (G : Good ps rc lo hi) (hb : -1000 ≤ h ∧ h ≤ 1000) : Good (ps ++ [h]) rc lo hi := by
  refine ⟨G.l0, G.h0, G.ln, fun i hi' => ?_, G.inc, fun k => ?_⟩
  · obtain ⟨a, b, c, d⟩ := G.st i hi'
    refine ⟨a, by rw [List.length_append, List.length_singleton]; omega, ?_, d⟩
    rw [getD_snoc, if_pos (by omega)]
    exact c
  · rw [getD_snoc]
    have := G.bd k
    split
    · exact this
    · split
      · exact hb
      · omega
theorem Good.record {ps : List Int} {rc : List Grecord} {lo hi h lo' hi' : Int} (G : Good ps rc lo hi) (hb : -1000 ≤ h ∧ h ≤ 1000) (hp : 1 ≤ ps.length) {e : Grecord} (he : e.steps = (ps.length : Int)) (hs : e.side = 1 ∨ e.side = -1) (hh : 0 < h * e.side) (hlo : lo' ≤ 0) (hhi : 0 ≤ hi') (hd : hi' - lo' = hi - lo + 1) : Good (ps ++ [h]) (rc ++ [e]) lo' hi' := by
  have G' := G.push hb
  refine ⟨hlo, hhi, by rw [List.length_append, List.length_singleton]; have := G.ln; omega, fun i hi' => ?_, fun i hi' => ?_, G'.bd⟩
  · rw [List.length_append, List.length_singleton] at hi'
    by_cases h1 : i < rc.length
    · have e1 : (rc ++ [e])[i] = rc[i] := List.getElem_append_left h1
      rw [e1]
      exact G'.st i h1
    · have e1 : (rc ++ [e])[i]'(by rw [List.length_append, List.length_singleton]; exact hi') = e := by
        rw [List.getElem_append_right (by omega)]
        simp
      rw [e1, he]
      refine ⟨by omega, by rw [List.length_append, List.length_singleton]; omega, ?_, hs⟩
      rw [Int.toNat_natCast, getD_snoc, if_neg (by omega), if_pos rfl]
      exact hh
  · rw [List.length_append, List.length_singleton] at hi'
    by_cases h1 : i + 1 < rc.length
    · have e1 : (rc ++ [e])[i] = rc[i] := List.getElem_append_left (by omega)
      have e2 : (rc ++ [e])[i + 1] = rc[i + 1] := List.getElem_append_left h1
      rw [e1, e2]
      exact G.inc i h1
    · have e1 : (rc ++ [e])[i] = rc[i] := List.getElem_append_left (by omega)
      have e2 : (rc ++ [e])[i + 1]'(by rw [List.length_append, List.length_singleton]; exact hi') = e := by
        rw [List.getElem_append_right (by omega)]
        have : i + 1 - rc.length = 0 := by omega
        simp [this]
      rw [e1, e2, he]
      exact (G.st i (by omega)).2.1
noncomputable def tailM (p1 : Int) (p : Grunner) (h k : Int) (ps : List Int) (rc : List Grecord) (lo hi : Int) : Option (((List Int) × (List Grecord) × Int × Int × Int × (List Int) × (List Int) × Int × Int) ⊕ Out ((List Int) × (List Grecord) × Int × Int × Int × (List Int) × (List Int) × Int × Int) (Option (((List Int) × (List Grecord) × Int × Int) × Bool × Int))) :=
  bnd ((cond (decide (k = p1)) (bnd (F_impl_runner_halts p) fun r32 => some (.ret (some ((ps, rc, lo, hi), r32, 0)))) (bnd (F_impl_runner_halts p) fun r34 => (cond r34 (bnd (F_impl_runner_halts p) fun r37 => some (.ret (some ((ps, rc, lo, hi), r37, 0)))) (some (.brk ()))))) : Option (Out (Unit) (Option (((List Int) × (List Grecord) × Int × Int) × Bool × Int)))) (Out.elim (fun (_ : Unit) => bnd (F_impl_runner_rule p) fun r39 => bnd (F_impl_runner_step p) fun r44 => (cond (!r44.1) (some (.inr (.ret (some ((ps, rc, lo, hi), false, 5))))) (some (.inl (ps, rc, lo, hi, r44.2.1, r44.2.2.1, r44.2.2.2, (w64 (h + r39.Move)), (w64 (k + 1))))))) (fun (r : Option (((List Int) × (List Grecord) × Int × Int) × Bool × Int)) => some (.inr (.ret r))))
theorem quick_body {ps : List Int} {rc : List Grecord} {lo hi h : Int} {c : GConfig} (B : Int) (x : Int × List Int × List Int) (k : Int) (G : Good ps rc lo hi) (h1 : c.Left.length ≤ 1000) (h2 : c.Right.length ≤ 1000) (hp : ps.length ≤ 1000) (hb : -1000 ≤ h ∧ h ≤ 1000) (hr : lo - 1 ≤ h ∧ h ≤ hi + 1) (hz : ps.length = 0 → lo ≤ h ∧ h ≤ hi) :
    ∃ rc', F_impl_tracked_L1 B (m.Symbols, m.States, m.Rules, x) (ps, rc, lo, hi, c.State, c.Left.reverse, c.Right.reverse, h, k) = tailM B (rnr m c) h k (ps ++ [h]) rc' (mnL lo h) (mxG hi h) ∧ Good (ps ++ [h]) rc' (mnL lo h) (mxG hi h) := by
  have l0 := G.l0
  have u0 := G.h0
  have ln := G.ln
  have inc := G.inc
  have hrc : rc.length ≤ 1000000 := by
    by_cases he : rc.length = 0
    · omega
    · have key : ∀ i (h : i < rc.length), (i : Int) < rc[i].steps := by
        intro i
        induction i with
        | zero => intro h; have := (G.st 0 h).1; omega
        | succ i ih => intro h; have := ih (by omega); have := inc i h; omega
      have := key (rc.length - 1) (by omega)
      have := (G.st (rc.length - 1) (by omega)).2.1
      omega
  have hcf : F_impl_runner_config ⟨m.Symbols, m.States, m.Rules, c.State, c.Left.reverse, c.Right.reverse⟩ = some c := impl_configR m c (by omega) (by omega)
  simp only [F_impl_tracked_L1, size_some, bnd_some_eq]
  rw [hcf]
  simp only [bnd_some_eq]
  by_cases hg : hi < h
  · rw [decide_eq_true hg, cond_true, app_ok (by simp; omega), bnd_some_eq, app_ok (by simp; omega), bnd_some_eq]
    have e1 : mnL lo h = lo := by unfold mnL; rw [if_neg (by omega)]
    have e2 : mxG hi h = h := by unfold mxG; rw [if_pos hg]
    rw [e1, e2]
    exact ⟨_, rfl, G.record hb (by omega) rfl (.inl rfl) (by simp only; omega) l0 (by omega) (by omega)⟩
  · rw [decide_eq_false hg, cond_false]
    have e2 : mxG hi h = hi := by unfold mxG; rw [if_neg hg]
    by_cases hg2 : h < lo
    · rw [decide_eq_true hg2, cond_true, app_ok (by simp; omega), bnd_some_eq, app_ok (by simp; omega), bnd_some_eq]
      have e1 : mnL lo h = h := by unfold mnL; rw [if_pos hg2]
      rw [e1, e2]
      exact ⟨_, rfl, G.record hb (by omega) rfl (.inr rfl) (by simp only; omega) (by omega) u0 (by omega)⟩
    · rw [decide_eq_false hg2, cond_false, app_ok (by simp; omega), bnd_some_eq]
      have e1 : mnL lo h = lo := by unfold mnL; rw [if_neg hg2]
      rw [e1, e2]
      exact ⟨_, rfl, G.push hb⟩
theorem trk_run (M : MaI m s q) (x : Int × List Int × List Int) : ∀ (n j : Nat) (c : GConfig) (h : Int) (ps : List Int) (rc : List Grecord) (lo hi : Int), Rm s q n c h j → ps.length = j → Good ps rc lo hi → lo - 1 ≤ h ∧ h ≤ hi + 1 → (ps.length = 0 → lo ≤ h ∧ h ≤ hi) →
    ∃ rc' hb, run (F_impl_tracked_L1 ((n + j : Nat) : Int) (m.Symbols, m.States, m.Rules, x)) (ps, rc, lo, hi, c.State, c.Left.reverse, c.Right.reverse, h, (j : Int)) =
      some (.ret (some ((ps ++ trk m n c h, rc', (trk m n c h).foldl mnL lo, (trk m n c h).foldl mxG hi), hb, 0))) ∧ Good (ps ++ trk m n c h) rc' ((trk m n c h).foldl mnL lo) ((trk m n c h).foldl mxG hi) := by
  intro n
  induction n with
  | zero =>
    intro j c h ps rc lo hi X hj G hr hz
    have hl := X.cf.cf.ll
    have hrl := X.cf.cf.rl
    have b0 := X.h0
    have b1 := X.h1
    have bn := X.nj
    obtain ⟨rc', e1, G'⟩ := quick_body (m := m) (c := c) ((0 + j : Nat) : Int) x (j : Int) G (by omega) (by omega) (by omega) (by omega) hr hz
    have hh : F_impl_runner_halts ⟨m.Symbols, m.States, m.Rules, c.State, c.Left.reverse, c.Right.reverse⟩ = some (decide (ruleAt m c = noR)) := impl_haltsR M X.cf.cf (by omega)
    refine ⟨rc', decide (ruleAt m c = noR), run_done ?_, G'⟩
    rw [e1]
    unfold tailM rnr
    rw [decide_eq_true (by omega), cond_true, hh, bnd_some_eq, bnd_some_eq, trk_zero]
    rfl
  | succ n ih =>
    intro j c h ps rc lo hi X hj G hr hz
    have hl := X.cf.cf.ll
    have hrl := X.cf.cf.rl
    have b0 := X.h0
    have b1 := X.h1
    have bn := X.nj
    obtain ⟨rc', e1, G'⟩ := quick_body (m := m) (c := c) ((n + 1 + j : Nat) : Int) x (j : Int) G (by omega) (by omega) (by omega) (by omega) hr hz
    have hh : F_impl_runner_halts ⟨m.Symbols, m.States, m.Rules, c.State, c.Left.reverse, c.Right.reverse⟩ = some (decide (ruleAt m c = noR)) := impl_haltsR M X.cf.cf (by omega)
    by_cases hn : ruleAt m c = noR
    · refine ⟨rc', true, run_done ?_, by rw [trk_stop hn]; exact G'⟩
      rw [e1]
      unfold tailM rnr
      rw [decide_eq_false (by omega), cond_false, hh, bnd_some_eq, decide_eq_true hn, cond_true, bnd_some_eq, bnd_some_eq, trk_stop hn]
      rfl
    · have hu : F_impl_runner_rule ⟨m.Symbols, m.States, m.Rules, c.State, c.Left.reverse, c.Right.reverse⟩ = some (ruleAt m c) := impl_ruleR M X.cf.cf (by omega)
      have hs : F_impl_runner_step ⟨m.Symbols, m.States, m.Rules, c.State, c.Left.reverse, c.Right.reverse⟩ = _ := impl_stepR M X.cf.cf (by omega) X.cf.lt X.cf.rt
      have hmv := X.move M hn
      have hb : F_impl_tracked_L1 ((n + 1 + j : Nat) : Int) (m.Symbols, m.States, m.Rules, x) (ps, rc, lo, hi, c.State, c.Left.reverse, c.Right.reverse, h, (j : Int)) = some (.inl (ps ++ [h], rc', mnL lo h, mxG hi h, (stepC (ruleAt m c) c).State, (stepC (ruleAt m c) c).Left.reverse, (stepC (ruleAt m c) c).Right.reverse, h + (ruleAt m c).Move, ((j + 1 : Nat) : Int))) := by
        rw [e1]
        unfold tailM rnr
        rw [decide_eq_false (by omega), cond_false, hh, bnd_some_eq, decide_eq_false hn, cond_false, bnd_some_eq]
        simp only [Out.elim]
        rw [hu, bnd_some_eq, hs, bnd_some_eq, X.small]
        simp only [Bool.not_true, cond_false]
        rw [w64_in (n := h + (ruleAt m c).Move) (by omega) (by omega), w64_nat1 (by omega)]
      have g1 : mnL lo h ≤ h := by unfold mnL; split <;> omega
      have g2 : h ≤ mxG hi h := by unfold mxG; split <;> omega
      obtain ⟨rc2, hb2, e, G2⟩ := ih (j + 1) (stepC (ruleAt m c) c) (h + (ruleAt m c).Move) (ps ++ [h]) rc' (mnL lo h) (mxG hi h) (X.next M hn) (by rw [List.length_append, List.length_singleton, hj]) G' (by omega) (fun h => by rw [List.length_append, List.length_singleton] at h; omega)
      rw [List.append_assoc, List.singleton_append] at e G2
      refine ⟨rc2, hb2, ?_, ?_⟩
      · rw [run_next hb, show n + 1 + j = n + (j + 1) by omega, e, trk_go hn]
        rfl
      · rw [trk_go hn]
        exact G2
end
end Go.Fn
