/-
  Dominoes that are drawn, and the match that is drawn or found for them. No program in sight. No condition.
-/
import Derived.Test.YtgojoooilijiiaaPMatK
import Derived.Test.YtgojoooilijiiaaPMatA
namespace Go.Fn
open Go Go.Tc
/-! ### The search for a match -/
def restOk (D i : Nat) (x : Gl32Rest) : Prop := x.word.length ≤ 400 ∧ -1 ≤ x.before ∧ x.before < i ∧ (0 ≤ x.before → 0 ≤ x.domino ∧ x.domino < D)
def fndOk (D : Nat) (found : List Gl32Rest) : Prop := 1 ≤ found.length ∧ found.length ≤ 300 ∧ ∀ i (h : i < found.length), restOk D i found[i]
def inD (D : Nat) (xs : List Int) : Prop := ∀ x ∈ xs, 0 ≤ x ∧ x < (D : Int)
theorem back_run {D : Nat} {found : List Gl32Rest} (hf : fndOk D found) : ∀ (k : Nat) (out w : List Int) (u : Bool) (b d : Int), -1 ≤ b → b + 1 ≤ k → b < found.length → (0 ≤ b → 0 ≤ d ∧ d < (D : Int)) → inD D out → out.length + k ≤ 100000 →
    ∃ out' w' u' b' d', run (F_spec_l32Back_L1 found) (out, w, u, b, d) = some (.brk (out', w', u', b', d')) ∧ inD D out' ∧ out.length ≤ out'.length ∧ (0 ≤ b → 1 ≤ out'.length) ∧ out'.length ≤ out.length + k := by
  intro k
  induction k with
  | zero =>
    intro out w u b d h0 h1 _ _ ho _
    refine ⟨out, w, u, b, d, run_done ?_, ho, Nat.le_refl _, fun h => by omega, by omega⟩
    simp only [F_spec_l32Back_L1]
    rw [decide_eq_false (by omega), cond_false]
  | succ k ih =>
    intro out w u b d h0 h1 h2 h3 ho hl
    by_cases hb : 0 ≤ b
    · obtain ⟨n, rfl⟩ : ∃ n : Nat, b = n := ⟨b.toNat, by omega⟩
      have hn : n < found.length := by omega
      obtain ⟨_, g1, g2, g3⟩ := hf.2.2 n hn
      have hd := h3 hb
      have hs : F_spec_l32Back_L1 found (out, w, u, (n : Int), d) = some (.inl (d :: out, found[n].word, found[n].upper, found[n].before, found[n].domino)) := by
        simp only [F_spec_l32Back_L1]
        rw [decide_eq_true hb, cond_true, app_ok (by simp; omega), bnd_some_eq, idx_nat hn, bnd_some_eq]
        rfl
      rw [run_next hs]
      obtain ⟨out', w', u', b', d', e, i1, i2, _, i4⟩ := ih (d :: out) found[n].word found[n].upper found[n].before found[n].domino g1 (by omega) (by omega) g3 (fun x hx => by
        rcases List.mem_cons.1 hx with rfl | hx
        · exact hd
        · exact ho x hx) (by simp; omega)
      rw [List.length_cons] at i2 i4
      exact ⟨out', w', u', b', d', e, i1, by omega, fun _ => by omega, by omega⟩
    · refine ⟨out, w, u, b, d, run_done ?_, ho, Nat.le_refl _, fun h => absurd h hb, by omega⟩
      simp only [F_spec_l32Back_L1]
      rw [decide_eq_false hb, cond_false]
theorem back_ok {D : Nat} {found : List Gl32Rest} (hf : fndOk D found) {x : Gl32Rest} (h0 : 0 ≤ x.before) (h1 : x.before < found.length) (h2 : 0 ≤ x.domino ∧ x.domino < (D : Int)) :
    ∃ out k, F_spec_l32Back found x = some (out, k) ∧ (k = 0 → rangeB D out = true) := by
  have hl := hf.2.1
  obtain ⟨out', w', u', b', d', e, i1, _, i3, i4⟩ := back_run hf 301 [] x.word x.upper x.before x.domino (by omega) (by omega) h1 (fun _ => h2) (fun y hy => by simp at hy) (by simp)
  unfold F_spec_l32Back
  rw [e, bnd_some_eq]
  simp only [Out.elim]
  have hle : out'.length ≤ 301 := by simpa using i4
  rw [decide_eq_false (by omega), cond_false]
  refine ⟨out', 0, rfl, fun _ => ?_⟩
  unfold rangeB
  rw [decide_eq_true (i3 h0), decide_eq_true (by omega), Bool.true_and, Bool.true_and]
  exact List.all_eq_true.2 fun y hy => inB_iff.2 (by have := i1 y hy; omega)
theorem known_ok {D : Nat} {found : List Gl32Rest} (hf : fndOk D found) (x : Gl32Rest) : ∃ b, F_spec_l32Known found x = some b := by
  have hl := hf.2.1
  have key : ∀ (m i : Nat), i + m = found.length → ∃ r, run (F_spec_l32Known_L1 found x) (i : Int) = some r := by
    intro m
    induction m with
    | zero =>
      intro i hi
      exact ⟨_, run_done (x := .brk (i : Int)) (by simp only [F_spec_l32Known_L1]; rw [decide_eq_false (by omega), cond_false])⟩
    | succ m ih =>
      intro i hi
      have hlt : i < found.length := by omega
      have hw := (hf.2.2 i hlt).1
      have step : F_spec_l32Known_L1 found x (i : Int) = some (.inl ((i + 1 : Nat) : Int)) ∨ F_spec_l32Known_L1 found x (i : Int) = some (.inr (.ret true)) := by
        simp only [F_spec_l32Known_L1]
        rw [decide_eq_true (by omega), cond_true, idx_nat hlt, bnd_some_eq, w64_nat1 (by omega)]
        cases (found[i].upper == x.upper)
        · exact .inl rfl
        · rw [cond_true, bnd_some_eq, spec_same _ _ (by omega), bnd_some_eq]
          cases decide (found[i].word = x.word)
          · exact .inl rfl
          · exact .inr rfl
      rcases step with h | h
      · rw [run_next h]
        exact ih (i + 1) (by omega)
      · exact ⟨_, run_done h⟩
  obtain ⟨r, hr⟩ := key (found.length - 1) 1 (by have := hf.1; omega)
  unfold F_spec_l32Known
  rw [show (1 : Int) = ((1 : Nat) : Int) from rfl, hr, bnd_some_eq]
  cases r with
  | brk s => exact ⟨_, rfl⟩
  | ret b => exact ⟨_, rfl⟩
abbrev StD := (List Gl32Rest) × Bool × Int
abbrev RsD := Option ((List GDomino) × (List Int))
def goodR (ds : List GDomino) (r : RsD) : Prop := ∃ ms, r = some (ds, ms) ∧ rangeB ds.length ms = true
theorem put_next {ds : List GDomino} {a : Int} {sd : Ik .u64} {c : List (Ik .u8)} (hs : ∃ n, SrcOk ⟨c, a, sd⟩ n ∧ n ≤ 1000000) {ms0 : List Int} (hms : rangeB ds.length ms0 = true) {found : List Gl32Rest} (hf : fndOk ds.length found) (whole up : Bool) {z : List Int} {at' k : Nat} (hat : at' < found.length) (hk : k < ds.length) (hk2 : ds.length ≤ 100) :
    ∃ r : StD ⊕ Out StD RsD, (cond (decide ((z.length : Int) = 0)) (bnd (F_spec_l32Back found (⟨z, up, (at' : Int), (k : Int)⟩ : Gl32Rest)) fun r137 => some (.inr (.ret (cond (decide (r137.2 = 0)) (bnd (F_spec_l00Src_one (⟨c, a, sd⟩ : Gl00Src) 2) fun r141 => (cond r141.1 (some (ds, r137.1)) (some (ds, ms0)))) (some (ds, ms0)))))) (cond (decide (400 < (z.length : Int))) (some (.inl (found, false, (w64 ((k : Int) + 1))))) (bnd (F_spec_l32Known found (⟨z, up, (at' : Int), (k : Int)⟩ : Gl32Rest)) fun r145 => (cond r145 (some (.inl (found, whole, (w64 ((k : Int) + 1))))) (bnd (app found ([(⟨z, up, (at' : Int), (k : Int)⟩ : Gl32Rest)] : List Gl32Rest)) fun z149 => (cond (decide (300 < (z149.length : Int))) (some (.inr (.ret (some (ds, ms0))))) (some (.inl (z149, whole, (w64 ((k : Int) + 1))))))))))) = some r ∧
      (match r with
        | .inl s => fndOk ds.length s.1 ∧ found.length ≤ s.1.length ∧ s.2.2 = ((k + 1 : Nat) : Int)
        | .inr (.ret r) => goodR ds r
        | .inr (.brk _) => False) := by
  have hl := hf.2.1
  have ek : w64 ((k : Int) + 1) = ((k + 1 : Nat) : Int) := w64_nat1 (by omega)
  by_cases h0 : z.length = 0
  · rw [decide_eq_true (by omega), cond_true]
    obtain ⟨out, q, e, hq⟩ := back_ok (D := ds.length) hf (x := ⟨z, up, (at' : Int), (k : Int)⟩) (by simp only; omega) (by simp only; omega) (by simp only; omega)
    rw [e, bnd_some_eq]
    refine ⟨_, rfl, ?_⟩
    simp only
    by_cases hq0 : q = 0
    · obtain ⟨n, hn, hn2⟩ := hs
      obtain ⟨b, a', sd', e2, _⟩ := src_one 2 hn (by omega) (by omega)
      rw [decide_eq_true hq0, cond_true, e2, bnd_some_eq]
      cases b
      · exact ⟨ms0, rfl, hms⟩
      · exact ⟨out, rfl, hq hq0⟩
    · rw [decide_eq_false hq0, cond_false]
      exact ⟨ms0, rfl, hms⟩
  rw [decide_eq_false (by omega), cond_false]
  by_cases h4 : 400 < z.length
  · rw [decide_eq_true (by omega), cond_true, ek]
    exact ⟨_, rfl, hf, Nat.le_refl _, rfl⟩
  rw [decide_eq_false (by omega), cond_false]
  obtain ⟨b, hb⟩ := known_ok hf ⟨z, up, (at' : Int), (k : Int)⟩
  rw [hb, bnd_some_eq, ek]
  cases b
  · rw [cond_false, app_ok (by simp; omega), bnd_some_eq, List.length_append, List.length_singleton]
    by_cases h3 : 300 < found.length + 1
    · rw [decide_eq_true (by omega), cond_true]
      exact ⟨_, rfl, ms0, rfl, hms⟩
    · rw [decide_eq_false (by omega), cond_false]
      refine ⟨_, rfl, ⟨by simp, by simp; omega, fun i hi => ?_⟩, by simp, rfl⟩
      by_cases hi2 : i < found.length
      · simp only [List.getElem_append_left hi2]
        exact hf.2.2 i hi2
      · have hie : i = found.length := by
          simp only [List.length_append, List.length_singleton] at hi
          omega
        subst hie
        simp only [List.getElem_append_right (Nat.le_refl _), Nat.sub_self, List.getElem_cons_zero]
        exact ⟨by simp only; omega, by simp only; omega, by simp only; omega, fun _ => by simp only; omega⟩
  · exact ⟨_, rfl, hf, Nat.le_refl _, rfl⟩
theorem inner_step {ds : List GDomino} (hd : domsB ds = true) {r1 : (List (Ik .u8)) × Int × (Ik .u64)} {x4 : Int × (Ik .u64)} {a : Int} {sd : Ik .u64} {n10 : Int} (hs : ∃ n, SrcOk ⟨r1.1, a, sd⟩ n ∧ n ≤ 1000000) {ms0 : List Int} (hms : rangeB ds.length ms0 = true) (s31 : StD) {at' : Nat} (hat' : s31.2.2 = (at' : Int)) {found : List Gl32Rest} (hf : fndOk ds.length found) (hat : at' < found.length) (whole : Bool) {k : Nat} (hk : k < ds.length) :
    ∃ r : StD ⊕ Out StD RsD, F_spec_R8Dominoes_L3 r1 (ds, x4) (a, sd, ms0, n10) s31 (found, whole, (k : Int)) = some r ∧
      (match r with
        | .inl s => fndOk ds.length s.1 ∧ found.length ≤ s.1.length ∧ s.2.2 = ((k + 1 : Nat) : Int)
        | .inr (.ret r) => goodR ds r
        | .inr (.brk _) => False) := by
  have hdl := domsB_len hd
  have hl := hf.2.1
  obtain ⟨hw, _, _, _⟩ := hf.2.2 at' hat
  obtain ⟨ht, hb⟩ := domsB_mem hd (List.getElem_mem hk)
  have ek : w64 ((k : Int) + 1) = ((k + 1 : Nat) : Int) := w64_nat1 (by omega)
  have cont : ∀ (top bottom : List Int), top.length ≤ 800 → bottom.length ≤ 800 → ∃ r : StD ⊕ Out StD RsD, (bnd (F_spec_l00Min (top.length : Int) (bottom.length : Int)) fun r116 => bnd (slc top 0 r116) fun z118 => bnd (slc bottom 0 r116) fun z121 => bnd (F_spec_l00Same z118 z121) fun r127 => (cond (!r127) (some (.inl (found, whole, (w64 ((k : Int) + 1))))) (cond (decide (r116 < (top.length : Int))) (bnd (slc top r116 (top.length : Int)) fun z132 => (cond (decide ((z132.length : Int) = 0)) (bnd (F_spec_l32Back found (⟨z132, true, (at' : Int), (k : Int)⟩ : Gl32Rest)) fun r137 => some (.inr (.ret (cond (decide (r137.2 = 0)) (bnd (F_spec_l00Src_one (⟨r1.1, a, sd⟩ : Gl00Src) 2) fun r141 => (cond r141.1 (some (ds, r137.1)) (some (ds, ms0)))) (some (ds, ms0)))))) (cond (decide (400 < (z132.length : Int))) (some (.inl (found, false, (w64 ((k : Int) + 1))))) (bnd (F_spec_l32Known found (⟨z132, true, (at' : Int), (k : Int)⟩ : Gl32Rest)) fun r145 => (cond r145 (some (.inl (found, whole, (w64 ((k : Int) + 1))))) (bnd (app found ([(⟨z132, true, (at' : Int), (k : Int)⟩ : Gl32Rest)] : List Gl32Rest)) fun z149 => (cond (decide (300 < (z149.length : Int))) (some (.inr (.ret (some (ds, ms0))))) (some (.inl (z149, whole, (w64 ((k : Int) + 1)))))))))))) (bnd (slc bottom r116 (bottom.length : Int)) fun z153 => (cond (decide ((z153.length : Int) = 0)) (bnd (F_spec_l32Back found (⟨z153, false, (at' : Int), (k : Int)⟩ : Gl32Rest)) fun r158 => some (.inr (.ret (cond (decide (r158.2 = 0)) (bnd (F_spec_l00Src_one (⟨r1.1, a, sd⟩ : Gl00Src) 2) fun r162 => (cond r162.1 (some (ds, r158.1)) (some (ds, ms0)))) (some (ds, ms0)))))) (cond (decide (400 < (z153.length : Int))) (some (.inl (found, false, (w64 ((k : Int) + 1))))) (bnd (F_spec_l32Known found (⟨z153, false, (at' : Int), (k : Int)⟩ : Gl32Rest)) fun r166 => (cond r166 (some (.inl (found, whole, (w64 ((k : Int) + 1))))) (bnd (app found ([(⟨z153, false, (at' : Int), (k : Int)⟩ : Gl32Rest)] : List Gl32Rest)) fun z170 => (cond (decide (300 < (z170.length : Int))) (some (.inr (.ret (some (ds, ms0))))) (some (.inl (z170, whole, (w64 ((k : Int) + 1))))))))))))))) = some r ∧
      (match r with
        | .inl s => fndOk ds.length s.1 ∧ found.length ≤ s.1.length ∧ s.2.2 = ((k + 1 : Nat) : Int)
        | .inr (.ret r) => goodR ds r
        | .inr (.brk _) => False) := by
    intro top bottom h1 h2
    have hmin : F_spec_l00Min (top.length : Int) (bottom.length : Int) = some ((min top.length bottom.length : Nat) : Int) := by
      unfold F_spec_l00Min
      by_cases h : top.length < bottom.length
      · rw [decide_eq_true (by omega), cond_true, Nat.min_eq_left (by omega)]
      · rw [decide_eq_false (by omega), cond_false, Nat.min_eq_right (by omega)]
    generalize hn : min top.length bottom.length = n at hmin
    have hn1 : n ≤ top.length := by omega
    have hn2 : n ≤ bottom.length := by omega
    rw [hmin, bnd_some_eq, slc0 hn1, bnd_some_eq, slc0 hn2, bnd_some_eq, spec_same _ _ (by rw [List.length_take]; omega), bnd_some_eq]
    cases decide (top.take n = bottom.take n)
    · rw [Bool.not_false, cond_true, ek]
      exact ⟨_, rfl, hf, Nat.le_refl _, rfl⟩
    · rw [Bool.not_true, cond_false]
      by_cases h : n < top.length
      · rw [decide_eq_true (by omega), cond_true, slc_from hn1, bnd_some_eq]
        exact put_next hs hms hf whole true hat hk (by omega)
      · rw [decide_eq_false (by omega), cond_false, slc_from hn2, bnd_some_eq]
        exact put_next hs hms hf whole false hat hk (by omega)
  simp only [F_spec_R8Dominoes_L3]
  rw [decide_eq_true (by omega), cond_true, hat']
  have e0 : ((cond (decide ((at' : Int) = 0)) (some (.brk false)) (some (.brk false))) : Option (Out Bool RsD)) = some (.brk false) := by
    cases decide ((at' : Int) = 0) <;> rfl
  rw [e0, bnd_some_eq]
  simp only [Out.elim, cond_false]
  rw [idx_nat hat, bnd_some_eq, idx_nat hk, bnd_some_eq, spec_own' _ (by omega), bnd_some_eq, spec_own' _ (by omega), bnd_some_eq]
  cases found[at'].upper
  · rw [cond_false, spec_own' _ (by omega), bnd_some_eq, app_ok (by omega), bnd_some_eq, bnd_some_eq]
    exact cont _ _ (by show ds[k].Top.length ≤ 800; omega) (by show (found[at'].word ++ ds[k].Bottom).length ≤ 800; rw [List.length_append]; omega)
  · rw [cond_true, spec_own' _ (by omega), bnd_some_eq, app_ok (by omega), bnd_some_eq, bnd_some_eq]
    exact cont _ _ (by show (found[at'].word ++ ds[k].Top).length ≤ 800; rw [List.length_append]; omega) (by show ds[k].Bottom.length ≤ 800; omega)
theorem inner_run {ds : List GDomino} (hd : domsB ds = true) {r1 : (List (Ik .u8)) × Int × (Ik .u64)} {x4 : Int × (Ik .u64)} {a : Int} {sd : Ik .u64} {n10 : Int} (hs : ∃ n, SrcOk ⟨r1.1, a, sd⟩ n ∧ n ≤ 1000000) {ms0 : List Int} (hms : rangeB ds.length ms0 = true) (s31 : StD) {at' : Nat} (hat' : s31.2.2 = (at' : Int)) :
    ∀ (m k : Nat) (found : List Gl32Rest) (whole : Bool), k + m = ds.length → fndOk ds.length found → at' < found.length →
    ∃ r : Out StD RsD, run (F_spec_R8Dominoes_L3 r1 (ds, x4) (a, sd, ms0, n10) s31) (found, whole, (k : Int)) = some r ∧
      (match r with
        | .brk s => fndOk ds.length s.1 ∧ found.length ≤ s.1.length
        | .ret r => goodR ds r) := by
  have hdl := domsB_len hd
  intro m
  induction m with
  | zero =>
    intro k found whole hk hf hat
    refine ⟨.brk (found, whole, (k : Int)), run_done ?_, hf, Nat.le_refl _⟩
    simp only [F_spec_R8Dominoes_L3]
    rw [decide_eq_false (by omega), cond_false]
  | succ m ih =>
    intro k found whole hk hf hat
    obtain ⟨r, hr, h⟩ := inner_step (x4 := x4) (n10 := n10) hd hs hms s31 hat' hf hat whole (k := k) (by omega)
    cases r with
    | inl s =>
      obtain ⟨f', w', k'⟩ := s
      obtain ⟨h1, h2, h3⟩ := h
      simp only at h1 h2 h3
      subst h3
      rw [run_next hr]
      obtain ⟨r, hr2, hg⟩ := ih (k + 1) f' w' (by omega) h1 (by omega)
      refine ⟨r, hr2, ?_⟩
      cases r with
      | brk s => exact ⟨hg.1, by have := hg.2; omega⟩
      | ret r => exact hg
    | inr o =>
      cases o with
      | brk s => exact h.elim
      | ret r => exact ⟨.ret r, run_done hr, h⟩
theorem outer_run {ds : List GDomino} (hd : domsB ds = true) {r1 : (List (Ik .u8)) × Int × (Ik .u64)} {x4 : Int × (Ik .u64)} {a : Int} {sd : Ik .u64} {n10 : Int} (hs : ∃ n, SrcOk ⟨r1.1, a, sd⟩ n ∧ n ≤ 1000000) {ms0 : List Int} (hms : rangeB ds.length ms0 = true) :
    ∀ (m at' : Nat) (found : List Gl32Rest) (whole : Bool), at' + m = 41 → at' ≤ 40 → fndOk ds.length found →
    ∃ r : Out StD RsD, run (F_spec_R8Dominoes_L2 r1 (ds, x4) (a, sd, ms0, n10)) (found, whole, (at' : Int)) = some r ∧
      (match r with
        | .brk _ => True
        | .ret r => goodR ds r) := by
  intro m
  induction m with
  | zero =>
    intro at' found whole hm hle hf
    exact absurd hm (by omega)
  | succ m ih =>
    intro at' found whole hm hle hf
    have hl := hf.2.1
    by_cases h : at' < found.length
    · by_cases h40 : at' = 40
      · refine ⟨.ret (some (ds, ms0)), run_done ?_, ms0, rfl, hms⟩
        simp only [F_spec_R8Dominoes_L2]
        rw [decide_eq_true (by omega), cond_true, decide_eq_true (by omega), cond_true]
      · obtain ⟨r, hr, hg⟩ := inner_run (x4 := x4) (n10 := n10) hd hs hms (found, whole, (at' : Int)) (at' := at') rfl ds.length 0 found whole (by omega) hf h
        rw [show ((0 : Nat) : Int) = 0 from rfl] at hr
        cases r with
        | brk s =>
          have hb : F_spec_R8Dominoes_L2 r1 (ds, x4) (a, sd, ms0, n10) (found, whole, (at' : Int)) = some (.inl (s.1, s.2.1, ((at' + 1 : Nat) : Int))) := by
            simp only [F_spec_R8Dominoes_L2]
            rw [decide_eq_true (by omega), cond_true, decide_eq_false (by omega), cond_false, hr, bnd_some_eq, w64_nat1 (by omega)]
            rfl
          rw [run_next hb]
          exact ih (at' + 1) s.1 s.2.1 (by omega) (by omega) hg.1
        | ret r =>
          refine ⟨.ret r, run_done ?_, hg⟩
          simp only [F_spec_R8Dominoes_L2]
          rw [decide_eq_true (by omega), cond_true, decide_eq_false (by omega), cond_false, hr, bnd_some_eq]
          rfl
    · refine ⟨.brk (found, whole, (at' : Int)), run_done ?_, trivial⟩
      simp only [F_spec_R8Dominoes_L2]
      rw [decide_eq_false (by omega), cond_false]
/-! ### Dominoes drawn -/
def domD (d : GDomino) : Prop := symD d ∧ d.Top.length ≤ 3 ∧ d.Bottom.length ≤ 3
theorem dom_draw {c : List (Ik .u8)} {p0 : Gl00Src} (hc : p0.code = c) : ∀ (m : Nat) (a : Int) (sd : Ik .u64) (out : List GDomino) (n : Int), SrcOk ⟨c, a, sd⟩ n → n + 20 * m ≤ 1000000 → m ≤ 100 → out.length + m ≤ 1000 → (∀ d ∈ out, domD d) →
    ∃ rs a' sd', run (F_spec_l32DrawOk_L1 p0) (a, sd, out, (m : Int)) = some (.brk (a', sd', out ++ rs, 0)) ∧ rs.length = m ∧ (∀ d ∈ out ++ rs, domD d) ∧ SrcOk ⟨c, a', sd'⟩ (n + 20 * m) := by
  intro m
  induction m with
  | zero =>
    intro a sd out n h _ _ _ hl
    refine ⟨[], a, sd, run_done ?_, rfl, by rwa [List.append_nil], by simpa using h⟩
    simp only [F_spec_l32DrawOk_L1]
    rw [decide_eq_false (by omega), cond_false, List.append_nil]
    rfl
  | succ m ih =>
    intro a sd out n h hn hm ho hl
    obtain ⟨u, a1, sd1, e1, u1, u2, u3, k1⟩ := src_word 1 3 2 h (by omega) (by omega) (by omega) (by omega) (by omega)
    obtain ⟨v, a2, sd2, e2, v1, v2, v3, k2⟩ := src_word 0 3 2 k1 (by omega) (by omega) (by omega) (by omega) (by omega)
    simp only at e2 k2
    have hd : domD ⟨u, v⟩ := ⟨⟨fun x hx => by have := u1 x hx; omega, fun x hx => by have := v1 x hx; omega, by simp only; omega⟩, by simp only; omega, by simp only; omega⟩
    obtain ⟨rs, a', sd', e, l1, l2, l3⟩ := ih a2 sd2 (out ++ [⟨u, v⟩]) (n + 1 + 3 + 1 + 3) k2 (by omega) (by omega) (by simp; omega) (by
      intro x hx
      rcases List.mem_append.1 hx with hx | hx
      · exact hl x hx
      · rw [List.mem_singleton.1 hx]; exact hd)
    refine ⟨⟨u, v⟩ :: rs, a', sd', ?_, by simp [l1], by simpa using l2, l3.mono (by omega)⟩
    have hb : F_spec_l32DrawOk_L1 p0 (a, sd, out, ((m + 1 : Nat) : Int)) = some (.inl (a2, sd2, out ++ [⟨u, v⟩], (m : Int))) := by
      simp only [F_spec_l32DrawOk_L1]
      rw [decide_eq_true (by omega), cond_true, hc, e1, bnd_some_eq]
      simp only
      rw [e2, bnd_some_eq, app_ok (by simp; omega), bnd_some_eq, w64_in (by omega) (by omega), show ((m + 1 : Nat) : Int) - 1 = (m : Int) by omega]
    rw [run_next hb, e]
    simp
theorem doms_ok {ds : List GDomino} (h1 : 1 ≤ ds.length) (h2 : ds.length ≤ 80) (h : ∀ d ∈ ds, domD d) : domsB ds = true := by
  unfold domsB
  rw [decide_eq_true h1, decide_eq_true h2, Bool.true_and, Bool.true_and]
  exact List.all_eq_true.2 fun d hd => (h d hd).1.dom (by have := (h d hd).2.1; omega) (by have := (h d hd).2.2; omega)
theorem src_doms {s : Gl00Src} {n : Int} (h : SrcOk s n) (hn : n ≤ 100000) : ∃ ds a sd, F_spec_l32DrawOk s = some (ds, (a, sd)) ∧ domsB ds = true ∧ ds.length ≤ 80 ∧ SrcOk ⟨s.code, a, sd⟩ (n + 200) := by
  unfold F_spec_l32DrawOk
  obtain ⟨v, a1, sd1, e1, v0, v1, k1⟩ := src_pick 3 h (by omega) (by omega)
  rw [e1, bnd_some_eq]
  simp only
  by_cases hv : 0 < v
  · rw [decide_eq_true hv, cond_true]
    obtain ⟨u, a2, sd2, e2, u0, u1, k2⟩ := src_pick 6 k1 (by omega) (by omega)
    simp only at e2 k2
    have hlt : u.toNat < domTexts.length := by
      show u.toNat < 6
      omega
    obtain ⟨ds, hm, h1⟩ := read_doms (List.getElem_mem hlt)
    have et : F_spec_l00Src_text ⟨s.code, a1, sd1⟩ domTexts = some (domTexts[u.toNat], (a2, sd2)) := by
      unfold F_spec_l00Src_text
      show bnd (F_spec_l00Src_pick ⟨s.code, a1, sd1⟩ 6) _ = _
      rw [e2, bnd_some_eq]
      simp only
      have hi : idx domTexts u = some domTexts[u.toNat] := by
        have := idx_nat hlt
        rwa [show ((u.toNat : Nat) : Int) = u by omega] at this
      rw [hi, bnd_some_eq]
    show ∃ ds a sd, bnd (F_spec_l00Src_text ⟨s.code, a1, sd1⟩ domTexts) _ = some (ds, (a, sd)) ∧ _
    rw [et, bnd_some_eq]
    simp only
    rw [hm, bnd_some_eq]
    exact ⟨ds, a2, sd2, rfl, h1, (domsB_len h1).2, k2.mono (by omega)⟩
  · rw [decide_eq_false hv, cond_false]
    obtain ⟨u, a2, sd2, e2, u0, u1, k2⟩ := src_pick 4 k1 (by omega) (by omega)
    simp only at e2 k2
    rw [e2, bnd_some_eq]
    simp only
    obtain ⟨rs, a', sd', e, l1, l2, l3⟩ := dom_draw (p0 := s) rfl (1 + u).toNat a2 sd2 [] _ k2 (by omega) (by omega) (by simp; omega) (fun d hd => by simp at hd)
    rw [w64_in (n := 1 + u) (by omega) (by omega), show 1 + u = (((1 + u).toNat : Nat) : Int) by omega, e, bnd_some_eq]
    rw [List.nil_append] at l2
    simp only [Out.elim, List.nil_append]
    exact ⟨rs, a', sd', rfl, doms_ok (by omega) (by omega) l2, by omega, l3.mono (by omega)⟩
theorem match_draw {ds : List GDomino} (hd : 1 ≤ ds.length ∧ ds.length ≤ 80) {r1 : (List (Ik .u8)) × Int × (Ik .u64)} {x4 : Int × (Ik .u64)} : ∀ (m : Nat) (a : Int) (sd : Ik .u64) (out : List Int) (n : Int), SrcOk ⟨r1.1, a, sd⟩ n → n + m ≤ 1000000 → m ≤ 1000 → out.length + m ≤ 1000 → inD ds.length out →
    ∃ ws a' sd', run (F_spec_R8Dominoes_L1 r1 (ds, x4)) (a, sd, out, (m : Int)) = some (.brk (a', sd', out ++ ws, 0)) ∧ ws.length = m ∧ inD ds.length (out ++ ws) ∧ SrcOk ⟨r1.1, a', sd'⟩ (n + m) := by
  intro m
  induction m with
  | zero =>
    intro a sd out n h _ _ _ hl
    refine ⟨[], a, sd, run_done ?_, rfl, by rwa [List.append_nil], by simpa using h⟩
    simp only [F_spec_R8Dominoes_L1]
    rw [decide_eq_false (by omega), cond_false, List.append_nil]
    rfl
  | succ m ih =>
    intro a sd out n h hn hm ho hl
    obtain ⟨v, a1, sd1, e, h0, h1, h2⟩ := src_pick (ds.length : Int) h (by omega) (by omega)
    obtain ⟨ws, a', sd', e2, l1, l2, l3⟩ := ih a1 sd1 (out ++ [v]) (n + 1) h2 (by omega) (by omega) (by simp; omega) (by
      intro x hx
      rcases List.mem_append.1 hx with hx | hx
      · exact hl x hx
      · rw [List.mem_singleton.1 hx]; omega)
    refine ⟨v :: ws, a', sd', ?_, by simp [l1], by simpa using l2, l3.mono (by omega)⟩
    have hb : F_spec_R8Dominoes_L1 r1 (ds, x4) (a, sd, out, ((m + 1 : Nat) : Int)) = some (.inl (a1, sd1, out ++ [v], (m : Int))) := by
      simp only [F_spec_R8Dominoes_L1]
      rw [decide_eq_true (by omega), cond_true, e, bnd_some_eq, app_ok (by simp; omega), bnd_some_eq, w64_in (by omega) (by omega), show ((m + 1 : Nat) : Int) - 1 = (m : Int) by omega]
    rw [run_next hb, e2]
    simp
theorem src_r8Doms {c : List (Ik .u8)} (h : Bytes c) : ∃ ds ms, F_spec_R8Dominoes c = some (ds, ms) ∧ domsB ds = true ∧ rangeB ds.length ms = true ∧ Sml ds := by
  unfold F_spec_R8Dominoes F_spec_l00From
  rw [bnd_some_eq]
  obtain ⟨ds, a1, sd1, e1, hd, hl, k1⟩ := src_doms (s := ⟨c, 0, ⟨0⟩⟩) (n := 0) ⟨h, by simp, by simp⟩ (by omega)
  simp only at e1 k1 ⊢
  rw [e1, bnd_some_eq]
  simp only
  obtain ⟨v, a2, sd2, e2, v0, v1, k2⟩ := src_pick 5 k1 (by omega) (by omega)
  simp only at e2 k2
  rw [e2, bnd_some_eq]
  simp only
  have hdl := domsB_len hd
  obtain ⟨ws, a', sd', e3, l1, l2, l3⟩ := match_draw hdl (r1 := (c, 0, ⟨0⟩)) (x4 := (a1, sd1)) (1 + v).toNat a2 sd2 [] _ k2 (by omega) (by omega) (by simp; omega) (fun x hx => by simp at hx)
  rw [List.nil_append] at l2 e3
  rw [w64_in (n := 1 + v) (by omega) (by omega), show 1 + v = (((1 + v).toNat : Nat) : Int) by omega, e3, bnd_some_eq]
  simp only [Out.elim]
  have sd0 : Sml ds := ⟨by omega, fun d hd' => by
    have := domsB_mem hd hd'
    exact ⟨⟨by omega, fun _ _ => trivial⟩, ⟨by omega, fun _ _ => trivial⟩⟩⟩
  have hms : rangeB ds.length ws = true := by
    unfold rangeB
    rw [decide_eq_true (by omega), decide_eq_true (by omega), Bool.true_and, Bool.true_and]
    exact List.all_eq_true.2 fun y hy => inB_iff.2 (by have := l2 y hy; omega)
  rw [spec_doms ds sd0, hd, bnd_some_eq, Bool.not_true, cond_false]
  unfold F_spec_l05Budget
  rw [spec_in, show inB 40 1 20000 = true from rfl, bnd_some_eq, bnd_some_eq, Bool.not_true, cond_false, spec_in, w64_in (by omega) (by omega), show inB (-1) (-1) ((ds.length : Int) - 1) = true from inB_iff.2 (by omega), bnd_some_eq, Bool.not_true, cond_false]
  obtain ⟨r, hr, hg⟩ := outer_run hd (r1 := (c, 0, ⟨0⟩)) (x4 := (a1, sd1)) (a := a') (sd := sd') (n10 := 0) ⟨_, l3, by omega⟩ hms 41 0 [⟨[], false, -1, -1⟩] true (by omega) (by omega) ⟨by simp, by simp, fun i hi => by
    have : i = 0 := by simpa using hi
    subst this
    exact ⟨by simp, by simp, by simp, fun h => by simp at h⟩⟩
  rw [show ((0 : Nat) : Int) = 0 from rfl] at hr
  rw [hr, bnd_some_eq]
  cases r with
  | brk s =>
    simp only [Out.elim]
    exact ⟨ds, ws, by cases s.2.1 <;> rfl, hd, hms, sd0⟩
  | ret r =>
    obtain ⟨ms, e, hm⟩ := hg
    simp only [Out.elim]
    exact ⟨ds, ms, e, hd, hm, sd0⟩
end Go.Fn
