/-
  The plain law of FnTilings. No program in sight. No condition.
-/
import Derived.Test.YtgojoooilijiiaaPTilI
namespace Go.Fn
open Go Go.Tc
theorem src_size2 {s : Gl00Src} {n : Int} (h : SrcOk s n) (hn : n ≤ 1000000000) {p1 p2 : Int} (h1 : 2 ≤ p1 ∧ p1 ≤ 6) (h2 : 1 ≤ p2 ∧ p2 ≤ 100) : ∃ m a sd, F_spec_l05DrawSize s p1 p2 = some (m, (a, sd)) ∧ machB m = true ∧ m.Symbols = p1 ∧ m.States = p2 ∧ SrcOk ⟨s.code, a, sd⟩ (n + 2400) := by
  have h3 : 0 ≤ p1 * p2 := Int.mul_nonneg (by omega) (by omega)
  have h4 : p1 * p2 ≤ 600 := by
    have g1 : p1 * p2 ≤ 6 * p2 := Int.mul_le_mul_of_nonneg_right h1.2 (by omega)
    omega
  obtain ⟨rs, a', sd', e, l1, l2, l3⟩ := drawSize_run (p0 := s) rfl h1 h2 (p1 * p2).toNat s.at_ s.seed [] n h (by omega) (by omega) (by simp; omega) (fun x hx => by simp at hx)
  rw [show (((p1 * p2).toNat : Nat) : Int) = p1 * p2 by omega] at e
  rw [List.nil_append] at e l2
  unfold F_spec_l05DrawSize
  rw [w64_in (by omega) (by omega), e, bnd_some_eq]
  refine ⟨⟨p1, p2, rs⟩, a', sd', rfl, ?_, rfl, rfl, l3.mono (by omega)⟩
  unfold machB
  have g1 : inB p1 2 6 = true := inB_iff.2 h1
  have g2 : inB p2 1 1000 = true := inB_iff.2 (by omega)
  simp only
  rw [g1, g2, decide_eq_true (by omega), Bool.true_and, Bool.true_and]
  exact List.all_eq_true.2 l2
theorem bits_run {X : Type} {c : List (Ik .u8)} {body : Int × (Ik .u64) × (List Int) × Int → Option ((Int × (Ik .u64) × (List Int) × Int) ⊕ Out (Int × (Ik .u64) × (List Int) × Int) X)}
    (hb : ∀ s : Int × (Ik .u64) × (List Int) × Int, body s = (cond (decide (0 < s.2.2.2)) (bnd (F_spec_l00Src_pick (⟨c, s.1, s.2.1⟩ : Gl00Src) 2) fun r => bnd (app s.2.2.1 ([r.1] : List Int)) fun z => some (.inl (r.2.1, r.2.2, z, (w64 (s.2.2.2 - 1))))) (some (.inr (.brk (s.1, s.2.1, s.2.2.1, s.2.2.2)))))) :
    ∀ (m : Nat) (a : Int) (sd : Ik .u64) (out : List Int) (n : Int), SrcOk ⟨c, a, sd⟩ n → n + m ≤ 1099511627776 → m ≤ 1000 → out.length + m ≤ 1000 →
    ∃ ws a' sd', run body (a, sd, out, (m : Int)) = some (.brk (a', sd', out ++ ws, 0)) ∧ ws.length = m ∧ Let 2 ws ∧ SrcOk ⟨c, a', sd'⟩ (n + m) := by
  intro m
  induction m with
  | zero =>
    intro a sd out n h _ _ _
    refine ⟨[], a, sd, run_done ?_, rfl, fun x hx => by simp at hx, by simpa using h⟩
    rw [hb]
    simp only
    rw [decide_eq_false (by omega), cond_false, List.append_nil]
    rfl
  | succ m ih =>
    intro a sd out n h hn hm ho
    obtain ⟨v, a1, sd1, e, h0, h1, h2⟩ := src_pick 2 h (by omega) (by omega)
    obtain ⟨ws, a', sd', e2, l1, l2, l3⟩ := ih a1 sd1 (out ++ [v]) (n + 1) h2 (by omega) (by omega) (by simp; omega)
    refine ⟨v :: ws, a', sd', ?_, by simp [l1], ?_, l3.mono (by omega)⟩
    · have hb' : body (a, sd, out, ((m + 1 : Nat) : Int)) = some (.inl (a1, sd1, out ++ [v], (m : Int))) := by
        rw [hb]
        simp only
        rw [decide_eq_true (by omega), cond_true, e, bnd_some_eq, app_ok (by simp; omega), bnd_some_eq, w64_in (by omega) (by omega), show ((m + 1 : Nat) : Int) - 1 = (m : Int) by omega]
      rw [run_next hb', e2]
      simp
    · intro x hx
      rcases List.mem_cons.1 hx with rfl | hx
      · exact ⟨h0, by omega⟩
      · exact l2 x hx
theorem src_r8Row {c : List (Ik .u8)} (h : Bytes c) : ∃ m x s q W A, F_spec_R8Row c = some (m, x, ((W : Nat) : Int), ((A : Nat) : Int)) ∧ Row0 m s q W A x := by
  unfold F_spec_R8Row F_spec_l00From
  rw [bnd_some_eq]
  obtain ⟨v1, a1, sd1, e1, l1, u1, k1⟩ := src_pick (s := ⟨c, 0, ⟨0⟩⟩) (n := 0) 3 ⟨h, by simp, by simp⟩ (by omega) (by omega)
  simp only at e1 k1 ⊢
  rw [e1, bnd_some_eq]
  simp only
  rw [w64_in (n := 1 + v1) (by omega) (by omega)]
  obtain ⟨m, a2, sd2, e2, hm, hS, hQ, k2⟩ := src_size2 k1 (by omega) (p1 := 2) (p2 := 1 + v1) (by omega) (by omega)
  simp only at e2 k2
  rw [e2, bnd_some_eq]
  simp only
  obtain ⟨v3, a3, sd3, e3, l3, u3, k3⟩ := src_pick m.States k2 (by omega) (by omega)
  simp only at e3 k3
  rw [e3, bnd_some_eq]
  simp only
  obtain ⟨v4, a4, sd4, e4, l4, u4, k4⟩ := src_pick 3 k3 (by omega) (by omega)
  simp only at e4 k4
  rw [e4, bnd_some_eq]
  simp only
  obtain ⟨xs, a5, sd5, e5, xl, xb, k5⟩ := bits_run (c := c) (body := F_spec_R8Row_L1 (c, 0, ⟨0⟩)) (fun s => rfl) v4.toNat a4 sd4 [] _ k4 (by omega) (by omega) (by simp; omega)
  rw [show ((v4.toNat : Nat) : Int) = v4 by omega, List.nil_append] at e5
  rw [e5, bnd_some_eq]
  simp only [Out.elim]
  obtain ⟨v6, a6, sd6, e6, l6, u6, k6⟩ := src_pick 3 k5 (by omega) (by omega)
  simp only at e6 k6
  rw [e6, bnd_some_eq]
  simp only
  obtain ⟨ys, a7, sd7, e7, yl, yb, k7⟩ := bits_run (c := c) (body := F_spec_R8Row_L2 (c, 0, ⟨0⟩)) (fun s => rfl) v6.toNat a6 sd6 [] _ k6 (by omega) (by omega) (by simp; omega)
  rw [show ((v6.toNat : Nat) : Int) = v6 by omega, List.nil_append] at e7
  rw [e7, bnd_some_eq]
  simp only [Out.elim]
  rw [spec_trim _ (by omega), bnd_some_eq, spec_trim _ (by omega), bnd_some_eq]
  obtain ⟨v8, a8, sd8, e8, l8, u8, k8⟩ := src_pick 5 k7 (by omega) (by omega)
  simp only at e8 k8
  rw [e8, bnd_some_eq]
  simp only
  obtain ⟨v9, a9, sd9, e9, l9, u9, k9⟩ := src_pick 2 k8 (by omega) (by omega)
  simp only at e9 k9
  rw [e9, bnd_some_eq]
  simp only
  obtain ⟨s, q, M⟩ := machB_mai hm
  have hs := M.hs
  have hq := M.hq
  have t1 := trimL_len xs
  have t2 := trimL_len ys
  refine ⟨m, ⟨v3, trimL xs, trimL ys⟩, s, q, (5 + v8).toNat, (2 + v9).toNat, ?_, ?_⟩
  · rw [w64_in (n := 5 + v8) (by omega) (by omega), w64_in (n := 2 + v9) (by omega) (by omega), show (((5 + v8).toNat : Nat) : Int) = 5 + v8 by omega, show (((2 + v9).toNat : Nat) : Int) = 2 + v9 by omega]
  · refine ⟨hm, ?_, M, by omega, by omega, by omega, by omega, by omega, ?_, ?_⟩
    · unfold confB
      simp only
      rw [hS, sideB_trim _ xs rfl (by omega) xb, sideB_trim _ ys rfl (by omega) yb, Bool.and_true, Bool.and_true]
      exact inB_iff.2 (by omega)
    · simp only
      omega
    · simp only
      omega
theorem r8_lists {xs : List (List Int)} (h : xs.length ≤ 1048576) (h2 : ∀ x ∈ xs, x.length ≤ 1048576) : F_laws_r8Lists xs xs = some true := by
  unfold F_laws_r8Lists
  rw [decide_eq_false (by simp), cond_false, run_allp xs (by omega) (fun _ => true) (.ret false) (.brk (xs.length : Int)) (fun i hi => by
    simp only [F_laws_r8Lists_L1, Int.ofNat_lt, hi, decide_true, cond_true, idx_nat hi, bnd_some_eq]
    rw [r8_same _ (h2 _ (List.getElem_mem hi)), bnd_some_eq, Bool.not_true, cond_false]) (by simp [F_laws_r8Lists_L1])]
  have e : (xs.all fun _ => true) = true := by simp
  rw [e]
  rfl
theorem tilings_loop {l : List GConfig} (k1 k2 : Int) (h : l.length ≤ 1048576) (h2 : ∀ x ∈ l, x.Left.length ≤ 1048576 ∧ x.Right.length ≤ 1048576) : run (F_laws_FnTilings_L1 (l, k1) (l, k2)) 0 = some (.brk (l.length : Int)) := by
  rw [run_allp l (by omega) (fun _ => true) (.ret false) (.brk (l.length : Int)) (fun i hi => by
    simp only [F_laws_FnTilings_L1, Int.ofNat_lt, hi, decide_true, cond_true, idx_nat hi, bnd_some_eq]
    rw [r8_config _ (h2 _ (List.getElem_mem hi)).1 (h2 _ (List.getElem_mem hi)).2, bnd_some_eq, Bool.not_true, cond_false]) (by simp [F_laws_FnTilings_L1])]
  have e : (l.all fun _ => true) = true := by simp
  rw [e]
  rfl
theorem law_Tilings (c d : List (Ik .u8)) (w0 : Wf.wf c) (w1 : Wf.wf d) : F_laws_FnTilings c d = some true := by
  unfold F_laws_FnTilings
  rw [r8_long, bnd_some_eq]
  by_cases hl : 1048576 < c.length
  · rw [decide_eq_true hl, Bool.true_or, cond_true]
  rw [decide_eq_false hl, Bool.false_or]
  by_cases hl2 : 1048576 < d.length
  · rw [decide_eq_true hl2, cond_true]
  rw [decide_eq_false hl2, cond_false]
  have hc := bytes_of w0 (by omega)
  have hd := bytes_of w1 (by omega)
  obtain ⟨m, x, s, q, W, A, e1, R⟩ := src_r8Row hc
  obtain ⟨u, e2, u0, u1⟩ := r8_at hd 0 (n := 5) (by omega)
  rw [show ((0 : Nat) : Int) = 0 from rfl] at e2
  rw [e1, bnd_some_eq, e2, bnd_some_eq]
  simp only
  have ea : w64 (1 + u) = (((1 + u).toNat : Nat) : Int) := by rw [w64_in (by omega) (by omega)]; omega
  rw [ea]
  have a1 : 1 ≤ (1 + u).toNat ∧ (1 + u).toNat ≤ 5 := by omega
  generalize (1 + u).toNat = T at a1
  have hm := R.hm
  have M := R.M
  have bl := R.bl
  have tl := R.tl
  have W9 := R.W9
  have W1 := R.W1
  have hv := R.valid
  have hf := R.frame
  have H := tilings_run M (bs := botR m x W A) T A 200 x [] R.fit.cf.cf (by rw [bl]; exact R.hA) (by simp) (fun j hj => by
    unfold underR
    rw [List.flatten_nil, List.length_nil, if_pos rfl, bl])
  rw [bl, List.flatten_nil] at H
  obtain ⟨H1, H2, H3⟩ := H
  have hcost : costT (tilesM m s q) (botR m x W A) (W * T) [] ≤ 20000 := by
    have g1 : W * (tilesM m s q).length ≤ 9 * 20 := Nat.mul_le_mul W9 tl.2
    have g2 : T * (W * (tilesM m s q).length) ≤ 5 * (9 * 20) := Nat.mul_le_mul a1.2 g1
    omega
  have hcnt := impl_countT (B := 20000) (k := T) hv hf (by omega) (by omega)
  have hsol := impl_solveT (B := 20000) (k := T) hv hf (by omega) (by omega)
  rw [bl] at hcnt hsol
  rw [impl_tilesOf R, bnd_some_eq, impl_rowOf R, bnd_some_eq, impl_tilingRun R (T := T) (by omega) (by omega), bnd_some_eq]
  simp only
  by_cases h0 : (goT m (tilesM m s q) W T A x []).2 = 0
  · have hs := H1 h0
    obtain ⟨news, tl', l, g1, g2, g3, g4, g5, g6, g7⟩ := run_tops M (by omega) T A x [] R.fit h0
    rw [List.nil_append] at g1
    have hgo : goT m (tilesM m s q) W T A x [] = (news, 0) := Prod.ext g1 h0
    rw [hgo] at hs ⊢
    rw [hs] at hcnt hsol
    have hfl : cutR W news.flatten T = news := by
      rw [← g2]
      exact cut_flat g3
    have hP : news.flatten.length = W * T := by
      rw [List.length_flatten, ← g2]
      have : ∀ rs : List (List Int), (∀ r ∈ rs, r.length = W) → (rs.map List.length).sum = W * rs.length := by
        intro rs
        induction rs with
        | nil => intro _; rfl
        | cons y ys ih =>
          intro h
          rw [List.map_cons, List.sum_cons, ih (fun r hr => h r (List.mem_cons_of_mem _ hr)), h y (List.mem_cons_self ..), List.length_cons, Nat.mul_succ]
          omega
      exact this news g3
    have hsv := (hsol hcost).2 _ _ rfl hP
    rw [hfl] at hsv
    rw [show (20000 : Int) = ((20000 : Nat) : Int) from rfl, hcnt hcost (by simp), bnd_some_eq, hsv]
    have sn : Sml news := ⟨by omega, fun r hr => ⟨by rw [g3 r hr]; omega, fun _ _ => trivial⟩⟩
    obtain ⟨hlen, hget⟩ := topsOk_get g7
    have hrt := impl_runTl R (rows := news) (by omega) sn g4 g7
    have htr := impl_trace hm R.hc (n := T) (by omega)
    rw [g5] at htr
    have htp := impl_topOf hv hf (rows := news) (by omega) sn g4
    have hit := impl_tiling (tilesM m s q) (botR m x W A) news (by omega) (by omega) sn
    have hfw : fewB news = true := by
      unfold fewB
      rw [decide_eq_true (by omega), decide_eq_true (by omega)]
      rfl
    rw [hv, hf, hfw, g4] at hit
    have hcl : ∀ y ∈ x :: l, y.Left.length ≤ 1048576 ∧ y.Right.length ≤ 1048576 := by
      intro y hy
      rcases List.mem_cons.1 hy with rfl | hy
      · have h1 := R.fit.hl
        have h2 := R.fit.hr
        have h3 := R.hA
        omega
      · obtain ⟨i, hi, rfl⟩ := List.mem_iff_getElem.1 hy
        obtain ⟨B, _, hB⟩ := hget i (by omega) hi
        have h1 := hB.hl
        have h2 := hB.hr
        have h3 := hB.hA
        omega
    have hloop := tilings_loop (l := x :: l) 0 0 (by simp; omega) hcl
    simp only
    rw [impl_valid _ (by omega), hv]
    simp only [ne_eq, not_true, decide_false, cond_false, bnd_some_eq, Bool.not_true, Out.elim]
    rw [hrt, bnd_some_eq, htr, bnd_some_eq]
    simp only [ne_eq, not_true, decide_false, cond_false, bnd_some_eq, Bool.not_true]
    rw [r8_lists (by omega) (fun r hr => by rw [g3 r hr]; omega), bnd_some_eq, hit, bnd_some_eq]
    have hx1 : w64 ((T : Int) + 1) = ((x :: l).length : Int) := by rw [w64_in (by omega) (by omega), List.length_cons]; omega
    rw [hx1, hloop, htp]
    simp only [List.length_singleton, ne_eq, not_true, decide_false, cond_false, cond_true, bnd_some_eq, Bool.not_true, Bool.and_self, Option.isSome_some, Out.elim, decide_true, show ((1 : Nat) : Int) = 1 from rfl]
    obtain ⟨B, eB, hB⟩ := hget (l.length - 1) (by omega) (by omega)
    have hlast : tl'.getLastD (botR m x W A) = botR m (l[l.length - 1]'(by omega)) W B := by
      rw [List.getLastD_eq_getLast?, List.getLast?_eq_getElem?, List.getElem?_eq_getElem (by omega), Option.getD_some, ← eB]
      congr 1
      omega
    have hbl : (botR m (l[l.length - 1]'(by omega)) W B).length = W := by unfold botR; rw [List.length_set, rowC_len]
    have hi : idx (x :: l) (T : Int) = some (l[l.length - 1]'(by omega)) := by
      have : T < (x :: l).length := by rw [List.length_cons]; omega
      rw [idx_nat this]
      congr 1
      rw [List.getElem_cons, dif_neg (by omega)]
      congr 1
      omega
    rw [hlast, impl_confRow hm M (by omega), bnd_some_eq, confP_bot M hB, hi, bnd_some_eq]
    simp only [decide_true, cond_true]
    have hy := hcl (l[l.length - 1]'(by omega)) (List.mem_cons_of_mem _ (List.getElem_mem _))
    rw [r8_config _ hy.1 hy.2]
    rfl
  · obtain ⟨hs, hgo⟩ := H2 h0
    rw [hgo]
    rw [hs] at hcnt hsol
    rw [show (20000 : Int) = ((20000 : Nat) : Int) from rfl, hcnt hcost (by simp), bnd_some_eq, (hsol hcost).1 rfl]
    simp only
    rw [impl_valid _ (by omega), hv]
    rfl
end Go.Fn
