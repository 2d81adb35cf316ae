/-
  Machines and their configurations drawn out of bytes are good ones. No program in sight. No condition.
-/
import Derived.Test.YtabpcmbohmodnaaPKnown
namespace Go.Fn
open Go Go.Tc
theorem noR_ruleB (s q : Int) : ruleB s q noR = true := by
  unfold ruleB
  rw [decide_eq_true rfl, Bool.true_or]
theorem drawSize_run {c : List (Ik .u8)} {p0 : Gl00Src} (hc : p0.code = c) {p1 p2 : Int} (h1 : 2 ≤ p1 ∧ p1 ≤ 6) (h2 : 1 ≤ p2 ∧ p2 ≤ 100) : ∀ (m : Nat) (a : Int) (sd : Ik .u64) (out : List GRule) (n : Int), SrcOk ⟨c, a, sd⟩ n → n + 4 * m ≤ 1099511627776 → m ≤ 1000 → out.length + m ≤ 1000 → (∀ r ∈ out, ruleB p1 p2 r = true) →
    ∃ rs a' sd', run (F_spec_l05DrawSize_L1 p0 p1 p2) (a, sd, out, (m : Int)) = some (.brk (a', sd', out ++ rs, 0)) ∧ rs.length = m ∧ (∀ r ∈ out ++ rs, ruleB p1 p2 r = true) ∧ SrcOk ⟨c, a', sd'⟩ (n + 4 * m) := by
  intro m
  induction m with
  | zero =>
    intro a sd out n h _ _ _ hl
    refine ⟨[], a, sd, run_done ?_, rfl, by rwa [List.append_nil], by simpa using h⟩
    simp only [F_spec_l05DrawSize_L1]
    rw [decide_eq_false (by omega), cond_false, List.append_nil]
    rfl
  | succ m ih =>
    intro a sd out n h hn hm ho hl
    obtain ⟨v, a1, sd1, e1, v0, v1, k1⟩ := src_pick p1 h (by omega) (by omega)
    obtain ⟨u, a2, sd2, e2, u0, u1, k2⟩ := src_pick 2 k1 (by omega) (by omega)
    obtain ⟨t, a3, sd3, e3, t0, t1, k3⟩ := src_pick p2 k2 (by omega) (by omega)
    obtain ⟨b, a4, sd4, e4, k4⟩ := src_one 7 k3 (by omega) (by omega)
    simp only at e2 e3 e4 k4
    have step : ∀ r : GRule, ruleB p1 p2 r = true → F_spec_l05DrawSize_L1 p0 p1 p2 (a, sd, out, ((m + 1 : Nat) : Int)) = some (.inl (a4, sd4, out ++ [r], (m : Int))) → ∃ rs a' sd', run (F_spec_l05DrawSize_L1 p0 p1 p2) (a, sd, out, ((m + 1 : Nat) : Int)) = some (.brk (a', sd', out ++ rs, 0)) ∧ rs.length = m + 1 ∧ (∀ r ∈ out ++ rs, ruleB p1 p2 r = true) ∧ SrcOk ⟨c, a', sd'⟩ (n + 4 * ((m + 1 : Nat) : Int)) := by
      intro r hr hb
      obtain ⟨rs, a', sd', e5, l1, l2, l3⟩ := ih a4 sd4 (out ++ [r]) (n + 1 + 1 + 1 + 1) k4 (by omega) (by omega) (by simp; omega) (by
        intro x hx
        rcases List.mem_append.1 hx with hx | hx
        · exact hl x hx
        · rw [List.mem_singleton.1 hx]; exact hr)
      refine ⟨r :: rs, a', sd', ?_, by simp [l1], by simpa using l2, l3.mono (by omega)⟩
      rw [run_next hb, e5]
      simp
    have hd : ((m + 1 : Nat) : Int) - 1 = (m : Int) := by omega
    cases b with
    | true =>
      refine step noR (noR_ruleB _ _) ?_
      simp only [F_spec_l05DrawSize_L1]
      rw [decide_eq_true (by omega), cond_true, hc, e1, bnd_some_eq, e2, bnd_some_eq, e3, bnd_some_eq, e4, bnd_some_eq, cond_true, show F_spec_l05None = some noR from rfl, bnd_some_eq, app_ok (by simp; omega), bnd_some_eq, w64_in (by omega) (by omega), hd]
    | false =>
      refine step ⟨v, 2 * u - 1, t⟩ ?_ ?_
      · unfold ruleB
        have g1 : inB v 0 (p1 - 1) = true := inB_iff.2 (by omega)
        have g2 : inB t 0 (p2 - 1) = true := inB_iff.2 (by omega)
        simp only
        rw [g1, g2, Bool.true_and, Bool.and_true]
        rcases (show u = 0 ∨ u = 1 by omega) with rfl | rfl
        · rw [show decide ((2 * 0 - 1 : Int) = -1) = true from rfl, Bool.or_true, Bool.or_true]
        · rw [show decide ((2 * 1 - 1 : Int) = 1) = true from rfl, Bool.true_or, Bool.or_true]
      · simp only [F_spec_l05DrawSize_L1]
        rw [decide_eq_true (by omega), cond_true, hc, e1, bnd_some_eq, e2, bnd_some_eq, e3, bnd_some_eq, e4, bnd_some_eq, cond_false]
        simp only
        rw [w64_in (n := 2 * u) (by omega) (by omega), w64_in (n := 2 * u - 1) (by omega) (by omega), app_ok (by simp; omega), bnd_some_eq, w64_in (by omega) (by omega), hd]
theorem src_size {s : Gl00Src} {n : Int} (h : SrcOk s n) (hn : n ≤ 1000000000) {p1 p2 : Int} (h1 : 2 ≤ p1 ∧ p1 ≤ 6) (h2 : 1 ≤ p2 ∧ p2 ≤ 100) : ∃ m a sd, F_spec_l05DrawSize s p1 p2 = some (m, (a, sd)) ∧ machB m = true ∧ m.States ≤ 100 ∧ SrcOk ⟨s.code, a, sd⟩ (n + 2400) := by
  have h3 : 0 ≤ p1 * p2 := Int.mul_nonneg (by omega) (by omega)
  have h4 : p1 * p2 ≤ 600 := by
    have g1 : p1 * p2 ≤ 6 * p2 := Int.mul_le_mul_of_nonneg_right h1.2 (by omega)
    omega
  obtain ⟨rs, a', sd', e, l1, l2, l3⟩ := drawSize_run (p0 := s) rfl h1 h2 (p1 * p2).toNat s.at_ s.seed [] n h (by omega) (by omega) (by simp; omega) (fun x hx => by simp at hx)
  rw [show (((p1 * p2).toNat : Nat) : Int) = p1 * p2 by omega] at e
  rw [List.nil_append] at e l2
  unfold F_spec_l05DrawSize
  rw [w64_in (by omega) (by omega), e, bnd_some_eq]
  refine ⟨⟨p1, p2, rs⟩, a', sd', rfl, ?_, h2.2, l3.mono (by omega)⟩
  unfold machB
  have g1 : inB p1 2 6 = true := inB_iff.2 h1
  have g2 : inB p2 1 1000 = true := inB_iff.2 (by omega)
  simp only
  rw [g1, g2, decide_eq_true (by omega), Bool.true_and, Bool.true_and]
  exact List.all_eq_true.2 l2
theorem src_known {s : Gl00Src} {n : Int} (h : SrcOk s n) (hn : n ≤ 1000000000) : ∃ m a sd, F_spec_l05Known s = some (m, (a, sd)) ∧ machB m = true ∧ m.States ≤ 100 ∧ SrcOk ⟨s.code, a, sd⟩ (n + 1) := by
  obtain ⟨v, a, sd, e, v0, v1, k⟩ := src_pick 8 h (by omega) (by omega)
  have hlt : v.toNat < knownL.length := by
    show v.toNat < 8
    omega
  obtain ⟨m, hm, h1, h2⟩ := read_known (List.getElem_mem hlt)
  have et : F_spec_l00Src_text s knownL = some (knownL[v.toNat], (a, sd)) := by
    unfold F_spec_l00Src_text
    show bnd (F_spec_l00Src_pick s 8) _ = _
    rw [e, bnd_some_eq]
    simp only
    have hi : idx knownL v = some knownL[v.toNat] := by
      have := idx_nat hlt
      rwa [show ((v.toNat : Nat) : Int) = v by omega] at this
    rw [hi, bnd_some_eq]
  refine ⟨m, a, sd, ?_, h1, h2, k⟩
  unfold F_spec_l05Known
  show bnd (F_spec_l00Src_text s knownL) _ = _
  rw [et, bnd_some_eq]
  simp only
  rw [hm, bnd_some_eq]
theorem src_drawOk {s : Gl00Src} {n : Int} (h : SrcOk s n) (hn : n ≤ 100000000) : ∃ m a sd, F_spec_l05DrawOk s = some (m, (a, sd)) ∧ machB m = true ∧ m.States ≤ 100 ∧ SrcOk ⟨s.code, a, sd⟩ (n + 2410) := by
  unfold F_spec_l05DrawOk
  obtain ⟨b, a1, sd1, e1, k1⟩ := src_one 4 h (by omega) (by omega)
  rw [e1, bnd_some_eq]
  cases b with
  | true =>
    obtain ⟨m, a, sd, e, h1, h2, k⟩ := src_known k1 (by omega)
    simp only at e ⊢
    rw [cond_true, e, bnd_some_eq]
    exact ⟨m, a, sd, rfl, h1, h2, k.mono (by omega)⟩
  | false =>
    obtain ⟨b, a2, sd2, e2, k2⟩ := src_one 4 k1 (by omega) (by omega)
    simp only at e2 k2 ⊢
    rw [cond_false, e2, bnd_some_eq]
    cases b with
    | true =>
      obtain ⟨v, a3, sd3, e3, v0, v1, k3⟩ := src_pick 3 k2 (by omega) (by omega)
      obtain ⟨u, a4, sd4, e4, u0, u1, k4⟩ := src_pick 4 k3 (by omega) (by omega)
      simp only at e3 e4 k4 ⊢
      rw [cond_true, e3, bnd_some_eq]
      simp only
      rw [e4, bnd_some_eq]
      simp only
      rw [w64_in (n := 2 + v) (by omega) (by omega), w64_in (n := 1 + u) (by omega) (by omega)]
      obtain ⟨m, a, sd, e, h1, h2, k⟩ := src_size k4 (by omega) (p1 := 2 + v) (p2 := 1 + u) (by omega) (by omega)
      simp only at e k ⊢
      rw [e, bnd_some_eq]
      exact ⟨m, a, sd, rfl, h1, h2, k.mono (by omega)⟩
    | false =>
      obtain ⟨u, a4, sd4, e4, u0, u1, k4⟩ := src_pick 4 k2 (by omega) (by omega)
      simp only at e4 k4 ⊢
      rw [cond_false, e4, bnd_some_eq]
      simp only
      rw [w64_in (n := 1 + u) (by omega) (by omega)]
      obtain ⟨m, a, sd, e, h1, h2, k⟩ := src_size k4 (by omega) (p1 := 2) (p2 := 1 + u) (by omega) (by omega)
      simp only at e k ⊢
      rw [e, bnd_some_eq]
      exact ⟨m, a, sd, rfl, h1, h2, k.mono (by omega)⟩
theorem drawCells_run {c : List (Ik .u8)} {p0 : Gl00Src} (hc : p0.code = c) (p1 : GMachine) (hk : 1 ≤ p1.Symbols ∧ p1.Symbols ≤ 200) : ∀ (m : Nat) (a : Int) (sd : Ik .u64) (out : List Int) (n : Int), SrcOk ⟨c, a, sd⟩ n → n + m ≤ 1099511627776 → m ≤ 1000 → out.length + m ≤ 1000 →
    ∃ ws a' sd', run (F_spec_l05DrawCells_L1 p0 p1) (a, sd, out, (m : Int)) = some (.brk (a', sd', out ++ ws, 0)) ∧ ws.length = m ∧ Let p1.Symbols ws ∧ SrcOk ⟨c, a', sd'⟩ (n + m) := by
  intro m
  induction m with
  | zero =>
    intro a sd out n h _ _ _
    refine ⟨[], a, sd, run_done ?_, rfl, fun x hx => by simp at hx, by simpa using h⟩
    simp only [F_spec_l05DrawCells_L1]
    rw [decide_eq_false (by omega), cond_false, List.append_nil]
    rfl
  | succ m ih =>
    intro a sd out n h hn hm ho
    obtain ⟨v, a1, sd1, e, h0, h1, h2⟩ := src_pick p1.Symbols h (by omega) hk.2
    have hv : 0 ≤ v ∧ v < p1.Symbols := ⟨h0, by omega⟩
    obtain ⟨ws, a', sd', e2, l1, l2, l3⟩ := ih a1 sd1 (out ++ [v]) (n + 1) h2 (by omega) (by omega) (by simp; omega)
    refine ⟨v :: ws, a', sd', ?_, by simp [l1], ?_, l3.mono (by omega)⟩
    · have hb : F_spec_l05DrawCells_L1 p0 p1 (a, sd, out, ((m + 1 : Nat) : Int)) = some (.inl (a1, sd1, out ++ [v], (m : Int))) := by
        simp only [F_spec_l05DrawCells_L1]
        rw [decide_eq_true (by omega), cond_true, hc, e, bnd_some_eq, app_ok (by simp; omega), bnd_some_eq, w64_in (by omega) (by omega), show ((m + 1 : Nat) : Int) - 1 = (m : Int) by omega]
      rw [run_next hb, e2]
      simp
    · intro x hx
      rcases List.mem_cons.1 hx with rfl | hx
      · exact hv
      · exact l2 x hx
theorem sideB_trim {s : Int} : ∀ (n : Nat) (xs : List Int), xs.length = n → n ≤ 200 → Let s xs → sideB s (trimL xs) = true := by
  intro n
  induction n with
  | zero =>
    intro xs hn _ _
    obtain rfl := List.eq_nil_of_length_eq_zero hn
    rfl
  | succ n ih =>
    intro xs hn h2 hl
    rcases snoc_cases xs with rfl | ⟨ys, y, rfl⟩
    · simp at hn
    · rw [trimL_snoc]
      by_cases h : y = 0
      · rw [if_pos h]
        exact ih ys (by simpa using hn) (by omega) (fun x hx => hl x (List.mem_append_left _ hx))
      · rw [if_neg h]
        unfold sideB
        rw [decide_eq_true (by omega), Bool.true_and, Bool.and_eq_true]
        refine ⟨List.all_eq_true.2 fun x hx => inB_iff.2 ?_, ?_⟩
        · have := hl x hx
          omega
        · rw [decide_eq_true (show (ys ++ [y]).getLastD 0 ≠ 0 by simpa using h), Bool.or_true]
theorem src_cells {s : Gl00Src} {n : Int} (m : GMachine) (h : SrcOk s n) (hn : n ≤ 100000000) (hs : 2 ≤ m.Symbols ∧ m.Symbols ≤ 6) : ∃ xs a sd, F_spec_l05DrawCells s m = some (xs, (a, sd)) ∧ sideB m.Symbols xs = true ∧ SrcOk ⟨s.code, a, sd⟩ (n + 210) := by
  unfold F_spec_l05DrawCells
  obtain ⟨v, a1, sd1, e1, v0, v1, k1⟩ := src_pick 5 h (by omega) (by omega)
  obtain ⟨ws, a2, sd2, e2, l1, l2, k2⟩ := drawCells_run (p0 := s) rfl m (by omega) v.toNat a1 sd1 [] (n + 1) k1 (by omega) (by omega) (by simp; omega)
  rw [show ((v.toNat : Nat) : Int) = v by omega, List.nil_append] at e2
  obtain ⟨b, a3, sd3, e3, k3⟩ := src_one 40 k2 (by omega) (by omega)
  rw [e1, bnd_some_eq]
  simp only
  rw [e2, bnd_some_eq]
  simp only [Out.elim]
  rw [e3, bnd_some_eq]
  cases b with
  | false =>
    rw [cond_false, spec_trim _ (by omega), bnd_some_eq]
    exact ⟨_, _, _, rfl, sideB_trim _ ws rfl (by omega) l2, k3.mono (by omega)⟩
  | true =>
    obtain ⟨u, a4, sd4, e4, u0, u1, k4⟩ := src_pick 2 k3 (by omega) (by omega)
    simp only at e4 k4
    rw [cond_true]
    simp only
    rw [e4, bnd_some_eq]
    simp only
    rw [w64_in (n := 199 + u) (by omega) (by omega)]
    obtain ⟨xs, a5, sd5, e5, j1, j2, k5⟩ := drawCells_run (p0 := s) rfl ⟨2, 0, []⟩ (by decide) (199 + u).toNat a4 sd4 ws _ k4 (by omega) (by omega) (by omega)
    rw [show (((199 + u).toNat : Nat) : Int) = 199 + u by omega] at e5
    rw [show run (F_spec_l05DrawCells_L2 s) = run (F_spec_l05DrawCells_L1 s ⟨2, 0, []⟩) from rfl, e5, bnd_some_eq]
    simp only [Out.elim]
    have hsl : slc (ws ++ xs) 0 199 = some ((ws ++ xs).take 199) := slc0 (hi := 199) (by rw [List.length_append]; omega)
    have hlen : ((ws ++ xs).take 199).length ≤ 199 := by rw [List.length_take]; omega
    rw [hsl, bnd_some_eq, app_ok (by rw [List.length_singleton]; omega), bnd_some_eq, spec_trim _ (by rw [List.length_append, List.length_singleton]; omega), bnd_some_eq]
    refine ⟨_, _, _, rfl, sideB_trim _ _ rfl (by rw [List.length_append, List.length_singleton]; omega) ?_, k5.mono (by omega)⟩
    intro x hx
    rcases List.mem_append.1 hx with hx | hx
    · rcases List.mem_append.1 (List.mem_of_mem_take hx) with hx | hx
      · exact l2 x hx
      · have := j2 x hx
        simp only at this
        omega
    · rw [List.mem_singleton.1 hx]
      omega
theorem sideB_nil (s : Int) : sideB s [] = true := rfl
theorem src_r8Machine {c : List (Ik .u8)} (h : Bytes c) : ∃ m x, F_spec_R8Machine c = some (m, x) ∧ machB m = true ∧ confB m x = true := by
  unfold F_spec_R8Machine F_spec_l00From
  rw [bnd_some_eq]
  obtain ⟨m, a1, sd1, e1, h1, h2, k1⟩ := src_drawOk (s := ⟨c, 0, ⟨0⟩⟩) (n := 0) ⟨h, by simp, by simp⟩ (by omega)
  have hm := h1
  unfold machB at hm
  simp only [Bool.and_eq_true, decide_eq_true_eq] at hm
  have hm1 := inB_iff.1 hm.1.1.1
  have hm2 := inB_iff.1 hm.1.1.2
  simp only at e1 ⊢
  rw [e1, bnd_some_eq]
  obtain ⟨v, a2, sd2, e2, v0, v1, k2⟩ := src_pick m.States k1 (by omega) (by omega)
  obtain ⟨xs, a3, sd3, e3, x1, k3⟩ := src_cells m k2 (by omega) hm1
  obtain ⟨ys, a4, sd4, e4, y1, k4⟩ := src_cells m k3 (by omega) hm1
  obtain ⟨b, a5, sd5, e5, k5⟩ := src_one 3 k4 (by omega) (by omega)
  simp only at e2 e3 e4 e5 ⊢
  rw [e2, bnd_some_eq]
  simp only
  rw [e3, bnd_some_eq]
  simp only
  rw [e4, bnd_some_eq]
  simp only
  rw [e5, bnd_some_eq]
  cases b with
  | true =>
    rw [cond_true]
    refine ⟨m, _, rfl, h1, ?_⟩
    unfold confB
    rw [sideB_nil, Bool.and_true, Bool.and_true]
    exact inB_iff.2 (by simp only; omega)
  | false =>
    rw [cond_false]
    refine ⟨m, _, rfl, h1, ?_⟩
    unfold confB
    simp only
    rw [x1, y1, Bool.and_true, Bool.and_true]
    exact inB_iff.2 (by omega)
end Go.Fn
