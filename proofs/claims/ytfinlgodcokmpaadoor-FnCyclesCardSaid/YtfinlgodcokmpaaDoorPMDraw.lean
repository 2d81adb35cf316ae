/-
  Machines and their configurations drawn out of bytes are good ones. No program in sight. No condition.
-/
import Derived.Test.YtfinlgodcokmpaaDoorPKnown
namespace Go.Fn
open Go Go.Tc
theorem noR_ruleB (s q : Int) : ruleB s q noR = true := by
  unfold ruleB
  rw [decide_eq_true rfl, Bool.true_or]
theorem drawSize_run {c : List (Ik .u8)} {p0 : Gl00Src} (hc : p0.code = c) {p1 p2 : Int} (h1 : 2 ≤ p1 ∧ p1 ≤ 6) (h2 : 1 ≤ p2 ∧ p2 ≤ 100) : ∀ (m : Nat) (a : Int) (sd : Ik .u64) (out : List GRule) (n : Int), SrcOk ⟨c, a, sd⟩ n → n + 4 * m ≤ 1099511627776 → m ≤ 1000 → out.length + m ≤ 1000 → (∀ r ∈ out, ruleB p1 p2 r = true) →
    ∃ rs a' sd', run (F_spec_l05DrawSize_L1 p0 p1 p2) (a, sd, out, (m : Int)) = some (.brk (a', sd', out ++ rs, 0)) ∧ rs.length = m ∧ (∀ r ∈ out ++ rs, ruleB p1 p2 r = true) ∧ SrcOk ⟨c, a', sd'⟩ (n + 4 * m) := by
  intro m
  induction m with
  | zero =>
    intro a sd out n h _ _ _ hl
    refine ⟨[], a, sd, run_done ?_, rfl, by rwa [List.append_nil], by simpa using h⟩
    simp only [F_spec_l05DrawSize_L1]
    rw [decide_eq_false (by omega), cond_false, List.append_nil]
    rfl
  | succ m ih =>
    intro a sd out n h hn hm ho hl
    obtain ⟨v, a1, sd1, e1, v0, v1, k1⟩ := src_pick p1 h (by omega) (by omega)
    obtain ⟨u, a2, sd2, e2, u0, u1, k2⟩ := src_pick 2 k1 (by omega) (by omega)
    obtain ⟨t, a3, sd3, e3, t0, t1, k3⟩ := src_pick p2 k2 (by omega) (by omega)
    obtain ⟨b, a4, sd4, e4, k4⟩ := src_one 7 k3 (by omega) (by omega)
    simp only at e2 e3 e4 k4
    have step : ∀ r : GRule, ruleB p1 p2 r = true → F_spec_l05DrawSize_L1 p0 p1 p2 (a, sd, out, ((m + 1 : Nat) : Int)) = some (.inl (a4, sd4, out ++ [r], (m : Int))) → ∃ rs a' sd', run (F_spec_l05DrawSize_L1 p0 p1 p2) (a, sd, out, ((m + 1 : Nat) : Int)) = some (.brk (a', sd', out ++ rs, 0)) ∧ rs.length = m + 1 ∧ (∀ r ∈ out ++ rs, ruleB p1 p2 r = true) ∧ SrcOk ⟨c, a', sd'⟩ (n + 4 * ((m + 1 : Nat) : Int)) := by
      intro r hr hb
      obtain ⟨rs, a', sd', e5, l1, l2, l3⟩ := ih a4 sd4 (out ++ [r]) (n + 1 + 1 + 1 + 1) k4 (by omega) (by omega) (by simp; omega) (by
        intro x hx
        rcases List.mem_append.1 hx with hx | hx
        · exact hl x hx
        · rw [List.mem_singleton.1 hx]; exact hr)
      refine ⟨r :: rs, a', sd', ?_, by simp [l1], by simpa using l2, l3.mono (by omega)⟩
      rw [run_next hb, e5]
      simp
    have hd : ((m + 1 : Nat) : Int) - 1 = (m : Int) := by omega
    cases b with
    | true =>
      refine step noR (noR_ruleB _ _) ?_
      simp only [F_spec_l05DrawSize_L1]
      rw [decide_eq_true (by omega), cond_true, hc, e1, bnd_some_eq, e2, bnd_some_eq, e3, bnd_some_eq, e4, bnd_some_eq, cond_true, show F_spec_l05None = some noR from rfl, bnd_some_eq, app_ok (by simp; omega), bnd_some_eq, w64_in (by omega) (by omega), hd]
    | false =>
      refine step ⟨v, 2 * u - 1, t⟩ ?_ ?_
      · unfold ruleB
        have g1 : inB v 0 (p1 - 1) = true := inB_iff.2 (by omega)
        have g2 : inB t 0 (p2 - 1) = true := inB_iff.2 (by omega)
        simp only
        rw [g1, g2, Bool.true_and, Bool.and_true]
        rcases (show u = 0 ∨ u = 1 by omega) with rfl | rfl
        · rw [show decide ((2 * 0 - 1 : Int) = -1) = true from rfl, Bool.or_true, Bool.or_true]
        · rw [show decide ((2 * 1 - 1 : Int) = 1) = true from rfl, Bool.true_or, Bool.or_true]
      · simp only [F_spec_l05DrawSize_L1]
        rw [decide_eq_true (by omega), cond_true, hc, e1, bnd_some_eq, e2, bnd_some_eq, e3, bnd_some_eq, e4, bnd_some_eq, cond_false]
        simp only
        rw [w64_in (n := 2 * u) (by omega) (by omega), w64_in (n := 2 * u - 1) (by omega) (by omega), app_ok (by simp; omega), bnd_some_eq, w64_in (by omega) (by omega), hd]
theorem src_size {s : Gl00Src} {n : Int} (h : SrcOk s n) (hn : n ≤ 1000000000) {p1 p2 : Int} (h1 : 2 ≤ p1 ∧ p1 ≤ 6) (h2 : 1 ≤ p2 ∧ p2 ≤ 100) : ∃ m a sd, F_spec_l05DrawSize s p1 p2 = some (m, (a, sd)) ∧ machB m = true ∧ m.States ≤ 100 ∧ SrcOk ⟨s.code, a, sd⟩ (n + 2400) := by
  have h3 : 0 ≤ p1 * p2 := Int.mul_nonneg (by omega) (by omega)
  have h4 : p1 * p2 ≤ 600 := by
    have g1 : p1 * p2 ≤ 6 * p2 := Int.mul_le_mul_of_nonneg_right h1.2 (by omega)
    omega
  obtain ⟨rs, a', sd', e, l1, l2, l3⟩ := drawSize_run (p0 := s) rfl h1 h2 (p1 * p2).toNat s.at_ s.seed [] n h (by omega) (by omega) (by simp; omega) (fun x hx => by simp at hx)
  rw [show (((p1 * p2).toNat : Nat) : Int) = p1 * p2 by omega] at e
  rw [List.nil_append] at e l2
  unfold F_spec_l05DrawSize
  rw [w64_in (by omega) (by omega), e, bnd_some_eq]
  refine ⟨⟨p1, p2, rs⟩, a', sd', rfl, ?_, h2.2, l3.mono (by omega)⟩
  unfold machB
  have g1 : inB p1 2 6 = true := inB_iff.2 h1
  have g2 : inB p2 1 1000 = true := inB_iff.2 (by omega)
  simp only
  rw [g1, g2, decide_eq_true (by omega), Bool.true_and, Bool.true_and]
  exact List.all_eq_true.2 l2
theorem src_known {s : Gl00Src} {n : Int} (h : SrcOk s n) (hn : n ≤ 1000000000) : ∃ m a sd, F_spec_l05Known s = some (m, (a, sd)) ∧ machB m = true ∧ m.States ≤ 100 ∧ SrcOk ⟨s.code, a, sd⟩ (n + 1) := by
  obtain ⟨v, a, sd, e, v0, v1, k⟩ := src_pick 8 h (by omega) (by omega)
  have hlt : v.toNat < knownL.length := by
    show v.toNat < 8
    omega
  obtain ⟨m, hm, h1, h2⟩ := read_known (List.getElem_mem hlt)
  have et : F_spec_l00Src_text s knownL = some (knownL[v.toNat], (a, sd)) := by
    unfold F_spec_l00Src_text
    show bnd (F_spec_l00Src_pick s 8) _ = _
    rw [e, bnd_some_eq]
    simp only
    have hi : idx knownL v = some knownL[v.toNat] := by
      have := idx_nat hlt
      rwa [show ((v.toNat : Nat) : Int) = v by omega] at this
    rw [hi, bnd_some_eq]
  refine ⟨m, a, sd, ?_, h1, h2, k⟩
  unfold F_spec_l05Known
  show bnd (F_spec_l00Src_text s knownL) _ = _
  rw [et, bnd_some_eq]
  simp only
  rw [hm, bnd_some_eq]
theorem sideB_trim {s : Int} : ∀ (n : Nat) (xs : List Int), xs.length = n → n ≤ 200 → Let s xs → sideB s (trimL xs) = true := by
  intro n
  induction n with
  | zero =>
    intro xs hn _ _
    obtain rfl := List.eq_nil_of_length_eq_zero hn
    rfl
  | succ n ih =>
    intro xs hn h2 hl
    rcases snoc_cases xs with rfl | ⟨ys, y, rfl⟩
    · simp at hn
    · rw [trimL_snoc]
      by_cases h : y = 0
      · rw [if_pos h]
        exact ih ys (by simpa using hn) (by omega) (fun x hx => hl x (List.mem_append_left _ hx))
      · rw [if_neg h]
        unfold sideB
        rw [decide_eq_true (by omega), Bool.true_and, Bool.and_eq_true]
        refine ⟨List.all_eq_true.2 fun x hx => inB_iff.2 ?_, ?_⟩
        · have := hl x hx
          omega
        · rw [decide_eq_true (show (ys ++ [y]).getLastD 0 ≠ 0 by simpa using h), Bool.or_true]
theorem sideB_nil (s : Int) : sideB s [] = true := rfl
end Go.Fn
