/-
  The main loop, on both sides, and the law. No program in sight. No condition.
-/
import Derived.Test.YtneglngdbcefgaaPHdF
namespace Go.Fn
open Go Go.Tc
section
variable {m : GMachine} {s q : Nat} {X : List Int} {p : Int} {Y : List Int}
theorem Cfw.next (T : Tiny m s q) (C : Cfw m X p Y) (hn : rl m p Y ≠ noR) : Cfw m (nxX (rl m p Y) X) (rl m p Y).Next (nxY (rl m p Y) X Y) := by
  have hs := T.hs
  have b1 := T.b1
  have hmem : rl m p Y ∈ m.Rules := by
    unfold rl at hn ⊢
    rw [List.getD_eq_getElem?_getD] at hn ⊢
    cases h : m.Rules[(p * m.Symbols + Y.headD 0).toNat]? with
    | none => rw [h] at hn; exact absurd rfl hn
    | some r => exact List.mem_of_getElem? h
  have h := T.hr _ hmem
  unfold ruleB at h
  simp only [Bool.or_eq_true, Bool.and_eq_true, decide_eq_true_eq] at h
  rcases h with h | ⟨hw, _, hx⟩
  · exact absurd h hn
  have hw := inB_iff.1 hw
  have hx := inB_iff.1 hx
  have ht : sym m Y.tail := fun x hx => C.sy x (List.mem_of_mem_tail hx)
  refine ⟨?_, ?_, hx.1, by omega⟩
  · unfold nxX
    by_cases h1 : (rl m p Y).Move = 1
    · rw [if_pos h1]
      intro x hx
      rcases List.mem_append.1 hx with hx | hx
      · exact C.sx x hx
      · rw [List.mem_singleton] at hx
        omega
    · rw [if_neg h1]
      exact fun x hx => C.sx x (List.dropLast_subset _ hx)
  · unfold nxY
    by_cases h1 : (rl m p Y).Move = 1
    · rw [if_pos h1]
      exact ht
    · rw [if_neg h1]
      intro x hx
      rcases List.mem_cons.1 hx with hx | hx
      · rcases snoc_cases X with h | ⟨X', z, h⟩
        · rw [h] at hx
          have : x = 0 := hx
          omega
        · rw [h] at hx
          have hz := C.sx z (by rw [h]; simp)
          simp at hx
          omega
      · rcases List.mem_cons.1 hx with hx | hx
        · omega
        · exact ht x hx
theorem own_rews (hR : rewsB (haltL m s) = true) (h0 : (ownL m s).length ≠ 0) : rewsB (ownL m s) = true := by
  unfold rewsB at hR ⊢
  rw [haltL_eq, List.all_append] at hR
  simp only [Bool.and_eq_true, decide_eq_true_eq, List.length_append] at hR ⊢
  exact ⟨⟨by omega, by omega⟩, hR.2.1⟩
theorem next_nil (w : List Int) : F_spec_l10Next [] w = some ([], [], true) := by
  unfold F_spec_l10Next
  rw [run_done (x := .brk (([] : List (List Int)), ([] : List (List Int)), true, ([] : List ByteArray), (0 : Int))) (by
    simp only [F_spec_l10Next_L1]
    rw [decide_eq_false (by decide), cond_false])]
  rfl
theorem next_none (T : Tiny m s q) (C : Cfw m X p Y) (hR : rewsB (haltL m s) = true) (hW : (Wd m X p Y).length ≤ 400) (hn : rl m p Y = noR) : F_spec_l10Next (ownL m s) (Wd m X p Y) = some ([], [], true) := by
  by_cases h0 : (ownL m s).length = 0
  · rw [List.eq_nil_of_length_eq_zero h0]
    exact next_nil _
  · obtain ⟨h1, h2⟩ := moves_none T C hn
    rw [spec_next (own_rews hR h0) hW, dd_eq, h1, h2]
    rfl
theorem next_some (T : Tiny m s q) (C : Cfw m X p Y) (hR : rewsB (haltL m s) = true) (hW : (Wd m X p Y).length ≤ 400) {k : Nat} (hk : k < (ownL m s).length) (h1 : mtc m X p Y (ownL m s)[k] = true) (h2 : ∀ j (hj : j < k), mtc m X p Y ((ownL m s)[j]'(by omega)) = false) :
    (¬ 400 < (Wn m X p Y).length → ∃ a b c, F_spec_l10Next (ownL m s) (Wd m X p Y) = some (Wn m X p Y :: a, [(k : Int), ((X.length + 1 - offW m (ownL m s)[k] : Nat) : Int)] :: b, c)) ∧ (400 < (Wn m X p Y).length → F_spec_l10Next (ownL m s) (Wd m X p Y) = some ([], [], false)) := by
  obtain ⟨g1, g2⟩ := moves_some T C hk h1 h2
  have hr := own_rews hR (by omega)
  constructor
  · intro h
    obtain ⟨rest, g⟩ := g1 h
    rw [spec_next hr hW, dd_eq, g, ddN, if_neg (by simp)]
    exact ⟨_, _, _, rfl⟩
  · intro h
    obtain ⟨g, g'⟩ := g2 h
    rw [spec_next hr hW, dd_eq, g, g']
    rfl
theorem fin_fit {rows : List (List Int)} (h : ∀ r ∈ rows, r.length = 2) : (fin100 rows).1.length ≤ 100 ∧ ∀ r ∈ (fin100 rows).1, r.length = 2 := by
  unfold fin100
  by_cases h100 : 100 < rows.length
  · rw [if_pos h100]
    exact ⟨by simp, fun r hr => by cases hr⟩
  · rw [if_neg h100]
    exact ⟨by simp only; omega, h⟩
theorem rgt_two (b n : Nat) (R : List Int) : ∀ r ∈ rgt b n R, r.length = 2 := by
  intro r hr
  obtain ⟨c, _, rfl⟩ := List.mem_map.1 hr
  rfl
theorem lft_two (b : Nat) : ∀ (L : List Int), ∀ r ∈ lft b L, r.length = 2
  | [], r, hr => by cases hr
  | c :: l, r, hr => by
    unfold lft at hr
    rcases List.mem_cons.1 hr with rfl | hr
    · rfl
    · exact lft_two b l r hr
theorem bas_low (T : Tiny m s q) (hL : (haltL m s).length ≤ 60) : w64 (((haltL m s).length : Int) - (w64 (2 * m.Symbols))) = (bas m s : Int) := by
  have hlen := halt_len (m := m) (s := s)
  have hs := T.hs
  rw [w64_in (n := 2 * m.Symbols) (by omega) (by omega), w64_in (by omega) (by omega)]
  omega
theorem main_step (T : Tiny m s q) (hL : (haltL m s).length ≤ 60) (hR : rewsB (haltL m s) = true) {B : Int} (hB : B ≤ 20000) (X : List Int) (p : Int) (Y : List Int) (rows : List (List Int)) (C : Cfw m X p Y) (hW : (Wd m X p Y).length ≤ 400) (hr : (rows.length : Int) ≤ B) (h2 : ∀ r ∈ rows, r.length = 2)
    (ih : (rows.length : Int) ≠ B → rl m p Y ≠ noR → ¬ 400 < (Wn m X p Y).length → ∀ k a : Int, ∃ w : List (List Int) × Int, run (F_spec_HaltDerivation_L1 m B (haltL m s, ((ownL m s).length : Int), true) (ownL m s)) (Wn m X p Y, rows ++ [[k, a]]) = some (.ret (some w)) ∧
      run (F_impl_HaltDerivation_L1 B (haltL m s, ((ownL m s).length : Int), 0) (⟨m.Symbols, m.Symbols + m.States⟩, ers m, 0) (ownL m s)) (Wn m X p Y, rows ++ [[k, a]], ((rows ++ [[k, a]]).length : Int)) = some (.ret (some w)) ∧ w.1.length ≤ 100 ∧ ∀ r ∈ w.1, r.length = 2) :
    ∃ w : List (List Int) × Int, run (F_spec_HaltDerivation_L1 m B (haltL m s, ((ownL m s).length : Int), true) (ownL m s)) (Wd m X p Y, rows) = some (.ret (some w)) ∧
      run (F_impl_HaltDerivation_L1 B (haltL m s, ((ownL m s).length : Int), 0) (⟨m.Symbols, m.Symbols + m.States⟩, ers m, 0) (ownL m s)) (Wd m X p Y, rows, (rows.length : Int)) = some (.ret (some w)) ∧ w.1.length ≤ 100 ∧ ∀ r ∈ w.1, r.length = 2 := by
  have hlen := halt_len (m := m) (s := s)
  have hl := Wd_len m X p Y
  have hcs := spec_cfg T C hW
  obtain ⟨bb, hci⟩ := impl_cfg T C hW
  obtain ⟨r0, hr0⟩ := spec_cfg0 T
  obtain ⟨o1, o2⟩ := impl_only T C hW (by unfold bas at hlen; omega)
  have hd0 : decide (((([] : List (List Int)).length : Nat) : Int) = 0) = true := rfl
  have none_fit : ([] : List (List Int)).length ≤ 100 ∧ ∀ r ∈ ([] : List (List Int)), r.length = 2 := ⟨by simp, fun r hr => by cases hr⟩
  by_cases hn : rl m p Y = noR
  · have hx := next_none T C hR hW hn
    cases hrm : rmB X Y
    · refine ⟨([], 5), run_done ?_, run_done ?_, none_fit⟩
      · simp only [F_spec_HaltDerivation_L1]
        rw [hx, bnd_some_eq]
        simp only
        rw [hd0, cond_true, cond_true, bnd_some_eq, hcs, bnd_some_eq, hrm]
        rfl
      · simp only [F_impl_HaltDerivation_L1]
        rw [o1 hn, bnd_some_eq]
        simp only [Bool.not_false, cond_true]
        rw [bnd_some_eq, hci, bnd_some_eq, cfg_roomy, bnd_some_eq, hrm]
        rfl
    · obtain ⟨k, hk, f1, f2⟩ := firstF T C hn
      have htl : Y.tail.length ≤ Y.length := by rw [List.length_tail]; omega
      have E : Edw m X Y.tail := ⟨C.sx, fun x hx => C.sy x (List.mem_of_mem_tail hx), by rw [Ed_len]; omega⟩
      refine ⟨fin100 ((rows ++ [[(((ownL m s).length + k : Nat) : Int), ((X.length + 1 : Nat) : Int)]]) ++ rgt (bas m s) (X.length + 1) Y.tail ++ lft (bas m s) X.reverse), run_done ?_, run_done ?_, fin_fit ?_⟩
      · simp only [F_spec_HaltDerivation_L1]
        rw [hx, bnd_some_eq]
        simp only
        rw [hd0, cond_true, cond_true, bnd_some_eq, hcs, bnd_some_eq, hrm]
        simp only [Out.elim, Bool.not_true, cond_false]
        rw [bnd_some_eq]
        simp only
        rw [bas_low T hL, spec_first T C hW hL hk f1 f2, bnd_some_eq]
        simp only
        rw [app_ok (by simp; omega), bnd_some_eq]
        have := spec_all (own := ((ownL m s).length : Int)) (ok14 := true) T hL (rows ++ [[(((ownL m s).length + k : Nat) : Int), ((X.length + 1 : Nat) : Int)]]) E
        rw [this]
        rfl
      · simp only [F_impl_HaltDerivation_L1]
        rw [o1 hn, bnd_some_eq]
        simp only [Bool.not_false, cond_true]
        rw [bnd_some_eq, hci, bnd_some_eq, cfg_roomy, bnd_some_eq, hrm]
        simp only [Out.elim, Bool.not_true, cond_false]
        have hb : F_impl_HaltDerivation_L2 (haltL m s, ((ownL m s).length : Int), 0) (⟨m.Symbols, m.Symbols + m.States⟩, ers m, 0) (rows, Wd m X p Y) = some (.inl (rows ++ [[(((ownL m s).length + k : Nat) : Int), ((X.length + 1 : Nat) : Int)]], Ed m X Y.tail)) := by
          simp only [F_impl_HaltDerivation_L2]
          rw [impl_first T C hW hL hk f1 f2, bnd_some_eq]
          simp only [Bool.not_true, cond_false]
          rw [app_ok (by simp; omega), bnd_some_eq]
        rw [run_next hb, impl_all T hL Y.tail _ E (by simp; omega)]
        rfl
      · intro r hr
        rcases List.mem_append.1 hr with hr | hr
        · rcases List.mem_append.1 hr with hr | hr
          · rcases List.mem_append.1 hr with hr | hr
            · exact h2 r hr
            · rw [List.mem_singleton] at hr
              rw [hr]
              rfl
          · exact rgt_two _ _ _ r hr
        · exact lft_two _ _ r hr
  · obtain ⟨k, hk, f1, f2⟩ := first_own T C hn
    obtain ⟨n1, n2⟩ := next_some T C hR hW hk f1 f2
    have oi := o2 k hk f1 f2
    by_cases hb : (rows.length : Int) = B
    · have hsp : F_spec_HaltDerivation_L1 m B (haltL m s, ((ownL m s).length : Int), true) (ownL m s) (Wd m X p Y, rows) = some (.inr (.ret (some (([] : List (List Int)), cond (rmB X Y) 3 5)))) := by
        by_cases h4 : 400 < (Wn m X p Y).length
        · simp only [F_spec_HaltDerivation_L1]
          rw [n2 h4, bnd_some_eq]
          simp only
          rw [hd0, cond_true, cond_false, bnd_some_eq]
          simp only [Out.elim]
          rw [decide_eq_true hb, cond_true, hcs, bnd_some_eq]
          cases rmB X Y <;> rfl
        · obtain ⟨a, b, c, hx⟩ := n1 h4
          simp only [F_spec_HaltDerivation_L1]
          rw [hx, bnd_some_eq]
          simp only
          rw [decide_eq_false (by rw [List.length_cons]; omega), cond_false, bnd_some_eq]
          simp only [Out.elim]
          rw [decide_eq_true hb, cond_true, hcs, bnd_some_eq]
          cases rmB X Y <;> rfl
      have him : F_impl_HaltDerivation_L1 B (haltL m s, ((ownL m s).length : Int), 0) (⟨m.Symbols, m.Symbols + m.States⟩, ers m, 0) (ownL m s) (Wd m X p Y, rows, (rows.length : Int)) = some (.inr (.ret (some (([] : List (List Int)), cond (rmB X Y) 3 5)))) := by
        simp only [F_impl_HaltDerivation_L1]
        rw [oi, bnd_some_eq]
        simp only [Bool.not_true, cond_false]
        rw [decide_eq_true hb, cond_true, bnd_some_eq]
        simp only [Out.elim]
        rw [hci, bnd_some_eq, cfg_roomy, bnd_some_eq]
        cases rmB X Y <;> rfl
      exact ⟨_, run_done hsp, run_done him, none_fit⟩
    · by_cases h4 : 400 < (Wn m X p Y).length
      · refine ⟨([], 5), run_done ?_, run_done ?_, none_fit⟩
        · simp only [F_spec_HaltDerivation_L1]
          rw [n2 h4, bnd_some_eq]
          simp only
          rw [hd0, cond_true, cond_false, bnd_some_eq]
          simp only [Out.elim]
          rw [decide_eq_false hb, cond_false, cond_true, hr0]
          rfl
        · simp only [F_impl_HaltDerivation_L1]
          rw [oi, bnd_some_eq]
          simp only [Bool.not_true, cond_false]
          rw [decide_eq_false hb, cond_false, bnd_some_eq]
          simp only [Out.elim]
          rw [decide_eq_true (by omega), cond_true]
      · obtain ⟨a, b, c, hx⟩ := n1 h4
        obtain ⟨w, w1, w2, w3⟩ := ih hb hn h4 (k : Int) ((X.length + 1 - offW m (ownL m s)[k] : Nat) : Int)
        refine ⟨w, ?_, ?_, w3⟩
        · rw [run_next (s' := (Wn m X p Y, rows ++ [[(k : Int), ((X.length + 1 - offW m (ownL m s)[k] : Nat) : Int)]])), w1]
          simp only [F_spec_HaltDerivation_L1]
          rw [hx, bnd_some_eq]
          simp only
          rw [decide_eq_false (by rw [List.length_cons]; omega), cond_false, bnd_some_eq]
          simp only [Out.elim]
          rw [decide_eq_false hb, cond_false, cond_false]
          have i0 : ∀ {α : Type} (x : α) (l : List α), idx (x :: l) 0 = some x := fun x l => rfl
          rw [i0, bnd_some_eq, i0, bnd_some_eq, app_ok (by simp; omega), bnd_some_eq]
        · rw [run_next (s' := (Wn m X p Y, rows ++ [[(k : Int), ((X.length + 1 - offW m (ownL m s)[k] : Nat) : Int)]], ((rows ++ [[(k : Int), ((X.length + 1 - offW m (ownL m s)[k] : Nat) : Int)]]).length : Int))), w2]
          simp only [F_impl_HaltDerivation_L1]
          rw [oi, bnd_some_eq]
          simp only [Bool.not_true, cond_false]
          rw [decide_eq_false hb, cond_false, bnd_some_eq]
          simp only [Out.elim]
          rw [decide_eq_false (by omega), cond_false, app_ok (by simp; omega), bnd_some_eq, w64_nat1 (by omega), List.length_append, List.length_singleton]
theorem main_run (T : Tiny m s q) (hL : (haltL m s).length ≤ 60) (hR : rewsB (haltL m s) = true) {B : Int} (hB : B ≤ 20000) : ∀ (n : Nat) (X : List Int) (p : Int) (Y : List Int) (rows : List (List Int)), Cfw m X p Y → (Wd m X p Y).length ≤ 400 → ((rows.length + n : Nat) : Int) = B → (∀ r ∈ rows, r.length = 2) →
    ∃ w : List (List Int) × Int, run (F_spec_HaltDerivation_L1 m B (haltL m s, ((ownL m s).length : Int), true) (ownL m s)) (Wd m X p Y, rows) = some (.ret (some w)) ∧
      run (F_impl_HaltDerivation_L1 B (haltL m s, ((ownL m s).length : Int), 0) (⟨m.Symbols, m.Symbols + m.States⟩, ers m, 0) (ownL m s)) (Wd m X p Y, rows, (rows.length : Int)) = some (.ret (some w)) ∧ w.1.length ≤ 100 ∧ ∀ r ∈ w.1, r.length = 2 := by
  intro n
  induction n with
  | zero =>
    intro X p Y rows C hW hn h2
    exact main_step T hL hR hB X p Y rows C hW (by omega) h2 (fun hne => absurd (by omega) hne)
  | succ n ih =>
    intro X p Y rows C hW hn h2
    exact main_step T hL hR hB X p Y rows C hW (by omega) h2 (fun _ hrl hnl k a => ih _ _ _ (rows ++ [[k, a]]) (C.next T hrl) (by unfold Wn at hnl; omega) (by simp; omega) (by
      intro r hr
      rcases List.mem_append.1 hr with hr | hr
      · exact h2 r hr
      · rw [List.mem_singleton] at hr
        rw [hr]
        rfl))
theorem ex_HaltDerivation (m : GMachine) (c : GConfig) (B : Int) (w2 : Wf.wf B) (s0 : Sml m) (s1 : Sml c) :
    ∃ w : List (List Int) × Int, F_spec_HaltDerivation m c B = some w ∧ F_impl_HaltDerivation m c B = some w ∧ Med w.1 ∧ Cnt.cnt w.1 ≤ 1152921504606846976 := by
  have none_fit : Med ([] : List (List Int)) ∧ Cnt.cnt ([] : List (List Int)) ≤ 1152921504606846976 := rows_fit (by simp) (fun r hr => by cases hr)
  have none_any : ∀ {o1 o2 : Option (List (List Int) × Int)} (k : Int), o1 = some ([], k) → o2 = some ([], k) → ∃ w : List (List Int) × Int, o1 = some w ∧ o2 = some w ∧ Med w.1 ∧ Cnt.cnt w.1 ≤ 1152921504606846976 := fun k h1 h2 => ⟨_, h1, h2, none_fit⟩
  unfold F_spec_HaltDerivation F_impl_HaltDerivation F_impl_runCode F_impl_budgetOk F_spec_l05Budget
  rw [spec_mach m s0, impl_confV m c s0 s1, bnd_some_eq, bnd_some_eq]
  cases hm : machB m
  · exact none_any 1 rfl rfl
  obtain ⟨q1, q2⟩ := machB_in hm
  rw [spec_good m c q1 q2 s1]
  simp only [Bool.not_true, cond_false, bnd_some_eq, Bool.true_and]
  cases hc : confB m c
  · exact none_any 1 rfl rfl
  obtain ⟨l1, l2, c1, c2⟩ := confB_len hc
  obtain ⟨e1, e2, _⟩ := border_in hm
  obtain ⟨s, q, hs, hq, b1, b2, b3, b4, hl, b5, hr⟩ := machB_nat hm
  simp only [Bool.not_true, cond_false, bnd_some_eq, Out.elim, spec_in, impl_in]
  cases hB : inB B 1 20000
  · exact none_any 2 rfl rfl
  have hB := inB_iff.1 hB
  simp only [Bool.not_true, cond_false, bnd_some_eq]
  rw [spec_halt m hm hs hq b1 b2 (by omega), impl_halt m hm hs hq b1 b2 (by omega), spec_haltW m c hm l1 l2, impl_haltW m c hm l1 l2, impl_eraser m hm]
  unfold haltWP
  simp only [bnd_some_eq]
  rw [decide_eq_false (fun h => h rfl : ¬ ((0 : Int) ≠ 0)), cond_false]
  by_cases h5 : 5 < m.Symbols + m.States + 1
  · rw [decide_eq_true h5]
    exact none_any 5 rfl rfl
  rw [decide_eq_false h5]
  simp only [cond_false]
  rw [show decide ((400 : Int) < ((haltW m c).length : Int)) = decide (400 < (haltW m c).length) by rw [decide_eq_decide]; omega]
  by_cases h60 : (haltL m s).length ≤ 60
  · rw [decide_eq_true h60, decide_eq_false (by omega : ¬ 60 < (haltL m s).length)]
    by_cases h400 : 400 < (haltW m c).length
    · rw [decide_eq_true h400]
      exact none_any 5 rfl rfl
    rw [decide_eq_false h400]
    have hR := haltL_rews hs hq (by omega) b1 hl hr h60
    have T : Tiny m s q := ⟨hs, hq, b1, b3, by omega, hl, hr⟩
    have hsd := hc
    unfold confB sideB at hsd
    simp only [Bool.and_eq_true, List.all_eq_true] at hsd
    have sy : ∀ xs : List Int, (∀ x ∈ xs, inB x 0 (m.Symbols - 1) = true) → sym m xs := fun xs h x hx => by have := inB_iff.1 (h x hx); omega
    have C : Cfw m c.Left.reverse c.State c.Right := ⟨fun x hx => sy c.Left hsd.2.1.1.2 x (List.mem_reverse.1 hx), sy c.Right hsd.2.2.1.2, c1, by omega⟩
    have hWd : haltW m c = Wd m c.Left.reverse c.State c.Right := by
      unfold haltW Wd
      rw [w64_in (by omega) (by omega)]
      simp
    rw [hWd] at h400 ⊢
    obtain ⟨w, r1, r2, r3, r4⟩ := main_run T h60 hR (B := B) (by omega) B.toNat c.Left.reverse c.State c.Right [] C (by omega) (by simp; omega) (fun r hr => by cases hr)
    have hsl : slc (haltL m s) 0 ((ownL m s).length : Int) = some (ownL m s) := by
      rw [slc0 (by rw [haltL_eq, List.length_append]; omega), haltL_eq, List.take_left]
    have r2' : run (F_impl_HaltDerivation_L1 B (haltL m s, ((ownL m s).length : Int), 0) (⟨m.Symbols, m.Symbols + m.States⟩, m.Symbols + m.States + 1, 0) (ownL m s)) (Wd m c.Left.reverse c.State c.Right, [], 0) = some (.ret (some w)) := r2
    simp only [Bool.not_true, cond_false, bnd_some_eq]
    rw [decide_eq_false (fun h => h rfl : ¬ ((0 : Int) ≠ 0))]
    simp only [cond_false]
    rw [hsl, bnd_some_eq, r1, bnd_some_eq, bnd_some_eq, r2', bnd_some_eq]
    exact ⟨w, rfl, rfl, rows_fit (by omega) (fun r hr => by have := r4 r hr; omega)⟩
  · rw [decide_eq_false h60, decide_eq_true (by omega : 60 < (haltL m s).length)]
    exact none_any 5 rfl rfl
theorem law_HaltDerivation (m : GMachine) (c : GConfig) (B : Int) (w0 : Wf.wf m) (w1 : Wf.wf c) (w2 : Wf.wf B) : F_laws_FnExactHaltDerivation m c B = some true :=
  lawof_HaltDerivation m c B w0 w1 w2 (ex_HaltDerivation m c B w2)
end
end Go.Fn
