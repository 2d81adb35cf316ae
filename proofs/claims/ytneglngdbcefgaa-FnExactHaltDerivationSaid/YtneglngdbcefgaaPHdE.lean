/-
  The erasing, whole, on both sides. No program in sight. No condition.
-/
import Derived.Test.YtneglngdbcefgaaPHdD
namespace Go.Fn
open Go Go.Tc
section
variable {m : GMachine} {s q : Nat} {L R : List Int}
theorem halt_index {j : Nat} (h1 : (ownL m s).length ≤ j) (h2 : j < (haltL m s).length) : (∃ i, i < (freeL m).length ∧ j = (ownL m s).length + i) ∨ (∃ c, c < s ∧ j = bas m s + 2 * c) ∨ (∃ c, c < s ∧ j = bas m s + 2 * c + 1) := by
  have hlen := halt_len (m := m) (s := s)
  by_cases hj : j < bas m s
  · exact .inl ⟨j - (ownL m s).length, by unfold bas at hj; omega, by omega⟩
  · by_cases he : (j - bas m s) % 2 = 0
    · exact .inr (.inl ⟨(j - bas m s) / 2, by omega, by omega⟩)
    · exact .inr (.inr ⟨(j - bas m s) / 2, by omega, by omega⟩)
theorem er1 (T : Tiny m s q) (E : Edw m L R) (hL : (haltL m s).length ≤ 60) {j : Nat} (h1 : (ownL m s).length ≤ j) (h2 : j < (haltL m s).length) (hno : ∀ c, c < s → j = bas m s + 2 * c → (R ++ [m.Symbols + m.States]).head? ≠ some (c : Int)) :
    F_impl_erasing_L1 (haltL m s) (Ed m L R) (ers m) ((L.length + 1 : Nat) : Int) (j : Int) = some (.inl ((j + 1 : Nat) : Int)) := by
  have hs := T.hs
  have hq := T.hq
  have hlen := Ed_len m L R
  have el := E.hl
  have hd : (Ed m L R).drop (L.length + 1) = ers m :: (R ++ [m.Symbols + m.States]) := by
    have hE : Ed m L R = ((m.Symbols + m.States) :: L) ++ (ers m :: (R ++ [m.Symbols + m.States])) := rfl
    rw [hE, List.drop_left' (by rw [List.length_cons])]
  simp only [F_impl_erasing_L1]
  rw [decide_eq_true (by omega), cond_true, idx_get]
  rcases halt_index h1 h2 with ⟨i, hi, rfl⟩ | ⟨c, hc, rfl⟩ | ⟨c, hc, rfl⟩
  · obtain ⟨p', hp', b, hb, hF, _⟩ := free_small T _ (List.getElem_mem hi)
    have i0 : idx (freeL m)[i].From 0 = some (m.Symbols + (p' : Int)) := by rw [hF]; rfl
    rw [halt_free hi, bnd_some_eq, decide_eq_false (by omega), cond_false, i0, bnd_some_eq, decide_eq_true (by unfold ers; omega), cond_true, w64_nat1 (by omega)]
  · have hne := hno c hc rfl
    rw [(halt_erase hc).1, bnd_some_eq, decide_eq_false (by omega), cond_false]
    simp only
    have i0 : idx ([ers m, (c : Int)] : List Int) 0 = some (ers m) := rfl
    rw [i0, bnd_some_eq, decide_eq_false (fun h => h rfl), cond_false, decide_eq_true (by omega), cond_true, slc_from (by omega), bnd_some_eq, impl_begins _ _ (by rw [List.length_drop]; omega), bnd_some_eq, hd]
    have : decide ((ers m :: (R ++ [m.Symbols + m.States])).take [ers m, (c : Int)].length = [ers m, (c : Int)]) = false := by
      apply decide_eq_false
      intro h
      cases hR : R ++ [m.Symbols + m.States] with
      | nil => simp at hR
      | cons y l =>
        rw [hR] at h hne
        simp only [List.length_cons, List.length_nil, List.take_succ_cons, List.take_zero, List.cons.injEq, and_true, true_and] at h
        exact hne (by rw [h]; rfl)
    rw [this, bnd_some_eq]
    simp only [Out.elim, cond_false]
    rw [w64_nat1 (by omega)]
  · rw [(halt_erase hc).2, bnd_some_eq, decide_eq_false (by omega), cond_false]
    simp only
    have i0 : idx ([(c : Int), ers m] : List Int) 0 = some (c : Int) := rfl
    rw [i0, bnd_some_eq, decide_eq_true (by unfold ers; omega), cond_true, w64_nat1 (by omega)]
theorem er2 (T : Tiny m s q) (E : Edw m L []) (hL : (haltL m s).length ≤ 60) {j : Nat} (h1 : (ownL m s).length ≤ j) (h2 : j < (haltL m s).length) (hno : ∀ c, c < s → j = bas m s + 2 * c + 1 → ((m.Symbols + m.States) :: L).getLast? ≠ some (c : Int)) :
    F_impl_erasing_L2 (haltL m s) (Ed m L []) (ers m) ((L.length + 1 : Nat) : Int) (j : Int) = some (.inl ((j + 1 : Nat) : Int)) := by
  have hs := T.hs
  have hq := T.hq
  have hlen := Ed_len m L []
  have el := E.hl
  simp only [F_impl_erasing_L2]
  rw [decide_eq_true (by omega), cond_true, decide_eq_true (by omega), cond_true, idx_get]
  rcases halt_index h1 h2 with ⟨i, hi, rfl⟩ | ⟨c, hc, rfl⟩ | ⟨c, hc, rfl⟩
  · obtain ⟨p', hp', b, hb, hF, _⟩ := free_small T _ (List.getElem_mem hi)
    have i1 : idx (freeL m)[i].From 1 = some b := by rw [hF]; rfl
    rw [halt_free hi, bnd_some_eq, i1, bnd_some_eq, decide_eq_false (by unfold ers; omega), cond_false, bnd_some_eq]
    simp only [Out.elim, cond_false]
    rw [w64_nat1 (by omega)]
  · rw [(halt_erase hc).1, bnd_some_eq]
    simp only
    have i1 : idx ([ers m, (c : Int)] : List Int) 1 = some (c : Int) := rfl
    rw [i1, bnd_some_eq, decide_eq_false (by unfold ers; omega), cond_false, bnd_some_eq]
    simp only [Out.elim, cond_false]
    rw [w64_nat1 (by omega)]
  · have hne := hno c hc rfl
    have hw : w64 (((L.length + 1 : Nat) : Int) - 1) = (L.length : Int) := by rw [w64_in (by omega) (by omega)]; omega
    obtain ⟨z, hz⟩ : ∃ z, (Ed m L [])[L.length]? = some z ∧ ((m.Symbols + m.States) :: L).getLast? = some z := by
      rcases snoc_cases ((m.Symbols + m.States) :: L) with h | ⟨l', z, h⟩
      · cases h
      · have hl' : l'.length = L.length := by
          have := congrArg List.length h
          rw [List.length_cons, List.length_append, List.length_singleton] at this
          omega
        refine ⟨z, ?_, by rw [h, List.getLast?_concat]⟩
        have hE : Ed m L [] = ((m.Symbols + m.States) :: L) ++ (ers m :: ([] ++ [m.Symbols + m.States])) := rfl
        rw [hE, h, List.append_assoc, List.getElem?_append_right (by omega), hl', Nat.sub_self]
        rfl
    rw [(halt_erase hc).2, bnd_some_eq]
    simp only
    have i1 : idx ([(c : Int), ers m] : List Int) 1 = some (ers m) := rfl
    have i0 : idx ([(c : Int), ers m] : List Int) 0 = some (c : Int) := rfl
    rw [i1, bnd_some_eq, decide_eq_true rfl, cond_true, i0, bnd_some_eq, hw, idx_get, hz.1, bnd_some_eq, bnd_some_eq, decide_eq_false (fun h => hne (by rw [hz.2, h]))]
    simp only [Out.elim, cond_false]
    rw [w64_nat1 (by omega)]
theorem er_idx (T : Tiny m s q) (E : Edw m L R) : F_slices_Index_Sint64_int64 (Ed m L R) (ers m) = some ((L.length + 1 : Nat) : Int) := by
  have hlen := Ed_len m L R
  have el := E.hl
  have hE : Ed m L R = ((m.Symbols + m.States) :: L) ++ (ers m :: (R ++ [m.Symbols + m.States])) := rfl
  rw [hE, idx_first (by rw [← hE]; omega) (ers_no T E).1]
  rfl
theorem impl_right (T : Tiny m s q) (hL : (haltL m s).length ≤ 60) {c : Int} {R' : List Int} (E : Edw m L (c :: R')) : F_impl_erasing (haltL m s) ((ownL m s).length : Int) (Ed m L (c :: R')) (ers m) = some (⟨((bas m s + 2 * c.toNat : Nat) : Int), ((L.length + 1 : Nat) : Int), Ed m L R'⟩, true) := by
  have hc := E.sr c (List.mem_cons_self ..)
  have hs := T.hs
  have hlen := halt_len (m := m) (s := s)
  have el := E.hl
  have hE := Ed_len m L (c :: R')
  have hb : (ownL m s).length ≤ bas m s := by unfold bas; omega
  have hd : (Ed m L (c :: R')).drop (L.length + 1) = ers m :: ((c :: R') ++ [m.Symbols + m.States]) := by
    have hE : Ed m L (c :: R') = ((m.Symbols + m.States) :: L) ++ (ers m :: ((c :: R') ++ [m.Symbols + m.States])) := rfl
    rw [hE, List.drop_left' (by rw [List.length_cons])]
  have hlast : F_impl_erasing_L1 (haltL m s) (Ed m L (c :: R')) (ers m) ((L.length + 1 : Nat) : Int) ((bas m s + 2 * c.toNat : Nat) : Int) = some (.inr (.ret (⟨((bas m s + 2 * c.toNat : Nat) : Int), ((L.length + 1 : Nat) : Int), Ed m L R'⟩, true))) := by
    simp only [F_impl_erasing_L1]
    rw [decide_eq_true (by omega), cond_true, idx_get, (halt_erase (by omega)).1, bnd_some_eq, decide_eq_false (by omega), cond_false]
    simp only
    have i0 : idx ([ers m, (c.toNat : Int)] : List Int) 0 = some (ers m) := rfl
    rw [i0, bnd_some_eq, decide_eq_false (fun h => h rfl), cond_false, decide_eq_true (by omega), cond_true, slc_from (by omega), bnd_some_eq, impl_begins _ _ (by rw [List.length_drop]; omega), bnd_some_eq, hd]
    have : decide ((ers m :: ((c :: R') ++ [m.Symbols + m.States])).take [ers m, (c.toNat : Int)].length = [ers m, (c.toNat : Int)]) = true := by
      apply decide_eq_true
      simp only [List.length_cons, List.length_nil, List.cons_append, List.take_succ_cons, List.take_zero, List.cons.injEq, and_true, true_and]
      omega
    rw [this, bnd_some_eq]
    simp only [Out.elim, cond_true, List.length_cons, List.length_nil]
    rw [impl_put _ _ _ _ (by omega) (by simp) (by rw [hE, List.length_cons]; omega), bnd_some_eq, put_r]
  unfold F_impl_erasing
  rw [er_idx T E, bnd_some_eq, skip_run (bas m s + 2 * c.toNat - (ownL m s).length) (ownL m s).length (fun j hj1 hj2 => er1 T E hL hj1 (by omega) (fun c' hc' hj => by
    simp only [List.cons_append, List.head?_cons, ne_eq, Option.some.injEq]
    omega)), show (ownL m s).length + (bas m s + 2 * c.toNat - (ownL m s).length) = bas m s + 2 * c.toNat by omega, run_done hlast, bnd_some_eq]
  rfl
theorem er1_all (T : Tiny m s q) (hL : (haltL m s).length ≤ 60) (E : Edw m L []) : run (F_impl_erasing_L1 (haltL m s) (Ed m L []) (ers m) ((L.length + 1 : Nat) : Int)) ((ownL m s).length : Int) = some (.brk ((haltL m s).length : Int)) := by
  have hq := T.hq
  have hs := T.hs
  have b2 := T.b2
  have hlen := halt_len (m := m) (s := s)
  have hb : (ownL m s).length ≤ (haltL m s).length := by rw [hlen]; unfold bas; omega
  rw [skip_run ((haltL m s).length - (ownL m s).length) (ownL m s).length (fun j hj1 hj2 => er1 T E hL hj1 (by omega) (fun c' hc' hj => by
    simp only [List.nil_append, List.head?_cons, ne_eq, Option.some.injEq]
    omega)), show (ownL m s).length + ((haltL m s).length - (ownL m s).length) = (haltL m s).length by omega]
  refine run_done ?_
  simp only [F_impl_erasing_L1]
  rw [decide_eq_false (by omega), cond_false]
theorem impl_left (T : Tiny m s q) (hL : (haltL m s).length ≤ 60) {c : Int} {L' : List Int} (E : Edw m (L' ++ [c]) []) : F_impl_erasing (haltL m s) ((ownL m s).length : Int) (Ed m (L' ++ [c]) []) (ers m) = some (⟨((bas m s + 2 * c.toNat + 1 : Nat) : Int), ((L'.length + 1 : Nat) : Int), Ed m L' []⟩, true) := by
  have hc := E.sl c (by simp)
  have hs := T.hs
  have hlen := halt_len (m := m) (s := s)
  have el := E.hl
  have hE := Ed_len m (L' ++ [c]) []
  have hll : (L' ++ [c]).length = L'.length + 1 := by rw [List.length_append, List.length_singleton]
  have hb : (ownL m s).length ≤ bas m s := by unfold bas; omega
  have el2 : ((m.Symbols + m.States) :: (L' ++ [c])).getLast? = some c := by rw [← List.cons_append, List.getLast?_concat]
  have hw : w64 ((((L' ++ [c]).length + 1 : Nat) : Int) - 1) = ((L'.length + 1 : Nat) : Int) := by rw [w64_in (by omega) (by omega)]; omega
  have hget : (Ed m (L' ++ [c]) [])[L'.length + 1]? = some c := by
    have hE : Ed m (L' ++ [c]) [] = ((m.Symbols + m.States) :: L') ++ (c :: ers m :: ([] ++ [m.Symbols + m.States])) := by unfold Ed; simp
    rw [hE, List.getElem?_append_right (by rw [List.length_cons]; omega), List.length_cons, Nat.sub_self]
    rfl
  have hlast : F_impl_erasing_L2 (haltL m s) (Ed m (L' ++ [c]) []) (ers m) (((L' ++ [c]).length + 1 : Nat) : Int) ((bas m s + 2 * c.toNat + 1 : Nat) : Int) = some (.inr (.ret (⟨((bas m s + 2 * c.toNat + 1 : Nat) : Int), ((L'.length + 1 : Nat) : Int), Ed m L' []⟩, true))) := by
    simp only [F_impl_erasing_L2]
    rw [decide_eq_true (by omega), cond_true, decide_eq_true (by omega), cond_true, idx_get, (halt_erase (by omega)).2, bnd_some_eq]
    simp only
    have i1 : idx ([(c.toNat : Int), ers m] : List Int) 1 = some (ers m) := rfl
    have i0 : idx ([(c.toNat : Int), ers m] : List Int) 0 = some (c.toNat : Int) := rfl
    rw [i1, bnd_some_eq, decide_eq_true rfl, cond_true, i0, bnd_some_eq, hw, idx_get, hget, bnd_some_eq, bnd_some_eq, decide_eq_true (by omega)]
    simp only [Out.elim, cond_true]
    rw [show (2 : Int) = ((2 : Nat) : Int) from rfl, impl_put _ _ _ _ (by omega) (by simp) (by rw [hE, hll]; simp), bnd_some_eq, put_l]
  unfold F_impl_erasing
  rw [er_idx T E, bnd_some_eq, er1_all T hL E, bnd_some_eq]
  simp only [Out.elim]
  rw [skip_run (bas m s + 2 * c.toNat + 1 - (ownL m s).length) (ownL m s).length (fun j hj1 hj2 => er2 T E hL hj1 (by omega) (fun c' hc' hj => by
    rw [el2, ne_eq, Option.some.injEq]
    omega)), show (ownL m s).length + (bas m s + 2 * c.toNat + 1 - (ownL m s).length) = bas m s + 2 * c.toNat + 1 by omega, run_done hlast, bnd_some_eq]
  rfl
theorem impl_done (T : Tiny m s q) (hL : (haltL m s).length ≤ 60) (E : Edw m [] []) : F_impl_erasing (haltL m s) ((ownL m s).length : Int) (Ed m [] []) (ers m) = some (⟨0, 0, []⟩, false) := by
  have hq := T.hq
  have hs := T.hs
  have b2 := T.b2
  have hlen := halt_len (m := m) (s := s)
  have hb : (ownL m s).length ≤ (haltL m s).length := by rw [hlen]; unfold bas; omega
  unfold F_impl_erasing
  rw [er_idx T E, bnd_some_eq, er1_all T hL E, bnd_some_eq]
  simp only [Out.elim]
  rw [skip_run ((haltL m s).length - (ownL m s).length) (ownL m s).length (fun j hj1 hj2 => er2 T E hL hj1 (by omega) (fun c' hc' hj => by
    simp only [List.getLast?_singleton, ne_eq, Option.some.injEq]
    omega)), show (ownL m s).length + ((haltL m s).length - (ownL m s).length) = (haltL m s).length by omega]
  rw [run_done (x := .brk ((haltL m s).length : Int)) (by
    simp only [F_impl_erasing_L2]
    rw [decide_eq_false (by omega), cond_false]), bnd_some_eq]
  rfl
/-! ### All steps -/
def rgt (b n : Nat) (R : List Int) : List (List Int) := R.map fun c => [((b + 2 * c.toNat : Nat) : Int), (n : Int)]
def lft (b : Nat) : List Int → List (List Int)
  | [] => []
  | c :: l => [((b + 2 * c.toNat + 1 : Nat) : Int), ((l.length + 1 : Nat) : Int)] :: lft b l
theorem lft_len (b : Nat) : ∀ l, (lft b l).length = l.length
  | [] => rfl
  | c :: l => by unfold lft; rw [List.length_cons, lft_len b l, List.length_cons]
theorem rgt_len (b n : Nat) (R : List Int) : (rgt b n R).length = R.length := by unfold rgt; rw [List.length_map]
def fin100 (rows : List (List Int)) : List (List Int) × Int := if 100 < rows.length then ([], 5) else (rows, 0)
theorem short_fin (rows : List (List Int)) : F_impl_shortDerivation rows = some (fin100 rows) := by
  unfold F_impl_shortDerivation fin100
  by_cases h : 100 < rows.length
  · rw [decide_eq_true (by omega), cond_true, if_pos h]
  · rw [decide_eq_false (by omega), cond_false, if_neg h]
variable {own : Int} {x14 : Galphabet} {k6 k14 : Int}
theorem impl_lefts (T : Tiny m s q) (hL : (haltL m s).length ≤ 60) : ∀ (n : Nat) (L : List Int) (rows : List (List Int)), L.length = n → Edw m L [] → rows.length + n ≤ 1000000 →
    run (F_impl_HaltDerivation_L2 (haltL m s, ((ownL m s).length : Int), k6) (x14, ers m, k14)) (rows, Ed m L []) = some (.ret (fin100 (rows ++ lft (bas m s) L.reverse)))
  | 0, L, rows, hn, E, _ => by
    obtain rfl := List.eq_nil_of_length_eq_zero hn
    refine run_done ?_
    simp only [F_impl_HaltDerivation_L2]
    rw [impl_done T hL E, bnd_some_eq]
    simp only [Bool.not_false, cond_true]
    rw [short_fin, bnd_some_eq]
    simp [lft]
  | n + 1, L, rows, hn, E, hl => by
    rcases snoc_cases L with rfl | ⟨L', c, rfl⟩
    · simp at hn
    · have hb : F_impl_HaltDerivation_L2 (haltL m s, ((ownL m s).length : Int), k6) (x14, ers m, k14) (rows, Ed m (L' ++ [c]) []) = some (.inl (rows ++ [[((bas m s + 2 * c.toNat + 1 : Nat) : Int), ((L'.length + 1 : Nat) : Int)]], Ed m L' [])) := by
        simp only [F_impl_HaltDerivation_L2]
        rw [impl_left T hL E, bnd_some_eq]
        simp only [Bool.not_true, cond_false]
        rw [app_ok (by simp; omega), bnd_some_eq]
      rw [run_next hb, impl_lefts T hL n L' _ (by simpa using hn) E.initl (by simp; omega)]
      congr 2
      simp [lft]
theorem impl_all (T : Tiny m s q) (hL : (haltL m s).length ≤ 60) : ∀ (R : List Int) (rows : List (List Int)), Edw m L R → rows.length + R.length + L.length ≤ 1000000 →
    run (F_impl_HaltDerivation_L2 (haltL m s, ((ownL m s).length : Int), k6) (x14, ers m, k14)) (rows, Ed m L R) = some (.ret (fin100 (rows ++ rgt (bas m s) (L.length + 1) R ++ lft (bas m s) L.reverse)))
  | [], rows, E, hl => by
    rw [impl_lefts T hL L.length L rows rfl E (by simp at hl; omega)]
    simp [rgt]
  | c :: R', rows, E, hl => by
    rw [List.length_cons] at hl
    have hb : F_impl_HaltDerivation_L2 (haltL m s, ((ownL m s).length : Int), k6) (x14, ers m, k14) (rows, Ed m L (c :: R')) = some (.inl (rows ++ [[((bas m s + 2 * c.toNat : Nat) : Int), ((L.length + 1 : Nat) : Int)]], Ed m L R')) := by
      simp only [F_impl_HaltDerivation_L2]
      rw [impl_right T hL E, bnd_some_eq]
      simp only [Bool.not_true, cond_false]
      rw [app_ok (by simp; omega), bnd_some_eq]
    rw [run_next hb, impl_all T hL R' _ E.tailr (by simp; omega)]
    congr 2
    simp [rgt]
variable {ok14 : Bool}
theorem low_eq (T : Tiny m s q) (hL : (haltL m s).length ≤ 60) (t : Nat) (ht : t ≤ 2) : w64 ((w64 (((haltL m s).length : Int) - (w64 (2 * m.Symbols)))) + (t : Int)) = ((bas m s + t : Nat) : Int) := by
  have hlen := halt_len (m := m) (s := s)
  have hs := T.hs
  rw [w64_in (n := 2 * m.Symbols) (by omega) (by omega), w64_in (n := ((haltL m s).length : Int) - 2 * m.Symbols) (by omega) (by omega), w64_in (by omega) (by omega)]
  omega
theorem spec_rights (T : Tiny m s q) (hL : (haltL m s).length ≤ 60) (s52 : (List (List Int)) × (List Int) × Int) (ht : s52.2.2 = 0) : ∀ (R : List Int) (rows : List (List Int)), Edw m L R →
    ∃ st, run (F_spec_HaltDerivation_L3 m (haltL m s, own, ok14) s52) (rows, Ed m L R) = some (.brk st) ∧ (if rows.length + R.length ≤ 100 then st = (rows ++ rgt (bas m s) (L.length + 1) R, Ed m L []) else 100 < st.1.length)
  | R, rows, E => by
    have hlo := low_eq T hL 0 (by omega)
    rw [Nat.add_zero, show ((0 : Nat) : Int) = 0 from rfl] at hlo
    by_cases h100 : rows.length ≤ 100
    · cases R with
      | nil =>
        refine ⟨(rows, Ed m L []), run_done ?_, ?_⟩
        · simp only [F_spec_HaltDerivation_L3]
          rw [decide_eq_true (by omega), cond_true, ht, hlo, (spec_right T hL).2 E, bnd_some_eq]
          rfl
        · rw [if_pos (by simpa using h100)]
          simp [rgt]
      | cons c R' =>
        have hb : F_spec_HaltDerivation_L3 m (haltL m s, own, ok14) s52 (rows, Ed m L (c :: R')) = some (.inl (rows ++ [[((bas m s + 2 * c.toNat : Nat) : Int), ((L.length + 1 : Nat) : Int)]], Ed m L R')) := by
          simp only [F_spec_HaltDerivation_L3]
          rw [decide_eq_true (by omega), cond_true, ht, hlo, (spec_right T hL).1 E, bnd_some_eq]
          simp only [Bool.not_true, cond_false]
          rw [app_ok (by simp; omega), bnd_some_eq]
        obtain ⟨st, e, h⟩ := spec_rights T hL s52 ht R' (rows ++ [[((bas m s + 2 * c.toNat : Nat) : Int), ((L.length + 1 : Nat) : Int)]]) E.tailr
        refine ⟨st, by rw [run_next hb, e], ?_⟩
        rw [List.length_append, List.length_singleton] at h
        rw [List.length_cons]
        by_cases hle : rows.length + 1 + R'.length ≤ 100
        · rw [if_pos hle] at h
          rw [if_pos (by omega), h]
          simp [rgt]
        · rw [if_neg hle] at h
          rw [if_neg (by omega)]
          exact h
    · refine ⟨(rows, Ed m L R), run_done ?_, ?_⟩
      · simp only [F_spec_HaltDerivation_L3]
        rw [decide_eq_false (by omega), cond_false]
      · rw [if_neg (by omega)]
        show 100 < rows.length
        omega
theorem spec_lefts (T : Tiny m s q) (hL : (haltL m s).length ≤ 60) (s52 : (List (List Int)) × (List Int) × Int) (ht : s52.2.2 = 1) : ∀ (n : Nat) (L : List Int) (rows : List (List Int)), L.length = n → Edw m L [] →
    ∃ st, run (F_spec_HaltDerivation_L3 m (haltL m s, own, ok14) s52) (rows, Ed m L []) = some (.brk st) ∧ (if rows.length + L.length ≤ 100 then st.1 = rows ++ lft (bas m s) L.reverse else 100 < st.1.length) := by
  have hlo := low_eq T hL 1 (by omega)
  rw [show ((1 : Nat) : Int) = 1 from rfl] at hlo
  intro n
  induction n with
  | zero =>
    intro L rows hn E
    obtain rfl := List.eq_nil_of_length_eq_zero hn
    by_cases h100 : rows.length ≤ 100
    · refine ⟨(rows, Ed m [] []), run_done ?_, ?_⟩
      · simp only [F_spec_HaltDerivation_L3]
        rw [decide_eq_true (by omega), cond_true, ht, hlo, (spec_left T hL).2 E, bnd_some_eq]
        rfl
      · rw [if_pos (by simpa using h100)]
        simp [lft]
    · refine ⟨(rows, Ed m [] []), run_done ?_, ?_⟩
      · simp only [F_spec_HaltDerivation_L3]
        rw [decide_eq_false (by omega), cond_false]
      · rw [if_neg (by simpa using h100)]
        show 100 < rows.length
        omega
  | succ n ih =>
    intro L rows hn E
    by_cases h100 : rows.length ≤ 100
    · rcases snoc_cases L with rfl | ⟨L', c, rfl⟩
      · simp at hn
      · have hb : F_spec_HaltDerivation_L3 m (haltL m s, own, ok14) s52 (rows, Ed m (L' ++ [c]) []) = some (.inl (rows ++ [[((bas m s + 2 * c.toNat + 1 : Nat) : Int), ((L'.length + 1 : Nat) : Int)]], Ed m L' [])) := by
          simp only [F_spec_HaltDerivation_L3]
          rw [decide_eq_true (by omega), cond_true, ht, hlo, (spec_left T hL).1 E, bnd_some_eq]
          simp only [Bool.not_true, cond_false]
          rw [app_ok (by simp; omega), bnd_some_eq]
        obtain ⟨st, e, h⟩ := ih L' (rows ++ [[((bas m s + 2 * c.toNat + 1 : Nat) : Int), ((L'.length + 1 : Nat) : Int)]]) (by simpa using hn) E.initl
        refine ⟨st, by rw [run_next hb, e], ?_⟩
        rw [List.length_append, List.length_singleton] at h
        rw [List.length_append, List.length_singleton]
        by_cases hle : rows.length + 1 + L'.length ≤ 100
        · rw [if_pos hle] at h
          rw [if_pos (by omega), h]
          simp [lft]
        · rw [if_neg hle] at h
          rw [if_neg (by omega)]
          exact h
    · refine ⟨(rows, Ed m L []), run_done ?_, ?_⟩
      · simp only [F_spec_HaltDerivation_L3]
        rw [decide_eq_false (by omega), cond_false]
      · rw [if_neg (by omega)]
        show 100 < rows.length
        omega
theorem spec_all (T : Tiny m s q) (hL : (haltL m s).length ≤ 60) (rows : List (List Int)) (E : Edw m L R) :
    bnd (run (F_spec_HaltDerivation_L2 m (haltL m s, own, ok14)) (rows, Ed m L R, 0)) (Out.elim (fun (s52 : (List (List Int)) × (List Int) × Int) => (cond (decide (100 < (s52.1.length : Int))) (some (([] : (List (List Int))), (5 : Int))) (some (s52.1, 0)))) (fun (r : (List (List Int)) × Int) => some r)) = some (fin100 (rows ++ rgt (bas m s) (L.length + 1) R ++ lft (bas m s) L.reverse)) := by
  obtain ⟨st, e, h⟩ := spec_rights (own := own) (ok14 := ok14) T hL (rows, Ed m L R, 0) rfl R rows E
  have b1 : F_spec_HaltDerivation_L2 m (haltL m s, own, ok14) (rows, Ed m L R, 0) = some (.inl (st.1, st.2, 1)) := by
    simp only [F_spec_HaltDerivation_L2]
    rw [decide_eq_true (by decide), cond_true, e, bnd_some_eq]
    rfl
  have b3 : ∀ x : (List (List Int)) × (List Int), F_spec_HaltDerivation_L2 m (haltL m s, own, ok14) (x.1, x.2, 2) = some (.inr (.brk (x.1, x.2, 2))) := by
    intro x
    simp only [F_spec_HaltDerivation_L2]
    rw [decide_eq_false (by decide), cond_false]
  have two : ∀ st2 : (List (List Int)) × (List Int), run (F_spec_HaltDerivation_L3 m (haltL m s, own, ok14) (st.1, st.2, 1)) (st.1, st.2) = some (.brk st2) → bnd (run (F_spec_HaltDerivation_L2 m (haltL m s, own, ok14)) (rows, Ed m L R, 0)) (Out.elim (fun (s52 : (List (List Int)) × (List Int) × Int) => (cond (decide (100 < (s52.1.length : Int))) (some (([] : (List (List Int))), (5 : Int))) (some (s52.1, 0)))) (fun (r : (List (List Int)) × Int) => some r)) = some (fin100 st2.1) := by
    intro st2 e2
    have b2 : F_spec_HaltDerivation_L2 m (haltL m s, own, ok14) (st.1, st.2, 1) = some (.inl (st2.1, st2.2, 2)) := by
      simp only [F_spec_HaltDerivation_L2]
      rw [decide_eq_true (by decide), cond_true, e2, bnd_some_eq]
      rfl
    rw [run_next b1, run_next b2, run_done (b3 st2), bnd_some_eq]
    simp only [Out.elim]
    unfold fin100
    by_cases h : 100 < st2.1.length
    · rw [decide_eq_true (by omega), cond_true, if_pos h]
    · rw [decide_eq_false (by omega), cond_false, if_neg h]
  have lr := lft_len (bas m s) L.reverse
  have rr := rgt_len (bas m s) (L.length + 1) R
  rw [List.length_reverse] at lr
  have big : ∀ x : List (List Int), 100 < x.length → fin100 x = ([], 5) := fun x hx => by unfold fin100; rw [if_pos hx]
  by_cases hle : rows.length + R.length ≤ 100
  · rw [if_pos hle] at h
    subst h
    have E0 : Edw m L [] := ⟨E.sl, fun x hx => by simp at hx, by have := E.hl; rw [Ed_len] at this ⊢; simp; omega⟩
    obtain ⟨st2, e2, h2⟩ := spec_lefts (own := own) (ok14 := ok14) T hL (rows ++ rgt (bas m s) (L.length + 1) R, Ed m L [], 1) rfl L.length L (rows ++ rgt (bas m s) (L.length + 1) R) rfl E0
    rw [two st2 e2]
    rw [List.length_append, rr] at h2
    by_cases hle2 : rows.length + R.length + L.length ≤ 100
    · rw [if_pos hle2] at h2
      rw [h2]
    · rw [if_neg hle2] at h2
      rw [big _ h2, big _ (by rw [List.length_append, List.length_append, rr, lr]; omega)]
  · rw [if_neg hle] at h
    have e2 : run (F_spec_HaltDerivation_L3 m (haltL m s, own, ok14) (st.1, st.2, 1)) (st.1, st.2) = some (.brk (st.1, st.2)) := by
      refine run_done ?_
      simp only [F_spec_HaltDerivation_L3]
      rw [decide_eq_false (by omega), cond_false]
    rw [two _ e2, big _ h, big _ (by rw [List.length_append, List.length_append, rr, lr]; omega)]
end
end Go.Fn
