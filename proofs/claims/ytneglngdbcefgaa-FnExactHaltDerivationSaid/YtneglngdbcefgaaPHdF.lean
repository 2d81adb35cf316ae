/-
  Configurations read out of words, on both sides. No program in sight. No condition.
-/
import Derived.Test.YtneglngdbcefgaaPHdE
namespace Go.Fn
open Go Go.Tc
section
variable {m : GMachine} {s q : Nat} {X : List Int} {p : Int} {Y : List Int}
theorem side_trim {t : Int} (ht : 0 ≤ t) : ∀ (n : Nat) (xs : List Int), xs.length = n → (∀ x ∈ xs, 0 ≤ x ∧ x < t) → sideB t (trimL xs) = decide ((trimL xs).length ≤ 200)
  | 0, xs, hn, _ => by
    obtain rfl := List.eq_nil_of_length_eq_zero hn
    rfl
  | n + 1, xs, hn, h => by
    rcases snoc_cases xs with rfl | ⟨ys, y, rfl⟩
    · simp at hn
    · rw [trimL_snoc]
      by_cases hy : y = 0
      · rw [if_pos hy]
        exact side_trim ht n ys (by simpa using hn) (fun x hx => h x (List.mem_append_left _ hx))
      · rw [if_neg hy]
        unfold sideB
        have h1 : ((ys ++ [y]).all fun x => inB x 0 (t - 1)) = true := by
          rw [List.all_eq_true]
          intro x hx
          have := h x hx
          exact inB_iff.2 (by omega)
        rw [h1, Bool.and_true]
        have h2 : decide ((ys ++ [y]).getLastD 0 ≠ 0) = true := decide_eq_true (by simpa using hy)
        rw [h2, Bool.or_true, Bool.and_true]
def cfgW (X : List Int) (p : Int) (Y : List Int) : GConfig := ⟨p, trimL X.reverse, trimL Y⟩
def rmB (X Y : List Int) : Bool := decide ((trimL X.reverse).length ≤ 200) && decide ((trimL Y).length ≤ 200)
theorem cfg_good (C : Cfw m X p Y) (hs : 0 ≤ m.Symbols) : confB m (cfgW X p Y) = rmB X Y := by
  have hp0 := C.p0
  have hp1 := C.p1
  unfold confB cfgW rmB
  simp only
  rw [side_trim hs _ _ rfl (fun x hx => C.sx x (List.mem_reverse.1 hx)), side_trim hs _ _ rfl C.sy, inB_iff.2 (by omega), Bool.true_and]
theorem cfg_roomy (X Y : List Int) (p : Int) : F_impl_roomy (cfgW X p Y) = some (rmB X Y) := by
  unfold F_impl_roomy rmB cfgW
  by_cases h : (trimL X.reverse).length ≤ 200
  · rw [decide_eq_true (by simp only; omega), cond_true, decide_eq_true h, Bool.true_and]
    congr 1
    rw [decide_eq_decide]
    simp only
    omega
  · rw [decide_eq_false (by simp only; omega), cond_false, decide_eq_false h, Bool.false_and]
theorem skip_two {A : Type} {body : Int × Int → Option ((Int × Int) ⊕ A)} (a : Int) : ∀ (n k : Nat), (∀ j : Nat, k ≤ j → j < k + n → body (a, (j : Int)) = some (.inl (a, ((j + 1 : Nat) : Int)))) → run body (a, (k : Int)) = run body (a, ((k + n : Nat) : Int))
  | 0, k, _ => rfl
  | n + 1, k, h => by
    rw [run_next (h k (Nat.le_refl _) (by omega)), skip_two a n (k + 1) (fun j h1 h2 => h j (by omega) (by omega))]
    congr 2
    omega
theorem Wd_get_x {k : Nat} (h1 : 1 ≤ k) (h2 : k ≤ X.length) : ∃ x ∈ X, (Wd m X p Y)[k]? = some x := by
  obtain ⟨j, rfl⟩ : ∃ j, k = j + 1 := ⟨k - 1, by omega⟩
  have hj : j < X.length := by omega
  refine ⟨X[j], List.getElem_mem hj, ?_⟩
  unfold Wd
  rw [List.getElem?_cons_succ, List.getElem?_append_left hj, List.getElem?_eq_getElem hj]
theorem Wd_get_p : (Wd m X p Y)[X.length + 1]? = some (m.Symbols + p) := by
  unfold Wd
  rw [List.getElem?_cons_succ, List.getElem?_append_right (Nat.le_refl _), Nat.sub_self]
  rfl
theorem Wd_get_y {k : Nat} (h1 : X.length + 2 ≤ k) (h2 : k < X.length + 2 + Y.length) : ∃ y ∈ Y, (Wd m X p Y)[k]? = some y := by
  obtain ⟨j, rfl⟩ : ∃ j, k = X.length + (j + 1) + 1 := ⟨k - (X.length + 2), by omega⟩
  have hj : j < Y.length := by omega
  refine ⟨Y[j], List.getElem_mem hj, ?_⟩
  unfold Wd
  rw [List.getElem?_cons_succ, List.getElem?_append_right (by omega), show X.length + (j + 1) - X.length = j + 1 by omega, List.getElem?_cons_succ, List.getElem?_append_left hj, List.getElem?_eq_getElem hj]
theorem Wd_get_last : (Wd m X p Y)[X.length + Y.length + 2]? = some (m.Symbols + m.States) := by
  unfold Wd
  rw [show X.length + Y.length + 2 = (X.length + (Y.length + 1)) + 1 by omega, List.getElem?_cons_succ, List.getElem?_append_right (by omega), show X.length + (Y.length + 1) - X.length = Y.length + 1 by omega, List.getElem?_cons_succ, List.getElem?_append_right (Nat.le_refl _), Nat.sub_self]
  rfl
theorem Wd_left : ((Wd m X p Y).take (X.length + 1)).drop 1 = X := by
  unfold Wd
  rw [List.take_succ_cons, List.drop_succ_cons, List.drop_zero, List.take_left]
theorem Wd_right : ((Wd m X p Y).take (X.length + Y.length + 2)).drop (X.length + 2) = Y := by
  have : Wd m X p Y = (((m.Symbols + m.States) :: X) ++ [m.Symbols + p]) ++ (Y ++ [m.Symbols + m.States]) := by unfold Wd; simp
  have hl : (((m.Symbols + m.States) :: X) ++ [m.Symbols + p]).length = X.length + 2 := by simp
  rw [this, List.take_append, List.drop_append, hl, List.take_of_length_le (by rw [hl]; omega), List.drop_of_length_le (by rw [hl]; omega), List.nil_append, show X.length + Y.length + 2 - (X.length + 2) = Y.length by omega, List.take_left]
  rw [hl, Nat.sub_self, List.drop_zero]
theorem Wd_mid : ((Wd m X p Y).take (X.length + Y.length + 2)).drop 1 = X ++ ((m.Symbols + p) :: Y) := by
  have : Wd m X p Y = ((m.Symbols + m.States) :: (X ++ ((m.Symbols + p) :: Y))) ++ [m.Symbols + m.States] := by unfold Wd; simp
  rw [this, List.take_left' (by simp; omega)]
  rfl
theorem spec_cfg (T : Tiny m s q) (C : Cfw m X p Y) (hW : (Wd m X p Y).length ≤ 400) : F_spec_l16Config m (Wd m X p Y) = some (cfgW X p Y, rmB X Y) := by
  have hs := T.hs
  have hq := T.hq
  have b3 := T.b3
  have hp0 := C.p0
  have hp1 := C.p1
  have hl := Wd_len m X p Y
  have eb : F_spec_l16Border m = some (m.Symbols + m.States) := by unfold F_spec_l16Border; rw [w64_in (by omega) (by omega)]
  have el : w64 (((Wd m X p Y).length : Int) - 1) = ((X.length + Y.length + 2 : Nat) : Int) := by rw [w64_in (by omega) (by omega)]; omega
  have i0 : idx (Wd m X p Y) 0 = some (m.Symbols + m.States) := rfl
  have e1 : ∀ k : Nat, k ≤ 1000 → w64 ((k : Int) + 1) = ((k + 1 : Nat) : Int) := fun k hk => w64_nat1 (by omega)
  have st1 : ∀ (a : Int) (k : Nat), k < X.length + Y.length + 2 → (∃ x, (x < m.Symbols) ∧ (Wd m X p Y)[k]? = some x) → F_spec_l16Config_L1 m (Wd m X p Y) (m.Symbols + m.States) (a, (k : Int)) = some (.inl (a, ((k + 1 : Nat) : Int))) := by
    intro a k hk hx
    obtain ⟨x, hx, hg⟩ := hx
    simp only [F_spec_l16Config_L1]
    rw [el, decide_eq_true (by omega), cond_true, idx_get, hg, bnd_some_eq, decide_eq_false (by omega), cond_false, bnd_some_eq]
    simp only [Out.elim, cond_false]
    rw [bnd_some_eq, decide_eq_false (by omega), cond_false, e1 k (by omega)]
  have st2 : F_spec_l16Config_L1 m (Wd m X p Y) (m.Symbols + m.States) (-1, ((X.length + 1 : Nat) : Int)) = some (.inl (((X.length + 1 : Nat) : Int), ((X.length + 2 : Nat) : Int))) := by
    simp only [F_spec_l16Config_L1]
    rw [el, decide_eq_true (by omega), cond_true, idx_get, Wd_get_p, bnd_some_eq, decide_eq_true (by omega), cond_true, decide_eq_false (by decide), cond_false, bnd_some_eq, decide_eq_false (by omega), bnd_some_eq]
    simp only [Out.elim, cond_false]
    rw [bnd_some_eq, decide_eq_true (by omega), cond_true, e1 (X.length + 1) (by omega)]
  have hrun : run (F_spec_l16Config_L1 m (Wd m X p Y) (m.Symbols + m.States)) (-1, 1) = some (.brk (((X.length + 1 : Nat) : Int), ((X.length + Y.length + 2 : Nat) : Int))) := by
    rw [show ((-1, 1) : Int × Int) = (-1, ((1 : Nat) : Int)) from rfl, skip_two (-1) X.length 1 (fun j h1 h2 => st1 (-1) j (by omega) (by
      obtain ⟨x, hx, hg⟩ := Wd_get_x (m := m) (p := p) (Y := Y) h1 (by omega : j ≤ X.length)
      exact ⟨x, by have := C.sx x hx; omega, hg⟩)), show 1 + X.length = X.length + 1 by omega, run_next st2, skip_two _ Y.length (X.length + 2) (fun j h1 h2 => st1 _ j (by omega) (by
      obtain ⟨x, hx, hg⟩ := Wd_get_y (m := m) (p := p) h1 h2
      exact ⟨x, by have := C.sy x hx; omega, hg⟩)), show X.length + 2 + Y.length = X.length + Y.length + 2 by omega]
    refine run_done ?_
    simp only [F_spec_l16Config_L1]
    rw [el, decide_eq_false (by omega), cond_false]
  have sx : slc (Wd m X p Y) 1 ((X.length + 1 : Nat) : Int) = some X := by
    have := slc_ok (xs := Wd m X p Y) (lo := 1) (hi := X.length + 1) (by omega) (by omega)
    rw [Wd_left] at this
    exact this
  have sy : slc (Wd m X p Y) ((X.length + 2 : Nat) : Int) ((X.length + Y.length + 2 : Nat) : Int) = some Y := by
    rw [slc_ok (by omega) (by omega), Wd_right]
  have hsm : Sml (⟨p, trimL X.reverse, trimL Y⟩ : GConfig) := by
    have h1 := trimL_len X.reverse
    have h2 := trimL_len Y
    rw [List.length_reverse] at h1
    have a1 : (trimL X.reverse).length ≤ 1048576 := by omega
    have a2 : (trimL Y).length ≤ 1048576 := by omega
    exact ⟨⟨a1, fun _ _ => trivial⟩, a2, fun _ _ => trivial⟩
  unfold F_spec_l16Config
  rw [eb, bnd_some_eq, decide_eq_false (by omega), cond_false, i0, bnd_some_eq, decide_eq_false (fun h => h rfl), cond_false, el, idx_get, Wd_get_last, bnd_some_eq, decide_eq_false (fun h => h rfl), cond_false, bnd_some_eq]
  simp only [Out.elim]
  rw [hrun, bnd_some_eq]
  simp only [Out.elim]
  rw [decide_eq_false (by omega), cond_false, idx_get, Wd_get_p, bnd_some_eq, sx, bnd_some_eq, e1 (X.length + 1) (by omega), sy, bnd_some_eq, spec_reverse _ (by omega), bnd_some_eq, spec_trim _ (by rw [List.length_reverse]; omega), bnd_some_eq, spec_trim _ (by omega), bnd_some_eq, show m.Symbols + p - m.Symbols = p by omega, w64_in (n := p) (by omega) (by omega), spec_good m _ (by omega) (by omega) hsm, bnd_some_eq]
  have := cfg_good C (by omega)
  unfold cfgW at this ⊢
  rw [this]
theorem spec_cfg0 (T : Tiny m s q) : ∃ r, F_spec_l16Config m [] = some r := by
  have eb : F_spec_l16Border m = some (w64 (m.Symbols + m.States)) := rfl
  unfold F_spec_l16Config
  rw [eb, bnd_some_eq, decide_eq_true (by decide), cond_true, bnd_some_eq]
  exact ⟨_, rfl⟩
theorem impl_cfg (T : Tiny m s q) (C : Cfw m X p Y) (hW : (Wd m X p Y).length ≤ 400) : ∃ b, F_impl_alphabet_shown ⟨m.Symbols, m.Symbols + m.States⟩ (Wd m X p Y) = some (cfgW X p Y, b) := by
  have hs := T.hs
  have hq := T.hq
  have b3 := T.b3
  have hp0 := C.p0
  have hp1 := C.p1
  have hl := Wd_len m X p Y
  have el : w64 (((Wd m X p Y).length : Int) - 1) = ((X.length + Y.length + 2 : Nat) : Int) := by rw [w64_in (by omega) (by omega)]; omega
  have i0 : idx (Wd m X p Y) 0 = some (m.Symbols + m.States) := rfl
  have sm : slc (Wd m X p Y) 1 ((X.length + Y.length + 2 : Nat) : Int) = some (X ++ ((m.Symbols + p) :: Y)) := by
    have := slc_ok (xs := Wd m X p Y) (lo := 1) (hi := X.length + Y.length + 2) (by omega) (by omega)
    rw [Wd_mid] at this
    exact this
  have hZ : (X ++ ((m.Symbols + p) :: Y)).length = X.length + Y.length + 1 := by rw [List.length_append, List.length_cons]; omega
  have hf : (X ++ ((m.Symbols + p) :: Y)).findIdx? (fun x => decide (m.Symbols ≤ x)) = some X.length := by
    have h1 : X.findIdx? (fun x => decide (m.Symbols ≤ x)) = none := by
      rw [List.findIdx?_eq_none_iff]
      intro x hx
      have := C.sx x hx
      exact decide_eq_false (by omega)
    rw [List.findIdx?_append, h1, List.findIdx?_cons, decide_eq_true (by omega)]
    simp
  have ip : idx (X ++ ((m.Symbols + p) :: Y)) (X.length : Int) = some (m.Symbols + p) := by
    rw [idx_get, List.getElem?_append_right (Nat.le_refl _), Nat.sub_self]
    rfl
  have sy : slc (X ++ ((m.Symbols + p) :: Y)) ((X.length + 1 : Nat) : Int) ((X ++ ((m.Symbols + p) :: Y)).length : Int) = some Y := by
    rw [slc_from (by omega), List.drop_append, List.drop_of_length_le (by omega), List.nil_append, show X.length + 1 - X.length = 1 by omega]
    rfl
  have hall : (Y.all fun x => inB x 0 (m.Symbols - 1)) = true := by
    rw [List.all_eq_true]
    intro x hx
    have := C.sy x hx
    exact inB_iff.2 (by omega)
  have hidx : F_slices_IndexFunc_Sint64_int64 (X ++ ((m.Symbols + p) :: Y)) (fun x_ => F_impl_alphabet_shown_1 x_ ⟨m.Symbols, m.Symbols + m.States⟩) = some (X.length : Int) := by
    have := impl_idxF (X ++ ((m.Symbols + p) :: Y)) (fun x_ => F_impl_alphabet_shown_1 x_ ⟨m.Symbols, m.Symbols + m.States⟩) (fun x => decide (m.Symbols ≤ x)) (fun x => rfl) (by omega)
    rw [hf] at this
    exact this
  unfold F_impl_alphabet_shown
  rw [el, decide_eq_false (by omega), cond_false, i0, bnd_some_eq, decide_eq_false (fun h => h rfl), cond_false, idx_get, Wd_get_last, bnd_some_eq, decide_eq_false (fun h => h rfl), cond_false, bnd_some_eq]
  simp only [Out.elim]
  rw [sm, bnd_some_eq, hidx, bnd_some_eq]
  rw [decide_eq_false (by omega), cond_false, ip, bnd_some_eq, decide_eq_false (by omega), cond_false, w64_nat1 (by omega), sy, bnd_some_eq, w64_in (n := m.Symbols - 1) (by omega) (by omega), impl_allWithin _ _ _ (by omega), hall, bnd_some_eq]
  simp only [Bool.not_true, cond_false, bnd_some_eq]
  rw [slc0 (by omega), bnd_some_eq, List.take_left, impl_reversed _ (by omega), bnd_some_eq, impl_clone' _ (by omega), bnd_some_eq, impl_trimmed _ (by rw [List.length_reverse]; omega), bnd_some_eq, impl_trimmed _ (by omega), bnd_some_eq, show m.Symbols + p - m.Symbols = p by omega, w64_in (n := p) (by omega) (by omega)]
  exact ⟨_, rfl⟩
end
end Go.Fn
