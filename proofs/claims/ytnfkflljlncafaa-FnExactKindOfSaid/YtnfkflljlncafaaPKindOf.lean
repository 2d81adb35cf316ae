/-
  The plain functions of KindOf agree. No condition.
-/
import Derived.Test.YtnfkflljlncafaaHelp
namespace Go.Fn
open Go Go.Tc

theorem spec_kind_find (L : List ByteArray) (e x : ByteArray) (hn : L.length ≤ 1000) :
    bnd (run (F_spec_KindOf_L1 x (e :: L)) 1) (Out.elim (fun (_ : Int) => some 0) (fun (r : Int) => some r)) = some (match L.findIdx? (fun y => y.toList == x.toList) with | none => 0 | some i => ((i + 1 : Nat) : Int)) := by
  have key : ∀ k i, i + k = L.length → bnd (run (F_spec_KindOf_L1 x (e :: L)) ((i + 1 : Nat) : Int)) (Out.elim (fun (_ : Int) => some 0) (fun (r : Int) => some r)) = some (match (L.drop i).findIdx? (fun y => y.toList == x.toList) with | none => 0 | some j => ((i + j + 1 : Nat) : Int)) := by
    intro k
    induction k with
    | zero =>
      intro i hi
      obtain rfl : i = L.length := by omega
      rw [run_done (x := .brk ((L.length + 1 : Nat) : Int)) (by simp [F_spec_KindOf_L1]), List.drop_length]
      rfl
    | succ k ih =>
      intro i hi
      have hlt : i < L.length := by omega
      have hlt' : i + 1 < (e :: L).length := by simp; omega
      rw [List.drop_eq_getElem_cons hlt, List.findIdx?_cons]
      have hb : F_spec_KindOf_L1 x (e :: L) ((i + 1 : Nat) : Int) = some (cond (L[i].toList == x.toList) (.inr (.ret ((i + 1 : Nat) : Int))) (.inl (w64 (((i + 1 : Nat) : Int) + 1)))) := by
        simp only [F_spec_KindOf_L1, Int.ofNat_lt, hlt', decide_true, cond_true, idx_nat hlt', bnd_some_eq, List.getElem_cons_succ]
        cases L[i].toList == x.toList <;> rfl
      cases hp : L[i].toList == x.toList with
      | true =>
        rw [hp] at hb
        rw [run_done hb]
        rfl
      | false =>
        rw [hp] at hb
        rw [run_next hb, w64_nat1 (by omega), ih (i + 1) (by omega)]
        simp only [Bool.false_eq_true, if_false]
        cases (L.drop (i + 1)).findIdx? (fun y => y.toList == x.toList) with
        | none => rfl
        | some j => simp only [Option.map_some]; congr 2; omega
  have := key L.length 0 (by omega)
  rw [List.drop_zero] at this
  rw [show run (F_spec_KindOf_L1 x (e :: L)) 1 = run (F_spec_KindOf_L1 x (e :: L)) ((0 + 1 : Nat) : Int) from rfl, this]
  cases L.findIdx? (fun y => y.toList == x.toList) with
  | none => rfl
  | some j => simp
theorem law_KindOf (x : ByteArray) (_ : Wf.wf x) : F_laws_FnExactKindOf x = some true := by
  unfold F_laws_FnExactKindOf
  have h1 : ∃ L : List ByteArray, L.length ≤ 1000 ∧ F_impl_kindNamesInOrder = some L ∧ F_spec_l34Kinds = some ((⟨#[]⟩ : ByteArray) :: L) := ⟨_, by decide, rfl, rfl⟩
  obtain ⟨L, hL, e1, e2⟩ := h1
  have hs : F_spec_KindOf x = F_impl_KindOf x := by
    unfold F_spec_KindOf F_impl_KindOf F_slices_Index_Sstring_string
    rw [e1, e2, bnd_some_eq, bnd_some_eq, spec_kind_find L _ x hL, run_find L (by omega) (fun y => y.toList == x.toList) (fun i hi => by
      simp only [F_slices_Index_Sstring_string_L1, Int.ofNat_lt, hi, decide_true, cond_true, idx_nat hi, bnd_some_eq]
      rw [BEq.comm]
      cases L[i].toList == x.toList <;> rfl) (by simp [F_slices_Index_Sstring_string_L1])]
    cases h : L.findIdx? (fun y => y.toList == x.toList) with
    | none => rfl
    | some j =>
      have hj : j < L.length := by
        rw [List.findIdx?_eq_some_iff_getElem] at h
        exact h.1
      simp only [bnd_some_eq]
      rw [w64_nat1 (by omega)]
  have hsome : ∃ r, F_impl_KindOf x = some r := by
    rw [← hs]
    unfold F_spec_KindOf
    rw [e2, bnd_some_eq, spec_kind_find L _ x hL]
    exact ⟨_, rfl⟩
  obtain ⟨r, hr⟩ := hsome
  rw [hs, hr]
  cases decide (1048576 < (x.size : Int)) <;> simp
end Go.Fn
