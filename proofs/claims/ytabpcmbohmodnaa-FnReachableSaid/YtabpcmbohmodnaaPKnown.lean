/-
  The eight known machines: their texts are read. No program in sight. No condition.
  The twins T_* are the plain functions with a bound on their rounds, printed by a program of ours.
-/
import Derived.Test.YtabpcmbohmodnaaPTRun
import Derived.Test.YtabpcmbohmodnaaPSrc
import Derived.Test.YtabpcmbohmodnaaPTwin
namespace Go.Fn
open Go Go.Tc
noncomputable def T_spec_l01Split_L1 (p0 : ByteArray) (p1 : (Ik .u8)) (s2 : (List ByteArray) × Int × Int) : Option (((List ByteArray) × Int × Int) ⊕ Out ((List ByteArray) × Int × Int) (List ByteArray)) :=
  (cond (decide (s2.2.2 < (p0.size : Int))) (bnd (bidx p0 s2.2.2) fun y5 => (cond (decide (y5 = p1.val)) (bnd (bslc p0 s2.2.1 s2.2.2) fun z8 => bnd (app s2.1 ([z8] : List ByteArray)) fun z11 => some (.inl (z11, (w64 (s2.2.2 + 1)), (w64 (s2.2.2 + 1))))) (some (.inl (s2.1, s2.2.1, (w64 (s2.2.2 + 1))))))) (some (.inr (.brk (s2.1, s2.2.1, s2.2.2)))))
noncomputable def T_spec_l01Split (p0 : ByteArray) (p1 : (Ik .u8)) : Option ((List ByteArray)) :=
  bnd (runK 64 (T_spec_l01Split_L1 p0 p1) (([] : List ByteArray), 0, 0)) (Out.elim (fun (s2 : (List ByteArray) × Int × Int) => bnd (bslc p0 s2.2.1 (p0.size : Int)) fun z14 => bnd (app s2.1 ([z14] : List ByteArray)) fun z17 => some z17) (fun (r : (List ByteArray)) => some r))
noncomputable def T_spec_l01Number_L1 (p0 : ByteArray) (s15 : Int × Int) : Option ((Int × Int) ⊕ Out (Int × Int) (Int × Bool)) :=
  (cond (decide (s15.2 < (p0.size : Int))) (bnd (bidx p0 s15.2) fun y18 => bnd (F_spec_l01Digit (⟨y18⟩ : Ik .u8)) fun r20 => (cond (!r20) (some (.inr (.ret (0, false)))) (bnd (bidx p0 s15.2) fun y23 => some (.inl ((w64 ((w64 (10 * s15.1)) + (w64 (wk .u8 (y23 - 48))))), (w64 (s15.2 + 1))))))) (some (.inr (.brk (s15.1, s15.2)))))
noncomputable def T_spec_l01Number (p0 : ByteArray) : Option (Int × Bool) :=
  bnd ((cond (decide (0 < (p0.size : Int))) (bnd (bidx p0 0) fun y4 => (cond (decide (y4 = 45)) (some (.brk 1)) (some (.brk 0)))) (some (.brk 0))) : Option (Out (Int) (Int × Bool))) (Out.elim (fun (s1 : Int) => bnd ((cond (decide ((p0.size : Int) = s1)) (some (.ret (0, false))) (cond (decide (18 < (w64 ((p0.size : Int) - s1)))) (some (.ret (0, false))) (bnd (bidx p0 s1) fun y11 => (cond (decide (y11 = 48)) (cond (decide (1 < (p0.size : Int))) (some (.ret (0, false))) (some (.brk ()))) (some (.brk ())))))) : Option (Out (Unit) (Int × Bool))) (Out.elim (fun (s7 : Unit) => bnd (runK 64 (T_spec_l01Number_L1 p0) (0, s1)) (Out.elim (fun (s15 : Int × Int) => (cond (decide (s1 = 1)) (some ((w64 (0 - s15.1)), true)) (some (s15.1, true)))) (fun (r : Int × Bool) => some r))) (fun (r : Int × Bool) => some r))) (fun (r : Int × Bool) => some r))
noncomputable def T_spec_l05ReadRule (p0 : ByteArray) : Option (GRule × Bool) :=
  (cond (p0.data.toList == (⟨#[45, 45, 45]⟩ : ByteArray).data.toList) (bnd F_spec_l05None fun r3 => some (r3, true)) (bnd ((cond (decide ((p0.size : Int) < 3)) (some (.ret ((⟨0, 0, 0⟩ : GRule), false))) (bnd (bidx p0 0) fun y8 => bnd (F_spec_l01Digit (⟨y8⟩ : Ik .u8)) fun r10 => (cond (!r10) (some (.ret ((⟨0, 0, 0⟩ : GRule), false))) (bnd (bidx p0 1) fun y13 => (cond (decide (y13 ≠ 76)) (bnd (bidx p0 1) fun y16 => (cond (decide (y16 ≠ 82)) (some (.ret ((⟨0, 0, 0⟩ : GRule), false))) (some (.brk ())))) (some (.brk ()))))))) : Option (Out (Unit) (GRule × Bool))) (Out.elim (fun (s5 : Unit) => bnd (bslc p0 2 (p0.size : Int)) fun z19 => bnd (T_spec_l01Number z19) fun r21 => bnd (bidx p0 0) fun y23 => bnd (bidx p0 1) fun y26 => (cond (decide (y26 = 76)) (cond r21.2 (some ((⟨(w64 (wk .u8 (y23 - 48))), (-1), r21.1⟩ : GRule), (decide (0 ≤ r21.1)))) (some ((⟨(w64 (wk .u8 (y23 - 48))), (-1), r21.1⟩ : GRule), false))) (cond r21.2 (some ((⟨(w64 (wk .u8 (y23 - 48))), 1, r21.1⟩ : GRule), (decide (0 ≤ r21.1)))) (some ((⟨(w64 (wk .u8 (y23 - 48))), 1, r21.1⟩ : GRule), false))))) (fun (r : GRule × Bool) => some r))))
noncomputable def T_spec_l05Is_L1 (p0 : GMachine) (s31 : Int) : Option ((Int) ⊕ Out (Int) Bool) :=
  (cond (decide (s31 < (p0.Rules.length : Int))) (bnd (idx p0.Rules s31) fun y38 => bnd (F_spec_l05Rule y38 p0.Symbols p0.States) fun r49 => (cond (!r49) (some (.inr (.ret false))) (some (.inl (w64 (s31 + 1)))))) (some (.inr (.brk s31))))
noncomputable def T_spec_l05Is (p0 : GMachine) : Option (Bool) :=
  bnd (bnd (F_spec_l00In p0.Symbols 2 6) fun r8 => (cond (!r8) (some (.ret false)) (bnd (F_spec_l00In p0.States 1 1000) fun r15 => (cond (!r15) (some (.ret false)) (cond (decide ((p0.Rules.length : Int) ≠ (w64 (p0.Symbols * p0.States)))) (some (.ret false)) (some (.brk ())))))) : Option (Out (Unit) Bool)) (Out.elim (fun (s1 : Unit) => bnd (runK 64 (T_spec_l05Is_L1 p0) 0) (Out.elim (fun (s31 : Int) => some true) (fun (r : Bool) => some r))) (fun (r : Bool) => some r))
noncomputable def T_spec_l05Read_L2 (r21 : (List ByteArray)) (s28 : (List GRule) × Int) : Option (((List GRule) × Int) ⊕ Out ((List GRule) × Int) (GMachine × Bool)) :=
  (cond (decide (s28.2 < (r21.length : Int))) (bnd (idx r21 s28.2) fun y31 => bnd (T_spec_l05ReadRule y31) fun r36 => (cond (!r36.2) (some (.inr (.ret ((⟨0, 0, ([] : (List GRule))⟩ : GMachine), false)))) (bnd (app s28.1 ([r36.1] : List GRule)) fun z41 => some (.inl (z41, (w64 (s28.2 + 1))))))) (some (.inr (.brk (s28.1, s28.2)))))
noncomputable def T_spec_l05Read_L1 (r2 : (List ByteArray)) (r11 : (List ByteArray)) (s15 : (List GRule) × Int) : Option (((List GRule) × Int) ⊕ Out ((List GRule) × Int) (GMachine × Bool)) :=
  (cond (decide (s15.2 < (r2.length : Int))) (bnd (idx r2 s15.2) fun y18 => bnd (T_spec_l01Split y18 (⟨44⟩ : Ik .u8)) fun r21 => bnd ((cond (decide ((r21.length : Int) ≠ (r11.length : Int))) (some (.ret ((⟨0, 0, ([] : (List GRule))⟩ : GMachine), false))) (cond (decide (6 < (r11.length : Int))) (some (.ret ((⟨0, 0, ([] : (List GRule))⟩ : GMachine), false))) (some (.brk ())))) : Option (Out (Unit) (GMachine × Bool))) (Out.elim (fun (s24 : Unit) => bnd (runK 64 (T_spec_l05Read_L2 r21) (s15.1, 0)) (Out.elim (fun (s28 : (List GRule) × Int) => some (.inl (s28.1, (w64 (s15.2 + 1))))) (fun (r : GMachine × Bool) => some (.inr (.ret r))))) (fun (r : GMachine × Bool) => some (.inr (.ret r))))) (some (.inr (.brk (s15.1, s15.2)))))
noncomputable def T_spec_l05Read (p0 : ByteArray) : Option (GMachine × Bool) :=
  bnd (T_spec_l01Split p0 (⟨59⟩ : Ik .u8)) fun r2 => (cond (decide (1000 < (r2.length : Int))) (some ((⟨0, 0, ([] : (List GRule))⟩ : GMachine), false)) (bnd (idx r2 0) fun y6 => bnd (T_spec_l01Split y6 (⟨44⟩ : Ik .u8)) fun r11 => bnd (runK 64 (T_spec_l05Read_L1 r2 r11) (([] : (List GRule)), 0)) (Out.elim (fun (s15 : (List GRule) × Int) => bnd (T_spec_l05Is (⟨(r11.length : Int), (r2.length : Int), s15.1⟩ : GMachine)) fun r44 => (cond (!r44) (some ((⟨0, 0, ([] : (List GRule))⟩ : GMachine), false)) (some ((⟨(r11.length : Int), (r2.length : Int), s15.1⟩ : GMachine), true)))) (fun (r : GMachine × Bool) => some r))))
theorem le_spec_l01Split_L1 (p0 : ByteArray) (p1 : (Ik .u8)) (s2 : (List ByteArray) × Int × Int) : OLe (T_spec_l01Split_L1 p0 p1 s2) (F_spec_l01Split_L1 p0 p1 s2) := by
  unfold T_spec_l01Split_L1 F_spec_l01Split_L1
  repeat' first | with_reducible exact OLe.refl _ | with_reducible refine OLe.cond _ ?_ ?_ | with_reducible refine OLe.bnd ?_ (fun _ => ?_) | with_reducible refine OLe.elim _ (fun _ => ?_) (fun _ => ?_) | with_reducible refine OLe.runK (fun _ => ?_)
theorem le_spec_l01Split (p0 : ByteArray) (p1 : (Ik .u8)) : OLe (T_spec_l01Split p0 p1) (F_spec_l01Split p0 p1) := by
  unfold T_spec_l01Split F_spec_l01Split
  repeat' first | with_reducible exact OLe.refl _ | with_reducible exact le_spec_l01Split_L1 _ _ _ | with_reducible refine OLe.cond _ ?_ ?_ | with_reducible refine OLe.bnd ?_ (fun _ => ?_) | with_reducible refine OLe.elim _ (fun _ => ?_) (fun _ => ?_) | with_reducible refine OLe.runK (fun _ => ?_)
theorem le_spec_l01Number_L1 (p0 : ByteArray) (s15 : Int × Int) : OLe (T_spec_l01Number_L1 p0 s15) (F_spec_l01Number_L1 p0 s15) := by
  unfold T_spec_l01Number_L1 F_spec_l01Number_L1
  repeat' first | with_reducible exact OLe.refl _ | with_reducible refine OLe.cond _ ?_ ?_ | with_reducible refine OLe.bnd ?_ (fun _ => ?_) | with_reducible refine OLe.elim _ (fun _ => ?_) (fun _ => ?_) | with_reducible refine OLe.runK (fun _ => ?_)
theorem le_spec_l01Number (p0 : ByteArray) : OLe (T_spec_l01Number p0) (F_spec_l01Number p0) := by
  unfold T_spec_l01Number F_spec_l01Number
  repeat' first | with_reducible exact OLe.refl _ | with_reducible exact le_spec_l01Number_L1 _ _ | with_reducible refine OLe.cond _ ?_ ?_ | with_reducible refine OLe.bnd ?_ (fun _ => ?_) | with_reducible refine OLe.elim _ (fun _ => ?_) (fun _ => ?_) | with_reducible refine OLe.runK (fun _ => ?_)
theorem le_spec_l05ReadRule (p0 : ByteArray) : OLe (T_spec_l05ReadRule p0) (F_spec_l05ReadRule p0) := by
  unfold T_spec_l05ReadRule F_spec_l05ReadRule
  simp only [bl_data]
  repeat' first | with_reducible exact OLe.refl _ | with_reducible exact le_spec_l01Number _ | with_reducible refine OLe.cond _ ?_ ?_ | with_reducible refine OLe.bnd ?_ (fun _ => ?_) | with_reducible refine OLe.elim _ (fun _ => ?_) (fun _ => ?_) | with_reducible refine OLe.runK (fun _ => ?_)
theorem le_spec_l05Is_L1 (p0 : GMachine) (s31 : Int) : OLe (T_spec_l05Is_L1 p0 s31) (F_spec_l05Is_L1 p0 s31) := by
  unfold T_spec_l05Is_L1 F_spec_l05Is_L1
  repeat' first | with_reducible exact OLe.refl _ | with_reducible refine OLe.cond _ ?_ ?_ | with_reducible refine OLe.bnd ?_ (fun _ => ?_) | with_reducible refine OLe.elim _ (fun _ => ?_) (fun _ => ?_) | with_reducible refine OLe.runK (fun _ => ?_)
theorem le_spec_l05Is (p0 : GMachine) : OLe (T_spec_l05Is p0) (F_spec_l05Is p0) := by
  unfold T_spec_l05Is F_spec_l05Is
  repeat' first | with_reducible exact OLe.refl _ | with_reducible exact le_spec_l05Is_L1 _ _ | with_reducible refine OLe.cond _ ?_ ?_ | with_reducible refine OLe.bnd ?_ (fun _ => ?_) | with_reducible refine OLe.elim _ (fun _ => ?_) (fun _ => ?_) | with_reducible refine OLe.runK (fun _ => ?_)
theorem le_spec_l05Read_L2 (r21 : (List ByteArray)) (s28 : (List GRule) × Int) : OLe (T_spec_l05Read_L2 r21 s28) (F_spec_l05Read_L2 r21 s28) := by
  unfold T_spec_l05Read_L2 F_spec_l05Read_L2
  repeat' first | with_reducible exact OLe.refl _ | with_reducible exact le_spec_l05ReadRule _ | with_reducible refine OLe.cond _ ?_ ?_ | with_reducible refine OLe.bnd ?_ (fun _ => ?_) | with_reducible refine OLe.elim _ (fun _ => ?_) (fun _ => ?_) | with_reducible refine OLe.runK (fun _ => ?_)
theorem le_spec_l05Read_L1 (r2 : (List ByteArray)) (r11 : (List ByteArray)) (s15 : (List GRule) × Int) : OLe (T_spec_l05Read_L1 r2 r11 s15) (F_spec_l05Read_L1 r2 r11 s15) := by
  unfold T_spec_l05Read_L1 F_spec_l05Read_L1
  repeat' first | with_reducible exact OLe.refl _ | with_reducible exact le_spec_l01Split _ _ | with_reducible exact le_spec_l05Read_L2 _ _ | with_reducible refine OLe.cond _ ?_ ?_ | with_reducible refine OLe.bnd ?_ (fun _ => ?_) | with_reducible refine OLe.elim _ (fun _ => ?_) (fun _ => ?_) | with_reducible refine OLe.runK (fun _ => ?_)
theorem le_spec_l05Read (p0 : ByteArray) : OLe (T_spec_l05Read p0) (F_spec_l05Read p0) := by
  unfold T_spec_l05Read F_spec_l05Read
  repeat' first | with_reducible exact OLe.refl _ | with_reducible exact le_spec_l01Split _ _ | with_reducible exact le_spec_l05Is _ | with_reducible exact le_spec_l05Read_L1 _ _ _ | with_reducible refine OLe.cond _ ?_ ?_ | with_reducible refine OLe.bnd ?_ (fun _ => ?_) | with_reducible refine OLe.elim _ (fun _ => ?_) (fun _ => ?_) | with_reducible refine OLe.runK (fun _ => ?_)

def knownL : List ByteArray := [(⟨#[49, 82, 49, 44, 49, 76, 49, 59, 49, 76, 48, 44, 45, 45, 45]⟩ : ByteArray), (⟨#[49, 82, 49, 44, 45, 45, 45, 59, 49, 76, 49, 44, 48, 82, 50, 59, 49, 76, 50, 44, 49, 76, 48]⟩ : ByteArray), (⟨#[49, 82, 49, 44, 49, 76, 49, 59, 49, 76, 48, 44, 48, 76, 50, 59, 45, 45, 45, 44, 49, 76, 51, 59, 49, 82, 51, 44, 48, 82, 48]⟩ : ByteArray), (⟨#[49, 82, 48, 44, 45, 45, 45]⟩ : ByteArray), (⟨#[49, 82, 49, 44, 48, 82, 48, 59, 49, 76, 48, 44, 49, 82, 49]⟩ : ByteArray), (⟨#[49, 82, 49, 44, 50, 76, 49, 44, 45, 45, 45, 59, 50, 76, 48, 44, 50, 82, 49, 44, 49, 76, 49]⟩ : ByteArray), (⟨#[49, 76, 48, 44, 49, 82, 49, 59, 49, 82, 48, 44, 48, 76, 49]⟩ : ByteArray), (⟨#[49, 82, 49, 44, 49, 82, 48, 59, 49, 76, 48, 44, 49, 76, 49]⟩ : ByteArray)]
noncomputable def knownOk (t : ByteArray) : Bool := match T_spec_l05Read t with
  | some (m, b) => b && (machB m && decide (m.States ≤ 100))
  | none => false
set_option maxRecDepth 100000 in
theorem known_all : knownL.all knownOk = true := by decide +kernel
theorem read_known {t : ByteArray} (h : t ∈ knownL) : ∃ m, F_spec_l05Read t = some (m, true) ∧ machB m = true ∧ m.States ≤ 100 := by
  have h1 := List.all_eq_true.1 known_all t h
  unfold knownOk at h1
  split at h1
  · rename_i m b e
    rw [Bool.and_eq_true, Bool.and_eq_true, decide_eq_true_eq] at h1
    exact ⟨m, by rw [le_spec_l05Read t _ e, h1.1], h1.2⟩
  · cases h1
end Go.Fn
