/-
  The six known lists of dominoes: their texts are read. No program in sight. No condition.
  The twins T_* are the plain functions with a bound on their rounds, printed by a program of ours.
-/
import Derived.Test.YtgojoooilijiiaaPTwin
import Derived.Test.YtgojoooilijiiaaPSrc
import Derived.Test.YtgojoooilijiiaaPDom
namespace Go.Fn
open Go Go.Tc
noncomputable def T_spec_l01Split_L1 (p0 : ByteArray) (p1 : (Ik .u8)) (s2 : (List ByteArray) × Int × Int) : Option (((List ByteArray) × Int × Int) ⊕ Out ((List ByteArray) × Int × Int) (List ByteArray)) :=
  (cond (decide (s2.2.2 < (p0.size : Int))) (bnd (bidx p0 s2.2.2) fun y5 => (cond (decide (y5 = p1.val)) (bnd (bslc p0 s2.2.1 s2.2.2) fun z8 => bnd (app s2.1 ([z8] : List ByteArray)) fun z11 => some (.inl (z11, (w64 (s2.2.2 + 1)), (w64 (s2.2.2 + 1))))) (some (.inl (s2.1, s2.2.1, (w64 (s2.2.2 + 1))))))) (some (.inr (.brk (s2.1, s2.2.1, s2.2.2)))))
noncomputable def T_spec_l01Split (p0 : ByteArray) (p1 : (Ik .u8)) : Option ((List ByteArray)) :=
  bnd (runK 64 (T_spec_l01Split_L1 p0 p1) (([] : List ByteArray), 0, 0)) (Out.elim (fun (s2 : (List ByteArray) × Int × Int) => bnd (bslc p0 s2.2.1 (p0.size : Int)) fun z14 => bnd (app s2.1 ([z14] : List ByteArray)) fun z17 => some z17) (fun (r : (List ByteArray)) => some r))
noncomputable def T_spec_l03Read_L1 (p0 : ByteArray) (s3 : (List Int) × Int) : Option (((List Int) × Int) ⊕ Out ((List Int) × Int) ((List Int) × Bool)) :=
  (cond (decide (s3.2 < (p0.size : Int))) (bnd (bidx p0 s3.2) fun y6 => bnd (F_spec_l01Digit (⟨y6⟩ : Ik .u8)) fun r8 => (cond (!r8) (some (.inr (.ret (([] : (List Int)), false)))) (bnd (bidx p0 s3.2) fun y11 => bnd (app s3.1 ([(w64 (wk .u8 (y11 - 48)))] : List Int)) fun z14 => some (.inl (z14, (w64 (s3.2 + 1))))))) (some (.inr (.brk (s3.1, s3.2)))))
noncomputable def T_spec_l03Read (p0 : ByteArray) : Option ((List Int) × Bool) :=
  (cond (p0.data.toList == (⟨#[45]⟩ : ByteArray).data.toList) (some (([] : List Int), true)) (bnd (runK 64 (T_spec_l03Read_L1 p0) (([] : List Int), 0)) (Out.elim (fun (s3 : (List Int) × Int) => (cond (decide (0 < (s3.1.length : Int))) (some (s3.1, (decide ((s3.1.length : Int) ≤ 400)))) (some (s3.1, false)))) (fun (r : (List Int) × Bool) => some r))))
noncomputable def T_spec_l03Is_L1 (p0 : (List Int)) (s1 : Int) : Option ((Int) ⊕ Out (Int) Bool) :=
  (cond (decide (s1 < (p0.length : Int))) (bnd (idx p0 s1) fun y4 => bnd (F_spec_l00In y4 0 9) fun r8 => (cond (!r8) (some (.inr (.ret false))) (some (.inl (w64 (s1 + 1)))))) (some (.inr (.brk s1))))
noncomputable def T_spec_l03Is (p0 : (List Int)) : Option (Bool) :=
  bnd (runK 64 (T_spec_l03Is_L1 p0) 0) (Out.elim (fun (s1 : Int) => some (decide ((p0.length : Int) ≤ 400))) (fun (r : Bool) => some r))
noncomputable def T_spec_l32Is_L1 (p0 : (List GDomino)) (s5 : Int) : Option ((Int) ⊕ Out (Int) Bool) :=
  (cond (decide (s5 < (p0.length : Int))) (bnd (idx p0 s5) fun y8 => bnd (T_spec_l03Is y8.Top) fun r16 => (cond (!r16) (some (.inr (.ret false))) (bnd (idx p0 s5) fun y19 => bnd (T_spec_l03Is y19.Bottom) fun r27 => (cond (!r27) (some (.inr (.ret false))) (bnd (idx p0 s5) fun y30 => bnd (idx p0 s5) fun y38 => (cond (decide ((w64 ((y30.Top.length : Int) + (y38.Bottom.length : Int))) = 0)) (some (.inr (.ret false))) (some (.inl (w64 (s5 + 1)))))))))) (some (.inr (.brk s5))))
noncomputable def T_spec_l32Is (p0 : (List GDomino)) : Option (Bool) :=
  bnd ((cond (decide ((p0.length : Int) < 1)) (some (.ret false)) (cond (decide (80 < (p0.length : Int))) (some (.ret false)) (some (.brk ())))) : Option (Out (Unit) Bool)) (Out.elim (fun (s1 : Unit) => bnd (runK 64 (T_spec_l32Is_L1 p0) 0) (Out.elim (fun (s5 : Int) => some true) (fun (r : Bool) => some r))) (fun (r : Bool) => some r))
noncomputable def T_spec_l03Text_L1 (p0 : (List Int)) (s3 : (List (Ik .u8)) × Int) : Option (((List (Ik .u8)) × Int) ⊕ Out ((List (Ik .u8)) × Int) ByteArray) :=
  (cond (decide (s3.2 < (p0.length : Int))) (bnd (idx p0 s3.2) fun y6 => bnd (app s3.1 ([(⟨(wk .u8 (w64 (48 + y6)))⟩ : Ik .u8)] : List (Ik .u8))) fun z11 => some (.inl (z11, (w64 (s3.2 + 1))))) (some (.inr (.brk (s3.1, s3.2)))))
noncomputable def T_spec_l03Text (p0 : (List Int)) : Option (ByteArray) :=
  (cond (decide ((p0.length : Int) = 0)) (some (⟨#[45]⟩ : ByteArray)) (bnd (runK 64 (T_spec_l03Text_L1 p0) (([] : List (Ik .u8)), 0)) (Out.elim (fun (s3 : (List (Ik .u8)) × Int) => some (strOf s3.1)) (fun (r : ByteArray) => some r))))
noncomputable def T_spec_l32Text_L1 (p0 : (List GDomino)) (s1 : ByteArray × Int) : Option ((ByteArray × Int) ⊕ Out (ByteArray × Int) ByteArray) :=
  (cond (decide (s1.2 < (p0.length : Int))) (bnd ((cond (decide (0 < s1.2)) (bnd (cat s1.1 (⟨#[32]⟩ : ByteArray)) fun z7 => some (.brk z7)) (some (.brk s1.1))) : Option (Out (ByteArray) ByteArray)) (Out.elim (fun (s4 : ByteArray) => bnd (idx p0 s1.2) fun y9 => bnd (idx p0 s1.2) fun y14 => bnd (T_spec_l03Text y9.Top) fun r22 => bnd (cat r22 (⟨#[47]⟩ : ByteArray)) fun z24 => bnd (T_spec_l03Text y14.Bottom) fun r26 => bnd (cat z24 r26) fun z28 => bnd (cat s4 z28) fun z30 => some (.inl (z30, (w64 (s1.2 + 1))))) (fun (r : ByteArray) => some (.inr (.ret r))))) (some (.inr (.brk (s1.1, s1.2)))))
noncomputable def T_spec_l32Text (p0 : (List GDomino)) : Option (ByteArray) :=
  bnd (runK 64 (T_spec_l32Text_L1 p0) ((⟨#[]⟩ : ByteArray), 0)) (Out.elim (fun (s1 : ByteArray × Int) => some s1.1) (fun (r : ByteArray) => some r))
noncomputable def T_spec_ReadDominoes_L1 (r1 : (List ByteArray)) (s6 : (List GDomino) × Int) : Option (((List GDomino) × Int) ⊕ Out ((List GDomino) × Int) ((List GDomino) × Bool)) :=
  (cond (decide (s6.2 < (r1.length : Int))) (bnd (idx r1 s6.2) fun y9 => bnd (T_spec_l01Split y9 (⟨47⟩ : Ik .u8)) fun r14 => (cond (decide ((r14.length : Int) ≠ 2)) (some (.inr (.ret (([] : (List GDomino)), false)))) (bnd (idx r14 0) fun y18 => bnd (T_spec_l03Read y18) fun r23 => bnd (idx r14 1) fun y26 => bnd (T_spec_l03Read y26) fun r29 => (cond (!r23.2) (some (.inr (.ret (([] : (List GDomino)), false)))) (cond (!r29.2) (some (.inr (.ret (([] : (List GDomino)), false)))) (bnd (app s6.1 ([(⟨r23.1, r29.1⟩ : GDomino)] : List GDomino)) fun z35 => some (.inl (z35, (w64 (s6.2 + 1)))))))))) (some (.inr (.brk (s6.1, s6.2)))))
noncomputable def T_spec_ReadDominoes (p0 : ByteArray) : Option ((List GDomino) × Bool) :=
  bnd (T_spec_l01Split p0 (⟨32⟩ : Ik .u8)) fun r1 => (cond (decide (80 < (r1.length : Int))) (some (([] : (List GDomino)), false)) (bnd (runK 64 (T_spec_ReadDominoes_L1 r1) (([] : List GDomino), 0)) (Out.elim (fun (s6 : (List GDomino) × Int) => bnd (T_spec_l32Is s6.1) fun r38 => (cond (!r38) (some (([] : (List GDomino)), false)) (bnd (T_spec_l32Text s6.1) fun r41 => (cond (!(r41.data.toList == p0.data.toList)) (some (([] : (List GDomino)), false)) (some (s6.1, true)))))) (fun (r : (List GDomino) × Bool) => some r))))
theorem le_spec_l01Split_L1 (p0 : ByteArray) (p1 : (Ik .u8)) (s2 : (List ByteArray) × Int × Int) : OLe (T_spec_l01Split_L1 p0 p1 s2) (F_spec_l01Split_L1 p0 p1 s2) := by
  unfold T_spec_l01Split_L1 F_spec_l01Split_L1
  repeat' first | with_reducible exact OLe.refl _ | with_reducible refine OLe.cond _ ?_ ?_ | with_reducible refine OLe.bnd ?_ (fun _ => ?_) | with_reducible refine OLe.elim _ (fun _ => ?_) (fun _ => ?_) | with_reducible refine OLe.runK (fun _ => ?_)
theorem le_spec_l01Split (p0 : ByteArray) (p1 : (Ik .u8)) : OLe (T_spec_l01Split p0 p1) (F_spec_l01Split p0 p1) := by
  unfold T_spec_l01Split F_spec_l01Split
  repeat' first | with_reducible exact OLe.refl _ | with_reducible exact le_spec_l01Split_L1 _ _ _ | with_reducible refine OLe.cond _ ?_ ?_ | with_reducible refine OLe.bnd ?_ (fun _ => ?_) | with_reducible refine OLe.elim _ (fun _ => ?_) (fun _ => ?_) | with_reducible refine OLe.runK (fun _ => ?_)
theorem le_spec_l03Read_L1 (p0 : ByteArray) (s3 : (List Int) × Int) : OLe (T_spec_l03Read_L1 p0 s3) (F_spec_l03Read_L1 p0 s3) := by
  unfold T_spec_l03Read_L1 F_spec_l03Read_L1
  repeat' first | with_reducible exact OLe.refl _ | with_reducible refine OLe.cond _ ?_ ?_ | with_reducible refine OLe.bnd ?_ (fun _ => ?_) | with_reducible refine OLe.elim _ (fun _ => ?_) (fun _ => ?_) | with_reducible refine OLe.runK (fun _ => ?_)
theorem le_spec_l03Read (p0 : ByteArray) : OLe (T_spec_l03Read p0) (F_spec_l03Read p0) := by
  unfold T_spec_l03Read F_spec_l03Read
  simp only [bl_data]
  repeat' first | with_reducible exact OLe.refl _ | with_reducible exact le_spec_l03Read_L1 _ _ | with_reducible refine OLe.cond _ ?_ ?_ | with_reducible refine OLe.bnd ?_ (fun _ => ?_) | with_reducible refine OLe.elim _ (fun _ => ?_) (fun _ => ?_) | with_reducible refine OLe.runK (fun _ => ?_)
theorem le_spec_l03Is_L1 (p0 : (List Int)) (s1 : Int) : OLe (T_spec_l03Is_L1 p0 s1) (F_spec_l03Is_L1 p0 s1) := by
  unfold T_spec_l03Is_L1 F_spec_l03Is_L1
  repeat' first | with_reducible exact OLe.refl _ | with_reducible refine OLe.cond _ ?_ ?_ | with_reducible refine OLe.bnd ?_ (fun _ => ?_) | with_reducible refine OLe.elim _ (fun _ => ?_) (fun _ => ?_) | with_reducible refine OLe.runK (fun _ => ?_)
theorem le_spec_l03Is (p0 : (List Int)) : OLe (T_spec_l03Is p0) (F_spec_l03Is p0) := by
  unfold T_spec_l03Is F_spec_l03Is
  repeat' first | with_reducible exact OLe.refl _ | with_reducible exact le_spec_l03Is_L1 _ _ | with_reducible refine OLe.cond _ ?_ ?_ | with_reducible refine OLe.bnd ?_ (fun _ => ?_) | with_reducible refine OLe.elim _ (fun _ => ?_) (fun _ => ?_) | with_reducible refine OLe.runK (fun _ => ?_)
theorem le_spec_l32Is_L1 (p0 : (List GDomino)) (s5 : Int) : OLe (T_spec_l32Is_L1 p0 s5) (F_spec_l32Is_L1 p0 s5) := by
  unfold T_spec_l32Is_L1 F_spec_l32Is_L1
  repeat' first | with_reducible exact OLe.refl _ | with_reducible exact le_spec_l03Is _ | with_reducible refine OLe.cond _ ?_ ?_ | with_reducible refine OLe.bnd ?_ (fun _ => ?_) | with_reducible refine OLe.elim _ (fun _ => ?_) (fun _ => ?_) | with_reducible refine OLe.runK (fun _ => ?_)
theorem le_spec_l32Is (p0 : (List GDomino)) : OLe (T_spec_l32Is p0) (F_spec_l32Is p0) := by
  unfold T_spec_l32Is F_spec_l32Is
  repeat' first | with_reducible exact OLe.refl _ | with_reducible exact le_spec_l32Is_L1 _ _ | with_reducible refine OLe.cond _ ?_ ?_ | with_reducible refine OLe.bnd ?_ (fun _ => ?_) | with_reducible refine OLe.elim _ (fun _ => ?_) (fun _ => ?_) | with_reducible refine OLe.runK (fun _ => ?_)
theorem le_spec_l03Text_L1 (p0 : (List Int)) (s3 : (List (Ik .u8)) × Int) : OLe (T_spec_l03Text_L1 p0 s3) (F_spec_l03Text_L1 p0 s3) := by
  unfold T_spec_l03Text_L1 F_spec_l03Text_L1
  repeat' first | with_reducible exact OLe.refl _ | with_reducible refine OLe.cond _ ?_ ?_ | with_reducible refine OLe.bnd ?_ (fun _ => ?_) | with_reducible refine OLe.elim _ (fun _ => ?_) (fun _ => ?_) | with_reducible refine OLe.runK (fun _ => ?_)
theorem le_spec_l03Text (p0 : (List Int)) : OLe (T_spec_l03Text p0) (F_spec_l03Text p0) := by
  unfold T_spec_l03Text F_spec_l03Text
  repeat' first | with_reducible exact OLe.refl _ | with_reducible exact le_spec_l03Text_L1 _ _ | with_reducible refine OLe.cond _ ?_ ?_ | with_reducible refine OLe.bnd ?_ (fun _ => ?_) | with_reducible refine OLe.elim _ (fun _ => ?_) (fun _ => ?_) | with_reducible refine OLe.runK (fun _ => ?_)
theorem le_spec_l32Text_L1 (p0 : (List GDomino)) (s1 : ByteArray × Int) : OLe (T_spec_l32Text_L1 p0 s1) (F_spec_l32Text_L1 p0 s1) := by
  unfold T_spec_l32Text_L1 F_spec_l32Text_L1
  repeat' first | with_reducible exact OLe.refl _ | with_reducible exact le_spec_l03Text _ | with_reducible refine OLe.cond _ ?_ ?_ | with_reducible refine OLe.bnd ?_ (fun _ => ?_) | with_reducible refine OLe.elim _ (fun _ => ?_) (fun _ => ?_) | with_reducible refine OLe.runK (fun _ => ?_)
theorem le_spec_l32Text (p0 : (List GDomino)) : OLe (T_spec_l32Text p0) (F_spec_l32Text p0) := by
  unfold T_spec_l32Text F_spec_l32Text
  repeat' first | with_reducible exact OLe.refl _ | with_reducible exact le_spec_l32Text_L1 _ _ | with_reducible refine OLe.cond _ ?_ ?_ | with_reducible refine OLe.bnd ?_ (fun _ => ?_) | with_reducible refine OLe.elim _ (fun _ => ?_) (fun _ => ?_) | with_reducible refine OLe.runK (fun _ => ?_)
theorem le_spec_ReadDominoes_L1 (r1 : (List ByteArray)) (s6 : (List GDomino) × Int) : OLe (T_spec_ReadDominoes_L1 r1 s6) (F_spec_ReadDominoes_L1 r1 s6) := by
  unfold T_spec_ReadDominoes_L1 F_spec_ReadDominoes_L1
  repeat' first | with_reducible exact OLe.refl _ | with_reducible exact le_spec_l01Split _ _ | with_reducible exact le_spec_l03Read _ | with_reducible refine OLe.cond _ ?_ ?_ | with_reducible refine OLe.bnd ?_ (fun _ => ?_) | with_reducible refine OLe.elim _ (fun _ => ?_) (fun _ => ?_) | with_reducible refine OLe.runK (fun _ => ?_)
theorem le_spec_ReadDominoes (p0 : ByteArray) : OLe (T_spec_ReadDominoes p0) (F_spec_ReadDominoes p0) := by
  unfold T_spec_ReadDominoes F_spec_ReadDominoes
  simp only [bl_data]
  repeat' first | with_reducible exact OLe.refl _ | with_reducible exact le_spec_l01Split _ _ | with_reducible exact le_spec_l32Is _ | with_reducible exact le_spec_l32Text _ | with_reducible exact le_spec_ReadDominoes_L1 _ _ | with_reducible refine OLe.cond _ ?_ ?_ | with_reducible refine OLe.bnd ?_ (fun _ => ?_) | with_reducible refine OLe.elim _ (fun _ => ?_) (fun _ => ?_) | with_reducible refine OLe.runK (fun _ => ?_)

def domTexts : List ByteArray := [(⟨#[49, 47, 49, 48, 49, 32, 49, 48, 47, 48, 48, 32, 48, 49, 49, 47, 49, 49]⟩ : ByteArray), (⟨#[48, 47, 48, 48, 32, 48, 48, 47, 48]⟩ : ByteArray), (⟨#[49, 47, 48, 32, 48, 47, 49]⟩ : ByteArray), (⟨#[48, 47, 48, 49, 32, 49, 48, 47, 48, 32, 49, 47, 45]⟩ : ByteArray), (⟨#[48, 49, 47, 48, 32, 49, 47, 49, 49, 32, 48, 47, 49, 48]⟩ : ByteArray), (⟨#[45, 47, 49, 32, 49, 47, 45]⟩ : ByteArray)]
noncomputable def domsRead (t : ByteArray) : Bool := match T_spec_ReadDominoes t with
  | some (ds, b) => b && domsB ds
  | none => false
set_option maxRecDepth 100000 in
theorem doms_all : domTexts.all domsRead = true := by decide +kernel
theorem read_doms {t : ByteArray} (h : t ∈ domTexts) : ∃ ds, F_spec_ReadDominoes t = some (ds, true) ∧ domsB ds = true := by
  have h1 := List.all_eq_true.1 doms_all t h
  unfold domsRead at h1
  split at h1
  · rename_i ds b e
    rw [Bool.and_eq_true] at h1
    exact ⟨ds, by rw [le_spec_ReadDominoes t _ e, h1.1], h1.2⟩
  · cases h1
end Go.Fn
