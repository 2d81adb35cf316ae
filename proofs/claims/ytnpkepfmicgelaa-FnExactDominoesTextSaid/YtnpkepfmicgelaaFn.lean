/-
  What each function of the program computes, as a plain Lean function: printed by program off the translation. No condition.
-/
import Derived.Test.YtnpkepfmicgelaaTy
namespace Go.Fn
open Go Go.Tc
set_option linter.unusedVariables false

noncomputable def F_laws_szInt64S (p0 : (List Int)) (p1 : Int) : Option (Int) :=
  (cond (decide ((w64 (p1 - (p0.length : Int))) < 0)) (some (-1)) (some (w64 (p1 - (p0.length : Int)))))


noncomputable def F_laws_szDomino (p0 : GDomino) (p1 : Int) : Option (Int) :=
  bnd (F_laws_szInt64S p0.Top p1) fun r2 => (cond (decide (r2 < 0)) (some (-1)) (bnd (F_laws_szInt64S p0.Bottom r2) fun r5 => (cond (decide (r5 < 0)) (some (-1)) (some r5))))

noncomputable def F_laws_szDominoS_L1 (p0 : (List GDomino)) (s2 : Int × Int) : Option ((Int × Int) ⊕ Out (Int × Int) Int) :=
  (cond (decide (s2.2 < (p0.length : Int))) (bnd (idx p0 s2.2) fun y5 => bnd (F_laws_szDomino y5 s2.1) fun r9 => (cond (decide (r9 < 0)) (some (.inr (.ret (-1)))) (some (.inl (r9, (w64 (s2.2 + 1))))))) (some (.inr (.brk (s2.1, s2.2)))))

noncomputable def F_laws_szDominoS (p0 : (List GDomino)) (p1 : Int) : Option (Int) :=
  (cond (decide ((w64 (p1 - (p0.length : Int))) < 0)) (some (-1)) (bnd (run (F_laws_szDominoS_L1 p0) ((w64 (p1 - (p0.length : Int))), 0)) (Out.elim (fun (s2 : Int × Int) => some s2.1) (fun (r : Int) => some r))))

noncomputable def F_laws_toInt64S_L1 (p0 : (List Int)) (s4 : (List Int) × Int) : Option (((List Int) × Int) ⊕ Out ((List Int) × Int) (List Int)) :=
  (cond (decide (s4.2 < (p0.length : Int))) (bnd (idx p0 s4.2) fun y7 => bnd (idx s4.1 s4.2) fun y11 => some (.inl ((s4.1.set s4.2.toNat y7), (w64 (s4.2 + 1))))) (some (.inr (.brk (s4.1, s4.2)))))

noncomputable def F_laws_toInt64S (p0 : (List Int)) : Option ((List Int)) :=
  bnd (mke (p0.length : Int) (0 : Int)) fun z1 => bnd (run (F_laws_toInt64S_L1 p0) (z1, 0)) (Out.elim (fun (s4 : (List Int) × Int) => some s4.1) (fun (r : (List Int)) => some r))


noncomputable def F_laws_toDomino (p0 : GDomino) : Option (GDomino) :=
  bnd (F_laws_toInt64S p0.Top) fun r4 => bnd (F_laws_toInt64S p0.Bottom) fun r7 => some (⟨r4, r7⟩ : GDomino)

noncomputable def F_laws_toDominoS_L1 (p0 : (List GDomino)) (s4 : (List GDomino) × Int) : Option (((List GDomino) × Int) ⊕ Out ((List GDomino) × Int) (List GDomino)) :=
  (cond (decide (s4.2 < (p0.length : Int))) (bnd (idx p0 s4.2) fun y7 => bnd (F_laws_toDomino y7) fun r11 => bnd (idx s4.1 s4.2) fun y14 => some (.inl ((s4.1.set s4.2.toNat r11), (w64 (s4.2 + 1))))) (some (.inr (.brk (s4.1, s4.2)))))

noncomputable def F_laws_toDominoS (p0 : (List GDomino)) : Option ((List GDomino)) :=
  bnd (mke (p0.length : Int) (⟨([] : (List Int)), ([] : (List Int))⟩ : GDomino)) fun z1 => bnd (run (F_laws_toDominoS_L1 p0) (z1, 0)) (Out.elim (fun (s4 : (List GDomino) × Int) => some s4.1) (fun (r : (List GDomino)) => some r))


noncomputable def F_spec_l00In (p0 : Int) (p1 : Int) (p2 : Int) : Option (Bool) :=
  (cond (decide (p1 ≤ p0)) (some (decide (p0 ≤ p2))) (some false))

noncomputable def F_spec_l03Is_L1 (p0 : (List Int)) (s1 : Int) : Option ((Int) ⊕ Out (Int) Bool) :=
  (cond (decide (s1 < (p0.length : Int))) (bnd (idx p0 s1) fun y4 => bnd (F_spec_l00In y4 0 9) fun r8 => (cond (!r8) (some (.inr (.ret false))) (some (.inl (w64 (s1 + 1)))))) (some (.inr (.brk s1))))

noncomputable def F_spec_l03Is (p0 : (List Int)) : Option (Bool) :=
  bnd (run (F_spec_l03Is_L1 p0) 0) (Out.elim (fun (s1 : Int) => some (decide ((p0.length : Int) ≤ 400))) (fun (r : Bool) => some r))

noncomputable def F_spec_l32Is_L1 (p0 : (List GDomino)) (s5 : Int) : Option ((Int) ⊕ Out (Int) Bool) :=
  (cond (decide (s5 < (p0.length : Int))) (bnd (idx p0 s5) fun y8 => bnd (F_spec_l03Is y8.Top) fun r16 => (cond (!r16) (some (.inr (.ret false))) (bnd (idx p0 s5) fun y19 => bnd (F_spec_l03Is y19.Bottom) fun r27 => (cond (!r27) (some (.inr (.ret false))) (bnd (idx p0 s5) fun y30 => bnd (idx p0 s5) fun y38 => (cond (decide ((w64 ((y30.Top.length : Int) + (y38.Bottom.length : Int))) = 0)) (some (.inr (.ret false))) (some (.inl (w64 (s5 + 1)))))))))) (some (.inr (.brk s5))))

noncomputable def F_spec_l32Is (p0 : (List GDomino)) : Option (Bool) :=
  bnd ((cond (decide ((p0.length : Int) < 1)) (some (.ret false)) (cond (decide (80 < (p0.length : Int))) (some (.ret false)) (some (.brk ())))) : Option (Out (Unit) Bool)) (Out.elim (fun (s1 : Unit) => bnd (run (F_spec_l32Is_L1 p0) 0) (Out.elim (fun (s5 : Int) => some true) (fun (r : Bool) => some r))) (fun (r : Bool) => some r))

noncomputable def F_spec_l03Text_L1 (p0 : (List Int)) (s3 : (List (Ik .u8)) × Int) : Option (((List (Ik .u8)) × Int) ⊕ Out ((List (Ik .u8)) × Int) ByteArray) :=
  (cond (decide (s3.2 < (p0.length : Int))) (bnd (idx p0 s3.2) fun y6 => bnd (app s3.1 ([(⟨(wk .u8 (w64 (48 + y6)))⟩ : Ik .u8)] : List (Ik .u8))) fun z11 => some (.inl (z11, (w64 (s3.2 + 1))))) (some (.inr (.brk (s3.1, s3.2)))))

noncomputable def F_spec_l03Text (p0 : (List Int)) : Option (ByteArray) :=
  (cond (decide ((p0.length : Int) = 0)) (some (⟨#[45]⟩ : ByteArray)) (bnd (run (F_spec_l03Text_L1 p0) (([] : List (Ik .u8)), 0)) (Out.elim (fun (s3 : (List (Ik .u8)) × Int) => some (strOf s3.1)) (fun (r : ByteArray) => some r))))

noncomputable def F_spec_l32Text_L1 (p0 : (List GDomino)) (s1 : ByteArray × Int) : Option ((ByteArray × Int) ⊕ Out (ByteArray × Int) ByteArray) :=
  (cond (decide (s1.2 < (p0.length : Int))) (bnd ((cond (decide (0 < s1.2)) (bnd (cat s1.1 (⟨#[32]⟩ : ByteArray)) fun z7 => some (.brk z7)) (some (.brk s1.1))) : Option (Out (ByteArray) ByteArray)) (Out.elim (fun (s4 : ByteArray) => bnd (idx p0 s1.2) fun y9 => bnd (idx p0 s1.2) fun y14 => bnd (F_spec_l03Text y9.Top) fun r22 => bnd (cat r22 (⟨#[47]⟩ : ByteArray)) fun z24 => bnd (F_spec_l03Text y14.Bottom) fun r26 => bnd (cat z24 r26) fun z28 => bnd (cat s4 z28) fun z30 => some (.inl (z30, (w64 (s1.2 + 1))))) (fun (r : ByteArray) => some (.inr (.ret r))))) (some (.inr (.brk (s1.1, s1.2)))))

noncomputable def F_spec_l32Text (p0 : (List GDomino)) : Option (ByteArray) :=
  bnd (run (F_spec_l32Text_L1 p0) ((⟨#[]⟩ : ByteArray), 0)) (Out.elim (fun (s1 : ByteArray × Int) => some s1.1) (fun (r : ByteArray) => some r))


noncomputable def F_spec_DominoesText (p0 : (List GDomino)) : Option (ByteArray) :=
  bnd (F_spec_l32Is p0) fun r1 => (cond (!r1) (some (⟨#[]⟩ : ByteArray)) (bnd (F_spec_l32Text p0) fun r4 => some r4))


noncomputable def F_impl_size_impl_Domino (p0 : (List GDomino)) : Option (Int) :=
  some (p0.length : Int)


noncomputable def F_impl_within (p0 : Int) (p1 : Int) (p2 : Int) : Option (Bool) :=
  (cond (decide (p1 ≤ p0)) (some (decide (p0 ≤ p2))) (some false))

noncomputable def F_slices_IndexFunc_Simpl_Domino_impl_Domino_L1 (p0 : (List GDomino)) (p1 : (GDomino → Option Bool)) (s1 : Int) : Option ((Int) ⊕ Out (Int) Int) :=
  (cond (decide (s1 < (p0.length : Int))) (bnd (idx p0 s1) fun y4 => bnd (p1 y4) fun r8 => (cond r8 (some (.inr (.ret s1))) (some (.inl (w64 (s1 + 1)))))) (some (.inr (.brk s1))))

noncomputable def F_slices_IndexFunc_Simpl_Domino_impl_Domino (p0 : (List GDomino)) (p1 : (GDomino → Option Bool)) : Option (Int) :=
  bnd (run (F_slices_IndexFunc_Simpl_Domino_impl_Domino_L1 p0 p1) 0) (Out.elim (fun (s1 : Int) => some (-1)) (fun (r : Int) => some r))


noncomputable def F_slices_ContainsFunc_Simpl_Domino_impl_Domino (p0 : (List GDomino)) (p1 : (GDomino → Option Bool)) : Option (Bool) :=
  bnd (F_slices_IndexFunc_Simpl_Domino_impl_Domino p0 p1) fun r1 => some (decide (0 ≤ r1))

noncomputable def F_slices_IndexFunc_SSint64_Sint64_L1 (p0 : (List (List Int))) (p1 : ((List Int) → Option Bool)) (s1 : Int) : Option ((Int) ⊕ Out (Int) Int) :=
  (cond (decide (s1 < (p0.length : Int))) (bnd (idx p0 s1) fun y4 => bnd (p1 y4) fun r8 => (cond r8 (some (.inr (.ret s1))) (some (.inl (w64 (s1 + 1)))))) (some (.inr (.brk s1))))

noncomputable def F_slices_IndexFunc_SSint64_Sint64 (p0 : (List (List Int))) (p1 : ((List Int) → Option Bool)) : Option (Int) :=
  bnd (run (F_slices_IndexFunc_SSint64_Sint64_L1 p0 p1) 0) (Out.elim (fun (s1 : Int) => some (-1)) (fun (r : Int) => some r))


noncomputable def F_slices_ContainsFunc_SSint64_Sint64 (p0 : (List (List Int))) (p1 : ((List Int) → Option Bool)) : Option (Bool) :=
  bnd (F_slices_IndexFunc_SSint64_Sint64 p0 p1) fun r1 => some (decide (0 ≤ r1))

noncomputable def F_impl_allWithin_L1 (p0 : (List Int)) (p1 : Int) (p2 : Int) (s1 : Int) : Option ((Int) ⊕ Out (Int) Bool) :=
  (cond (decide (s1 < (p0.length : Int))) (bnd (idx p0 s1) fun y4 => bnd (F_impl_within y4 p1 p2) fun r8 => (cond (!r8) (some (.inr (.ret false))) (some (.inl (w64 (s1 + 1)))))) (some (.inr (.brk s1))))

noncomputable def F_impl_allWithin (p0 : (List Int)) (p1 : Int) (p2 : Int) : Option (Bool) :=
  bnd (run (F_impl_allWithin_L1 p0 p1 p2) 0) (Out.elim (fun (s1 : Int) => some true) (fun (r : Bool) => some r))


noncomputable def F_impl_isLetters (p0 : (List Int)) : Option (Bool) :=
  bnd (F_impl_allWithin p0 0 9) fun r1 => some r1


noncomputable def F_impl_IsWord (p0 : (List Int)) : Option (Bool) :=
  (cond (decide ((p0.length : Int) ≤ 400)) (bnd (F_impl_isLetters p0) fun r2 => some r2) (some false))


noncomputable def F_impl_areWords_1 (p0 : (List Int)) : Option (Bool) :=
  bnd (F_impl_IsWord p0) fun r1 => some (!r1)


noncomputable def F_impl_areWords (p0 : (List (List Int))) : Option (Bool) :=
  bnd (F_slices_ContainsFunc_SSint64_Sint64 p0 (fun x_ => F_impl_areWords_1 x_)) fun r1 => some (!r1)


noncomputable def F_impl_validDomino (p0 : GDomino) : Option (Bool) :=
  bnd (F_impl_areWords ([p0.Top, p0.Bottom] : List (List Int))) fun r3 => (cond r3 (some (decide (0 < (w64 ((p0.Top.length : Int) + (p0.Bottom.length : Int)))))) (some false))


noncomputable def F_impl_ValidDominoes_1 (p0 : GDomino) : Option (Bool) :=
  bnd (F_impl_validDomino p0) fun r2 => some (!r2)


noncomputable def F_impl_ValidDominoes (p0 : (List GDomino)) : Option (Bool) :=
  bnd (F_impl_size_impl_Domino p0) fun r1 => bnd (F_impl_within r1 1 80) fun r3 => (cond r3 (bnd (F_slices_ContainsFunc_Simpl_Domino_impl_Domino p0 (fun x_ => F_impl_ValidDominoes_1 x_)) fun r6 => some (!r6)) (some false))

noncomputable def F_impl_digitsText_L1 (p0 : (List Int)) (s2 : Bool × (List (Ik .u8)) × Int) : Option ((Bool × (List (Ik .u8)) × Int) ⊕ Out (Bool × (List (Ik .u8)) × Int) ByteArray) :=
  (cond (decide (s2.2.2 < (p0.length : Int))) (bnd (idx p0 s2.2.2) fun y5 => (cond s2.1 (cond (decide ((wk .u32 (wk .i32 (48 + (wk .i32 y5)))) ≤ 127)) (bnd (app s2.2.1 ([(⟨(wk .u8 (wk .i32 (48 + (wk .i32 y5))))⟩ : Ik .u8)] : List (Ik .u8))) fun z15 => some (.inl (false, z15, (w64 (s2.2.2 + 1))))) none) (cond (decide ((wk .u32 (wk .i32 (48 + (wk .i32 y5)))) ≤ 127)) (bnd (app s2.2.1 ([(⟨(wk .u8 (wk .i32 (48 + (wk .i32 y5))))⟩ : Ik .u8)] : List (Ik .u8))) fun z21 => some (.inl (s2.1, z21, (w64 (s2.2.2 + 1))))) none))) (some (.inr (.brk (s2.1, s2.2.1, s2.2.2)))))

noncomputable def F_impl_digitsText (p0 : (List Int)) : Option (ByteArray) :=
  bnd (run (F_impl_digitsText_L1 p0) (true, ([] : (List (Ik .u8))), 0)) (Out.elim (fun (s2 : Bool × (List (Ik .u8)) × Int) => some (strOf s2.2.1)) (fun (r : ByteArray) => some r))


noncomputable def F_impl_wordText (p0 : (List Int)) : Option (ByteArray) :=
  (cond (decide ((p0.length : Int) = 0)) (some (⟨#[45]⟩ : ByteArray)) (bnd (F_impl_digitsText p0) fun r2 => some r2))


noncomputable def F_impl_DominoesText_L1 (p0 : (List GDomino)) (s5 : (List ByteArray) × Int) : Option (((List ByteArray) × Int) ⊕ Out ((List ByteArray) × Int) ByteArray) :=
  (cond (decide (s5.2 < (p0.length : Int))) (bnd (idx p0 s5.2) fun y8 => bnd (F_impl_wordText y8.Top) fun r16 => bnd (cat r16 (⟨#[47]⟩ : ByteArray)) fun z18 => bnd (F_impl_wordText y8.Bottom) fun r20 => bnd (cat z18 r20) fun z22 => bnd (app s5.1 ([z22] : List ByteArray)) fun z25 => some (.inl (z25, (w64 (s5.2 + 1))))) (some (.inr (.brk (s5.1, s5.2)))))

noncomputable def F_impl_DominoesText (p0 : (List GDomino)) : Option (ByteArray) :=
  bnd (F_impl_ValidDominoes p0) fun r1 => (cond (!r1) (some (⟨#[]⟩ : ByteArray)) (bnd (run (F_impl_DominoesText_L1 p0) (([] : List ByteArray), 0)) (Out.elim (fun (s5 : (List ByteArray) × Int) => bnd (joinG s5.1 (⟨#[32]⟩ : ByteArray)) fun r28 => some r28) (fun (r : ByteArray) => some r))))

noncomputable def F_laws_eqInt64S_L1 (p0 : (List Int)) (p1 : (List Int)) (s2 : Int) : Option ((Int) ⊕ Out (Int) Bool) :=
  (cond (decide (s2 < (p0.length : Int))) (bnd (idx p0 s2) fun y5 => bnd (idx p1 s2) fun y9 => (cond (decide (y5 ≠ y9)) (some (.inr (.ret false))) (some (.inl (w64 (s2 + 1)))))) (some (.inr (.brk s2))))

noncomputable def F_laws_eqInt64S (p0 : (List Int)) (p1 : (List Int)) : Option (Bool) :=
  (cond (decide ((p0.length : Int) ≠ (p1.length : Int))) (some false) (bnd (run (F_laws_eqInt64S_L1 p0 p1) 0) (Out.elim (fun (s2 : Int) => some true) (fun (r : Bool) => some r))))


noncomputable def F_laws_eqDomino (p0 : GDomino) (p1 : GDomino) : Option (Bool) :=
  bnd (F_laws_eqInt64S p0.Top p1.Top) fun r3 => (cond (!r3) (some false) (bnd (F_laws_eqInt64S p0.Bottom p1.Bottom) fun r6 => (cond (!r6) (some false) (some true))))

noncomputable def F_laws_eqDominoS_L1 (p0 : (List GDomino)) (p1 : (List GDomino)) (s2 : Int) : Option ((Int) ⊕ Out (Int) Bool) :=
  (cond (decide (s2 < (p0.length : Int))) (bnd (idx p0 s2) fun y5 => bnd (idx p1 s2) fun y9 => bnd (F_laws_eqDomino y5 y9) fun r16 => (cond (!r16) (some (.inr (.ret false))) (some (.inl (w64 (s2 + 1)))))) (some (.inr (.brk s2))))

noncomputable def F_laws_eqDominoS (p0 : (List GDomino)) (p1 : (List GDomino)) : Option (Bool) :=
  (cond (decide ((p0.length : Int) ≠ (p1.length : Int))) (some false) (bnd (run (F_laws_eqDominoS_L1 p0 p1) 0) (Out.elim (fun (s2 : Int) => some true) (fun (r : Bool) => some r))))


noncomputable def F_laws_FnExactDominoesText (p0 : (List GDomino)) : Option (Bool) :=
  bnd (F_laws_szDominoS p0 1048576) fun r1 => (cond (decide (r1 < 0)) (some true) (bnd (F_laws_toDominoS p0) fun r4 => bnd (F_spec_DominoesText r4) fun r7 => bnd (F_laws_toDominoS p0) fun r9 => bnd (F_impl_DominoesText r9) fun r12 => (cond (!(r12.toList == r7.toList)) (some false) (bnd (F_laws_toDominoS p0) fun r15 => bnd (F_laws_eqDominoS r9 r15) fun r18 => (cond (!r18) (some false) (some true))))))

end Go.Fn
