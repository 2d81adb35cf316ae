/-
  What each function of the program computes, as a plain Lean function: printed by program off the translation. No condition.
-/
import Derived.Test.YtabpcmbohmodnaaDoorTy
namespace Go.Fn
open Go Go.Tc
set_option linter.unusedVariables false

noncomputable def F_laws_szInt64S (p0 : (List Int)) (p1 : Int) : Option (Int) :=
  (cond (decide ((w64 (p1 - (p0.length : Int))) < 0)) (some (-1)) (some (w64 (p1 - (p0.length : Int)))))


noncomputable def F_laws_szDomino (p0 : GDomino) (p1 : Int) : Option (Int) :=
  bnd (F_laws_szInt64S p0.Top p1) fun r2 => (cond (decide (r2 < 0)) (some (-1)) (bnd (F_laws_szInt64S p0.Bottom r2) fun r5 => (cond (decide (r5 < 0)) (some (-1)) (some r5))))

noncomputable def F_laws_szDominoS_L1 (p0 : (List GDomino)) (s2 : Int × Int) : Option ((Int × Int) ⊕ Out (Int × Int) Int) :=
  (cond (decide (s2.2 < (p0.length : Int))) (bnd (idx p0 s2.2) fun y5 => bnd (F_laws_szDomino y5 s2.1) fun r9 => (cond (decide (r9 < 0)) (some (.inr (.ret (-1)))) (some (.inl (r9, (w64 (s2.2 + 1))))))) (some (.inr (.brk (s2.1, s2.2)))))

noncomputable def F_laws_szDominoS (p0 : (List GDomino)) (p1 : Int) : Option (Int) :=
  (cond (decide ((w64 (p1 - (p0.length : Int))) < 0)) (some (-1)) (bnd (run (F_laws_szDominoS_L1 p0) ((w64 (p1 - (p0.length : Int))), 0)) (Out.elim (fun (s2 : Int × Int) => some s2.1) (fun (r : Int) => some r))))

noncomputable def F_laws_toInt64S_L1 (p0 : (List Int)) (s4 : (List Int) × Int) : Option (((List Int) × Int) ⊕ Out ((List Int) × Int) (List Int)) :=
  (cond (decide (s4.2 < (p0.length : Int))) (bnd (idx p0 s4.2) fun y7 => bnd (idx s4.1 s4.2) fun y11 => some (.inl ((s4.1.set s4.2.toNat y7), (w64 (s4.2 + 1))))) (some (.inr (.brk (s4.1, s4.2)))))

noncomputable def F_laws_toInt64S (p0 : (List Int)) : Option ((List Int)) :=
  bnd (mke (p0.length : Int) (0 : Int)) fun z1 => bnd (run (F_laws_toInt64S_L1 p0) (z1, 0)) (Out.elim (fun (s4 : (List Int) × Int) => some s4.1) (fun (r : (List Int)) => some r))


noncomputable def F_laws_toDomino (p0 : GDomino) : Option (GDomino) :=
  bnd (F_laws_toInt64S p0.Top) fun r4 => bnd (F_laws_toInt64S p0.Bottom) fun r7 => some (⟨r4, r7⟩ : GDomino)

noncomputable def F_laws_toDominoS_L1 (p0 : (List GDomino)) (s4 : (List GDomino) × Int) : Option (((List GDomino) × Int) ⊕ Out ((List GDomino) × Int) (List GDomino)) :=
  (cond (decide (s4.2 < (p0.length : Int))) (bnd (idx p0 s4.2) fun y7 => bnd (F_laws_toDomino y7) fun r11 => bnd (idx s4.1 s4.2) fun y14 => some (.inl ((s4.1.set s4.2.toNat r11), (w64 (s4.2 + 1))))) (some (.inr (.brk (s4.1, s4.2)))))

noncomputable def F_laws_toDominoS (p0 : (List GDomino)) : Option ((List GDomino)) :=
  bnd (mke (p0.length : Int) (⟨([] : (List Int)), ([] : (List Int))⟩ : GDomino)) fun z1 => bnd (run (F_laws_toDominoS_L1 p0) (z1, 0)) (Out.elim (fun (s4 : (List GDomino) × Int) => some s4.1) (fun (r : (List GDomino)) => some r))


noncomputable def F_spec_l00In (p0 : Int) (p1 : Int) (p2 : Int) : Option (Bool) :=
  (cond (decide (p1 ≤ p0)) (some (decide (p0 ≤ p2))) (some false))

noncomputable def F_spec_l03Is_L1 (p0 : (List Int)) (s1 : Int) : Option ((Int) ⊕ Out (Int) Bool) :=
  (cond (decide (s1 < (p0.length : Int))) (bnd (idx p0 s1) fun y4 => bnd (F_spec_l00In y4 0 9) fun r8 => (cond (!r8) (some (.inr (.ret false))) (some (.inl (w64 (s1 + 1)))))) (some (.inr (.brk s1))))

noncomputable def F_spec_l03Is (p0 : (List Int)) : Option (Bool) :=
  bnd (run (F_spec_l03Is_L1 p0) 0) (Out.elim (fun (s1 : Int) => some (decide ((p0.length : Int) ≤ 400))) (fun (r : Bool) => some r))

noncomputable def F_spec_l32Is_L1 (p0 : (List GDomino)) (s5 : Int) : Option ((Int) ⊕ Out (Int) Bool) :=
  (cond (decide (s5 < (p0.length : Int))) (bnd (idx p0 s5) fun y8 => bnd (F_spec_l03Is y8.Top) fun r16 => (cond (!r16) (some (.inr (.ret false))) (bnd (idx p0 s5) fun y19 => bnd (F_spec_l03Is y19.Bottom) fun r27 => (cond (!r27) (some (.inr (.ret false))) (bnd (idx p0 s5) fun y30 => bnd (idx p0 s5) fun y38 => (cond (decide ((w64 ((y30.Top.length : Int) + (y38.Bottom.length : Int))) = 0)) (some (.inr (.ret false))) (some (.inl (w64 (s5 + 1)))))))))) (some (.inr (.brk s5))))

noncomputable def F_spec_l32Is (p0 : (List GDomino)) : Option (Bool) :=
  bnd ((cond (decide ((p0.length : Int) < 1)) (some (.ret false)) (cond (decide (80 < (p0.length : Int))) (some (.ret false)) (some (.brk ())))) : Option (Out (Unit) Bool)) (Out.elim (fun (s1 : Unit) => bnd (run (F_spec_l32Is_L1 p0) 0) (Out.elim (fun (s5 : Int) => some true) (fun (r : Bool) => some r))) (fun (r : Bool) => some r))


noncomputable def F_spec_l05Budget (p0 : Int) : Option (Bool) :=
  bnd (F_spec_l00In p0 1 20000) fun r1 => some r1


noncomputable def F_spec_l00Own (p0 : (List Int)) : Option ((List Int)) :=
  bnd (app ([] : List Int) p0) fun z2 => some z2


noncomputable def F_spec_l00Min (p0 : Int) (p1 : Int) : Option (Int) :=
  (cond (decide (p0 < p1)) (some p0) (some p1))

noncomputable def F_spec_l00Same_L1 (p0 : (List Int)) (p1 : (List Int)) (s2 : Int) : Option ((Int) ⊕ Out (Int) Bool) :=
  (cond (decide (s2 < (p0.length : Int))) (bnd (idx p0 s2) fun y5 => bnd (idx p1 s2) fun y9 => (cond (decide (y5 ≠ y9)) (some (.inr (.ret false))) (some (.inl (w64 (s2 + 1)))))) (some (.inr (.brk s2))))

noncomputable def F_spec_l00Same (p0 : (List Int)) (p1 : (List Int)) : Option (Bool) :=
  (cond (decide ((p0.length : Int) ≠ (p1.length : Int))) (some false) (bnd (run (F_spec_l00Same_L1 p0 p1) 0) (Out.elim (fun (s2 : Int) => some true) (fun (r : Bool) => some r))))


noncomputable def F_spec_l32Put (p0 : Gl32Rest) (p1 : GDomino) : Option (Gl32Rest × Bool) :=
  bnd (F_spec_l00Own p1.Top) fun r4 => bnd (F_spec_l00Own p1.Bottom) fun r9 => bnd ((cond p0.upper (bnd (F_spec_l00Own p0.word) fun r24 => bnd (app r24 p1.Top) fun z27 => some (.brk (z27, r9))) (bnd (F_spec_l00Own p0.word) fun r37 => bnd (app r37 p1.Bottom) fun z40 => some (.brk (r4, z40)))) : Option (Out ((List Int) × (List Int)) (Gl32Rest × Bool))) (Out.elim (fun (s12 : (List Int) × (List Int)) => bnd (F_spec_l00Min (s12.1.length : Int) (s12.2.length : Int)) fun r43 => bnd (slc s12.1 0 r43) fun z45 => bnd (slc s12.2 0 r43) fun z48 => bnd (F_spec_l00Same z45 z48) fun r54 => (cond (!r54) (some ((⟨([] : (List Int)), false, 0, 0⟩ : Gl32Rest), false)) (cond (decide (r43 < (s12.1.length : Int))) (bnd (slc s12.1 r43 (s12.1.length : Int)) fun z58 => some ((⟨z58, true, 0, 0⟩ : Gl32Rest), true)) (bnd (slc s12.2 r43 (s12.2.length : Int)) fun z61 => some ((⟨z61, false, 0, 0⟩ : Gl32Rest), true))))) (fun (r : Gl32Rest × Bool) => some r))

noncomputable def F_spec_l32Back_L1 (p0 : (List Gl32Rest)) (s4 : (List Int) × (List Int) × Bool × Int × Int) : Option (((List Int) × (List Int) × Bool × Int × Int) ⊕ Out ((List Int) × (List Int) × Bool × Int × Int) ((List Int) × Int)) :=
  (cond (decide (0 ≤ s4.2.2.2.1)) (bnd (app ([s4.2.2.2.2] : List Int) s4.1) fun z8 => bnd (idx p0 s4.2.2.2.1) fun y11 => some (.inl (z8, y11.word, y11.upper, y11.before, y11.domino))) (some (.inr (.brk (s4.1, s4.2.1, s4.2.2.1, s4.2.2.2.1, s4.2.2.2.2)))))

noncomputable def F_spec_l32Back (p0 : (List Gl32Rest)) (p1 : Gl32Rest) : Option ((List Int) × Int) :=
  bnd (run (F_spec_l32Back_L1 p0) (([] : List Int), p1.word, p1.upper, p1.before, p1.domino)) (Out.elim (fun (s4 : (List Int) × (List Int) × Bool × Int × Int) => (cond (decide (400 < (s4.1.length : Int))) (some (([] : (List Int)), 5)) (some (s4.1, 0)))) (fun (r : (List Int) × Int) => some r))

noncomputable def F_spec_l32Known_L1 (p0 : (List Gl32Rest)) (p1 : Gl32Rest) (s1 : Int) : Option ((Int) ⊕ Out (Int) Bool) :=
  (cond (decide (s1 < (p0.length : Int))) (bnd (idx p0 s1) fun y4 => (cond (y4.upper == p1.upper) (bnd (idx p0 s1) fun y12 => bnd (F_spec_l00Same y12.word p1.word) fun r22 => (cond r22 (some (.inr (.ret true))) (some (.inl (w64 (s1 + 1)))))) (some (.inl (w64 (s1 + 1)))))) (some (.inr (.brk s1))))

noncomputable def F_spec_l32Known (p0 : (List Gl32Rest)) (p1 : Gl32Rest) : Option (Bool) :=
  bnd (run (F_spec_l32Known_L1 p0 p1) 1) (Out.elim (fun (s1 : Int) => some false) (fun (r : Bool) => some r))


noncomputable def F_impl_size_impl_Domino (p0 : (List GDomino)) : Option (Int) :=
  some (p0.length : Int)


noncomputable def F_impl_within (p0 : Int) (p1 : Int) (p2 : Int) : Option (Bool) :=
  (cond (decide (p1 ≤ p0)) (some (decide (p0 ≤ p2))) (some false))

noncomputable def F_slices_IndexFunc_Simpl_Domino_impl_Domino_L1 (p0 : (List GDomino)) (p1 : (GDomino → Option Bool)) (s1 : Int) : Option ((Int) ⊕ Out (Int) Int) :=
  (cond (decide (s1 < (p0.length : Int))) (bnd (idx p0 s1) fun y4 => bnd (p1 y4) fun r8 => (cond r8 (some (.inr (.ret s1))) (some (.inl (w64 (s1 + 1)))))) (some (.inr (.brk s1))))

noncomputable def F_slices_IndexFunc_Simpl_Domino_impl_Domino (p0 : (List GDomino)) (p1 : (GDomino → Option Bool)) : Option (Int) :=
  bnd (run (F_slices_IndexFunc_Simpl_Domino_impl_Domino_L1 p0 p1) 0) (Out.elim (fun (s1 : Int) => some (-1)) (fun (r : Int) => some r))


noncomputable def F_slices_ContainsFunc_Simpl_Domino_impl_Domino (p0 : (List GDomino)) (p1 : (GDomino → Option Bool)) : Option (Bool) :=
  bnd (F_slices_IndexFunc_Simpl_Domino_impl_Domino p0 p1) fun r1 => some (decide (0 ≤ r1))

noncomputable def F_slices_IndexFunc_SSint64_Sint64_L1 (p0 : (List (List Int))) (p1 : ((List Int) → Option Bool)) (s1 : Int) : Option ((Int) ⊕ Out (Int) Int) :=
  (cond (decide (s1 < (p0.length : Int))) (bnd (idx p0 s1) fun y4 => bnd (p1 y4) fun r8 => (cond r8 (some (.inr (.ret s1))) (some (.inl (w64 (s1 + 1)))))) (some (.inr (.brk s1))))

noncomputable def F_slices_IndexFunc_SSint64_Sint64 (p0 : (List (List Int))) (p1 : ((List Int) → Option Bool)) : Option (Int) :=
  bnd (run (F_slices_IndexFunc_SSint64_Sint64_L1 p0 p1) 0) (Out.elim (fun (s1 : Int) => some (-1)) (fun (r : Int) => some r))


noncomputable def F_slices_ContainsFunc_SSint64_Sint64 (p0 : (List (List Int))) (p1 : ((List Int) → Option Bool)) : Option (Bool) :=
  bnd (F_slices_IndexFunc_SSint64_Sint64 p0 p1) fun r1 => some (decide (0 ≤ r1))

noncomputable def F_impl_allWithin_L1 (p0 : (List Int)) (p1 : Int) (p2 : Int) (s1 : Int) : Option ((Int) ⊕ Out (Int) Bool) :=
  (cond (decide (s1 < (p0.length : Int))) (bnd (idx p0 s1) fun y4 => bnd (F_impl_within y4 p1 p2) fun r8 => (cond (!r8) (some (.inr (.ret false))) (some (.inl (w64 (s1 + 1)))))) (some (.inr (.brk s1))))

noncomputable def F_impl_allWithin (p0 : (List Int)) (p1 : Int) (p2 : Int) : Option (Bool) :=
  bnd (run (F_impl_allWithin_L1 p0 p1 p2) 0) (Out.elim (fun (s1 : Int) => some true) (fun (r : Bool) => some r))


noncomputable def F_impl_isLetters (p0 : (List Int)) : Option (Bool) :=
  bnd (F_impl_allWithin p0 0 9) fun r1 => some r1


noncomputable def F_impl_IsWord (p0 : (List Int)) : Option (Bool) :=
  (cond (decide ((p0.length : Int) ≤ 400)) (bnd (F_impl_isLetters p0) fun r2 => some r2) (some false))


noncomputable def F_impl_areWords_1 (p0 : (List Int)) : Option (Bool) :=
  bnd (F_impl_IsWord p0) fun r1 => some (!r1)


noncomputable def F_impl_areWords (p0 : (List (List Int))) : Option (Bool) :=
  bnd (F_slices_ContainsFunc_SSint64_Sint64 p0 (fun x_ => F_impl_areWords_1 x_)) fun r1 => some (!r1)


noncomputable def F_impl_validDomino (p0 : GDomino) : Option (Bool) :=
  bnd (F_impl_areWords ([p0.Top, p0.Bottom] : List (List Int))) fun r3 => (cond r3 (some (decide (0 < (w64 ((p0.Top.length : Int) + (p0.Bottom.length : Int)))))) (some false))


noncomputable def F_impl_ValidDominoes_1 (p0 : GDomino) : Option (Bool) :=
  bnd (F_impl_validDomino p0) fun r2 => some (!r2)


noncomputable def F_impl_ValidDominoes (p0 : (List GDomino)) : Option (Bool) :=
  bnd (F_impl_size_impl_Domino p0) fun r1 => bnd (F_impl_within r1 1 80) fun r3 => (cond r3 (bnd (F_slices_ContainsFunc_Simpl_Domino_impl_Domino p0 (fun x_ => F_impl_ValidDominoes_1 x_)) fun r6 => some (!r6)) (some false))


noncomputable def F_impl_budgetOk (p0 : Int) : Option (Bool) :=
  bnd (F_impl_within p0 1 20000) fun r1 => some r1

noncomputable def F_slices_Concat_Sint64_int64_L1 (p0 : (List (List Int))) (s1 : Int × Int) : Option ((Int × Int) ⊕ Out (Int × Int) (List Int)) :=
  (cond (decide (s1.2 < (p0.length : Int))) (bnd (idx p0 s1.2) fun y4 => (cond (decide ((w64 (s1.1 + (y4.length : Int))) < 0)) none (some (.inl ((w64 (s1.1 + (y4.length : Int))), (w64 (s1.2 + 1))))))) (some (.inr (.brk (s1.1, s1.2)))))

noncomputable def F_slices_Concat_Sint64_int64_L2 (p0 : (List (List Int))) (s20 : (List Int) × Int) : Option (((List Int) × Int) ⊕ Out ((List Int) × Int) (List Int)) :=
  (cond (decide (s20.2 < (p0.length : Int))) (bnd (idx p0 s20.2) fun y23 => bnd (app s20.1 y23) fun z27 => some (.inl (z27, (w64 (s20.2 + 1))))) (some (.inr (.brk (s20.1, s20.2)))))

noncomputable def F_slices_Concat_Sint64_int64_L3 (p0 : (List (List Int))) (s30 : (List Int) × Int) : Option (((List Int) × Int) ⊕ Out ((List Int) × Int) (List Int)) :=
  (cond (decide (s30.2 < (p0.length : Int))) (bnd (idx p0 s30.2) fun y33 => bnd (app s30.1 y33) fun z37 => some (.inl (z37, (w64 (s30.2 + 1))))) (some (.inr (.brk (s30.1, s30.2)))))

noncomputable def F_slices_Concat_Sint64_int64 (p0 : (List (List Int))) : Option ((List Int)) :=
  bnd (run (F_slices_Concat_Sint64_int64_L1 p0) (0, 0)) (Out.elim (fun (s1 : Int × Int) => bnd ((cond (decide (s1.1 < 0)) none (some (.brk ()))) : Option (Out (Unit) (Option ((List Int))))) (Out.elim (fun (s10 : Unit) => (cond (decide (0 < (w64 (s1.1 - (w64 (((0 : Nat) : Int) - ((0 : Nat) : Int))))))) (bnd (mke (w64 (s1.1 - (w64 (((0 : Nat) : Int) - ((0 : Nat) : Int))))) (0 : Int)) fun z14 => bnd (slc z14 0 ((0 : Nat) : Int)) fun z17 => bnd (run (F_slices_Concat_Sint64_int64_L2 p0) (z17, 0)) (Out.elim (fun (s20 : (List Int) × Int) => some s20.1) (fun (r : (List Int)) => some r))) (bnd (run (F_slices_Concat_Sint64_int64_L3 p0) (([] : (List Int)), 0)) (Out.elim (fun (s30 : (List Int) × Int) => some s30.1) (fun (r : (List Int)) => some r))))) (fun (r : Option ((List Int))) => r))) (fun (r : (List Int)) => some r))


noncomputable def F_impl_joined (p0 : (List (List Int))) : Option ((List Int)) :=
  bnd (F_slices_Concat_Sint64_int64 p0) fun r1 => some r1

noncomputable def F_slices_Equal_Sint64_int64_L1 (p0 : (List Int)) (p1 : (List Int)) (s2 : Int) : Option ((Int) ⊕ Out (Int) Bool) :=
  (cond (decide (s2 < (p0.length : Int))) (bnd (idx p0 s2) fun y5 => bnd (idx p1 s2) fun y9 => (cond (decide (y5 ≠ y9)) (some (.inr (.ret false))) (some (.inl (w64 (s2 + 1)))))) (some (.inr (.brk s2))))

noncomputable def F_slices_Equal_Sint64_int64 (p0 : (List Int)) (p1 : (List Int)) : Option (Bool) :=
  (cond (decide ((p0.length : Int) ≠ (p1.length : Int))) (some false) (bnd (run (F_slices_Equal_Sint64_int64_L1 p0 p1) 0) (Out.elim (fun (s2 : Int) => some true) (fun (r : Bool) => some r))))


noncomputable def F_impl_begins (p0 : (List Int)) (p1 : (List Int)) : Option (Bool) :=
  (cond (decide ((p1.length : Int) ≤ (p0.length : Int))) (bnd (slc p0 0 (p1.length : Int)) fun z2 => bnd (F_slices_Equal_Sint64_int64 z2 p1) fun r5 => some r5) (some false))


noncomputable def F_impl_rest_put (p0 : Grest) (p1 : GDomino) : Option (Grest × Bool) :=
  bnd ((cond p0.top (bnd (F_impl_joined ([p0.word, p1.Top] : List (List Int))) fun r8 => some (.brk (r8, p1.Bottom))) (bnd (F_impl_joined ([p0.word, p1.Bottom] : List (List Int))) fun r12 => some (.brk (p1.Top, r12)))) : Option (Out ((List Int) × (List Int)) (Grest × Bool))) (Out.elim (fun (s4 : (List Int) × (List Int)) => bnd (F_impl_begins s4.2 s4.1) fun r15 => (cond r15 (bnd (slc s4.2 (s4.1.length : Int) (s4.2.length : Int)) fun z18 => some ((⟨false, z18, 0, 0⟩ : Grest), true)) (bnd (F_impl_begins s4.1 s4.2) fun r21 => (cond r21 (bnd (slc s4.1 (s4.2.length : Int) (s4.1.length : Int)) fun z24 => some ((⟨true, z24, 0, 0⟩ : Grest), true)) (some ((⟨false, ([] : (List Int)), 0, 0⟩ : Grest), false)))))) (fun (r : Grest × Bool) => some r))

noncomputable def F_impl_keyOf_L1 (p0 : (List Int)) (s4 : (List (Ik .u8)) × Int) : Option (((List (Ik .u8)) × Int) ⊕ Out ((List (Ik .u8)) × Int) ByteArray) :=
  (cond (decide (s4.2 < (p0.length : Int))) (bnd (idx p0 s4.2) fun y7 => bnd (idx s4.1 s4.2) fun y11 => some (.inl ((s4.1.set s4.2.toNat (⟨(wk .u8 y7)⟩ : Ik .u8)), (w64 (s4.2 + 1))))) (some (.inr (.brk (s4.1, s4.2)))))

noncomputable def F_impl_keyOf (p0 : (List Int)) : Option (ByteArray) :=
  bnd (mke (p0.length : Int) (⟨0⟩ : Ik .u8)) fun z1 => bnd (run (F_impl_keyOf_L1 p0) (z1, 0)) (Out.elim (fun (s4 : (List (Ik .u8)) × Int) => some (strOf s4.1)) (fun (r : ByteArray) => some r))


noncomputable def F_impl_rest_key (p0 : Grest) : Option (ByteArray) :=
  (cond p0.top (bnd (F_impl_keyOf p0.word) fun r3 => bnd (cat (⟨#[116]⟩ : ByteArray) r3) fun z5 => some z5) (bnd (F_impl_keyOf p0.word) fun r7 => bnd (cat (⟨#[98]⟩ : ByteArray) r7) fun z9 => some z9))



noncomputable def F_slices_Clone_Sint64_int64 (p0 : (List Int)) : Option ((List Int)) :=
  bnd (app ([] : List Int) p0) fun z3 => some z3

noncomputable def F_impl_reversed_L1 (s5 : (List Int) × Int × Int) : Option (((List Int) × Int × Int) ⊕ Out ((List Int) × Int × Int) (Option ((List Int)))) :=
  (cond (decide (s5.2.1 < s5.2.2)) (bnd (idx s5.1 s5.2.2) fun y8 => bnd (idx s5.1 s5.2.1) fun y12 => bnd (idx s5.1 s5.2.1) fun y19 => bnd (idx (s5.1.set s5.2.1.toNat y8) s5.2.2) fun y21 => some (.inl (((s5.1.set s5.2.1.toNat y8).set s5.2.2.toNat y12), (w64 (s5.2.1 + 1)), (w64 (s5.2.2 - 1))))) (some (.inr (.brk (s5.1, s5.2.1, s5.2.2)))))

noncomputable def F_impl_reversed (p0 : (List Int)) : Option ((List Int)) :=
  bnd (F_slices_Clone_Sint64_int64 p0) fun r1 => bnd (run (F_impl_reversed_L1) (r1, 0, (w64 ((r1.length : Int) - 1)))) (Out.elim (fun (s5 : (List Int) × Int × Int) => some s5.1) (fun (r : Option ((List Int))) => r))

noncomputable def F_impl_SolveDominoes_L2 (s18 : (List Grest) × List (ByteArray × Bool) × Bool × Int) (s33 : (List Int) × Int) : Option (((List Int) × Int) ⊕ Out ((List Int) × Int) ((List Int) × Int)) :=
  bnd (idx s18.1 s33.2) fun y35 => (cond (decide (0 ≤ y35.parent)) (bnd (idx s18.1 s33.2) fun y41 => bnd (app s33.1 ([y41.domino] : List Int)) fun z47 => bnd (idx s18.1 s33.2) fun y50 => some (.inl (z47, y50.parent))) (some (.inr (.brk (s33.1, s33.2)))))

noncomputable def F_impl_SolveDominoes_L4 (s101 : (List Grest)) (s122 : (List Int) × Int) : Option (((List Int) × Int) ⊕ Out ((List Int) × Int) ((List Int) × Int)) :=
  bnd (idx s101 s122.2) fun y124 => (cond (decide (0 ≤ y124.parent)) (bnd (idx s101 s122.2) fun y130 => bnd (app s122.1 ([y130.domino] : List Int)) fun z136 => bnd (idx s101 s122.2) fun y139 => some (.inl (z136, y139.parent))) (some (.inr (.brk (s122.1, s122.2)))))

noncomputable def F_impl_SolveDominoes_L5 (s101 : (List Grest)) (s156 : (List Int) × Int) : Option (((List Int) × Int) ⊕ Out ((List Int) × Int) ((List Int) × Int)) :=
  bnd (idx s101 s156.2) fun y158 => (cond (decide (0 ≤ y158.parent)) (bnd (idx s101 s156.2) fun y164 => bnd (app s156.1 ([y164.domino] : List Int)) fun z170 => bnd (idx s101 s156.2) fun y173 => some (.inl (z170, y173.parent))) (some (.inr (.brk (s156.1, s156.2)))))

noncomputable def F_impl_SolveDominoes_L3 (p0 : (List GDomino)) (s18 : (List Grest) × List (ByteArray × Bool) × Bool × Int) (s21 : Int × Int) (s60 : (List Grest) × List (ByteArray × Bool) × Bool × Int) : Option (((List Grest) × List (ByteArray × Bool) × Bool × Int) ⊕ Out ((List Grest) × List (ByteArray × Bool) × Bool × Int) (Option (((List Grest) × List (ByteArray × Bool) × Bool × Int) ⊕ Out ((List Grest) × List (ByteArray × Bool) × Bool × Int) (Option ((List Int) × Int))))) :=
  (cond (decide (s60.2.2.2 < s21.2)) (bnd (bnd (idx s60.1 s18.2.2.2) fun y65 => bnd (idx p0 s60.2.2.2) fun y69 => bnd (F_impl_rest_put y65 y69) fun r77 => some (.brk (r77.1.top, r77.1.word, r77.1.domino, r77.1.parent, r77.2)) : Option (Out (Bool × (List Int) × Int × Int × Bool) (Option (((List Grest) × List (ByteArray × Bool) × Bool × Int) ⊕ Out ((List Grest) × List (ByteArray × Bool) × Bool × Int) (Option ((List Int) × Int)))))) (Out.elim (fun (s63 : Bool × (List Int) × Int × Int × Bool) => (cond (!s63.2.2.2.2) (some (.inl (s60.1, s60.2.1, s60.2.2.1, (w64 (s60.2.2.2 + 1))))) (cond (decide (400 < (s63.2.1.length : Int))) (some (.inl (s60.1, s60.2.1, true, (w64 (s60.2.2.2 + 1))))) (bnd (F_impl_rest_key (⟨s63.1, s63.2.1, s63.2.2.1, s63.2.2.2.1⟩ : Grest)) fun r93 => (cond ((mget s60.2.1 r93).getD false) (some (.inl (s60.1, s60.2.1, s60.2.2.1, (w64 (s60.2.2.2 + 1))))) (bnd (F_impl_rest_key (⟨s63.1, s63.2.1, s60.2.2.2, s18.2.2.2⟩ : Grest)) fun r99 => bnd (bnd (app s60.1 ([(⟨s63.1, s63.2.1, s60.2.2.2, s18.2.2.2⟩ : Grest)] : List Grest)) fun z107 => some (.brk z107) : Option (Out ((List Grest)) (Option (((List Grest) × List (ByteArray × Bool) × Bool × Int) ⊕ Out ((List Grest) × List (ByteArray × Bool) × Bool × Int) (Option ((List Int) × Int)))))) (Out.elim (fun (s101 : (List Grest)) => (cond (decide ((s63.2.1.length : Int) = 0)) (some (.inr (.ret (some (.inr (.ret (bnd (isG 0 1) fun r115 => (cond r115 (some (([] : (List Int)), 3)) (bnd (isG 0 2) fun r118 => (cond r118 (some (([] : (List Int)), 5)) (bnd (run (F_impl_SolveDominoes_L4 s101) (([] : List Int), (w64 ((s101.length : Int) - 1)))) (Out.elim (fun (s122 : (List Int) × Int) => (cond (decide (400 < (s122.1.length : Int))) (some (([] : (List Int)), 5)) (bnd (F_impl_reversed s122.1) fun r145 => some (r145, 0)))) (fun (r : (List Int) × Int) => some r))))))))))))) (cond (decide ((s101.length : Int) = 301)) (some (.inr (.ret (some (.inr (.ret (bnd (isG 2 1) fun r149 => (cond r149 (some (([] : (List Int)), 3)) (bnd (isG 2 2) fun r152 => (cond r152 (some (([] : (List Int)), 5)) (bnd (run (F_impl_SolveDominoes_L5 s101) (([] : List Int), (w64 ((s101.length : Int) - 1)))) (Out.elim (fun (s156 : (List Int) × Int) => (cond (decide (400 < (s156.1.length : Int))) (some (([] : (List Int)), 5)) (bnd (F_impl_reversed s156.1) fun r179 => some (r179, 0)))) (fun (r : (List Int) × Int) => some r))))))))))))) (some (.inl (s101, (mput s60.2.1 r99 true), s60.2.2.1, (w64 (s60.2.2.2 + 1)))))))) (fun (r : Option (((List Grest) × List (ByteArray × Bool) × Bool × Int) ⊕ Out ((List Grest) × List (ByteArray × Bool) × Bool × Int) (Option ((List Int) × Int)))) => some (.inr (.ret r)))))))))) (fun (r : Option (((List Grest) × List (ByteArray × Bool) × Bool × Int) ⊕ Out ((List Grest) × List (ByteArray × Bool) × Bool × Int) (Option ((List Int) × Int)))) => some (.inr (.ret r))))) (some (.inr (.brk (s60.1, s60.2.1, s60.2.2.1, s60.2.2.2)))))

noncomputable def F_impl_SolveDominoes_L6 (s60 : (List Grest) × List (ByteArray × Bool) × Bool × Int) (s190 : (List Int) × Int) : Option (((List Int) × Int) ⊕ Out ((List Int) × Int) ((List Int) × Int)) :=
  bnd (idx s60.1 s190.2) fun y192 => (cond (decide (0 ≤ y192.parent)) (bnd (idx s60.1 s190.2) fun y198 => bnd (app s190.1 ([y198.domino] : List Int)) fun z204 => bnd (idx s60.1 s190.2) fun y207 => some (.inl (z204, y207.parent))) (some (.inr (.brk (s190.1, s190.2)))))

noncomputable def F_impl_SolveDominoes_L1 (p0 : (List GDomino)) (p1 : Int) (p2 : Int) (s18 : (List Grest) × List (ByteArray × Bool) × Bool × Int) : Option (((List Grest) × List (ByteArray × Bool) × Bool × Int) ⊕ Out ((List Grest) × List (ByteArray × Bool) × Bool × Int) (Option ((List Int) × Int))) :=
  (cond (decide (s18.2.2.2 < (s18.1.length : Int))) (bnd ((cond (decide (s18.2.2.2 = 0)) (cond (decide (0 ≤ p1)) (some (.brk (p1, (w64 (p1 + 1))))) (some (.brk (0, (p0.length : Int))))) (some (.brk (0, (p0.length : Int))))) : Option (Out (Int × Int) (Option ((List Int) × Int)))) (Out.elim (fun (s21 : Int × Int) => (cond (decide (s18.2.2.2 = p2)) (some (.inr (.ret (bnd (isG 2 1) fun r26 => (cond r26 (some (([] : (List Int)), 3)) (bnd (isG 2 2) fun r29 => (cond r29 (some (([] : (List Int)), 5)) (bnd (run (F_impl_SolveDominoes_L2 s18) (([] : List Int), (w64 ((s18.1.length : Int) - 1)))) (Out.elim (fun (s33 : (List Int) × Int) => (cond (decide (400 < (s33.1.length : Int))) (some (([] : (List Int)), 5)) (bnd (F_impl_reversed s33.1) fun r56 => some (r56, 0)))) (fun (r : (List Int) × Int) => some r)))))))))) (bnd (run (F_impl_SolveDominoes_L3 p0 s18 s21) (s18.1, s18.2.1, s18.2.2.1, s21.1)) (Out.elim (fun (s60 : (List Grest) × List (ByteArray × Bool) × Bool × Int) => (cond (decide ((s60.1.length : Int) = 301)) (some (.inr (.ret (bnd (isG 2 1) fun r183 => (cond r183 (some (([] : (List Int)), 3)) (bnd (isG 2 2) fun r186 => (cond r186 (some (([] : (List Int)), 5)) (bnd (run (F_impl_SolveDominoes_L6 s60) (([] : List Int), (w64 ((s60.1.length : Int) - 1)))) (Out.elim (fun (s190 : (List Int) × Int) => (cond (decide (400 < (s190.1.length : Int))) (some (([] : (List Int)), 5)) (bnd (F_impl_reversed s190.1) fun r213 => some (r213, 0)))) (fun (r : (List Int) × Int) => some r)))))))))) (some (.inl (s60.1, s60.2.1, s60.2.2.1, (w64 (s18.2.2.2 + 1))))))) (fun (r : Option (((List Grest) × List (ByteArray × Bool) × Bool × Int) ⊕ Out ((List Grest) × List (ByteArray × Bool) × Bool × Int) (Option ((List Int) × Int)))) => r))))) (fun (r : Option ((List Int) × Int)) => some (.inr (.ret r))))) (some (.inr (.brk (s18.1, s18.2.1, s18.2.2.1, s18.2.2.2)))))

noncomputable def F_impl_SolveDominoes_L7 (s18 : (List Grest) × List (ByteArray × Bool) × Bool × Int) (s224 : (List Int) × Int) : Option (((List Int) × Int) ⊕ Out ((List Int) × Int) ((List Int) × Int)) :=
  bnd (idx s18.1 s224.2) fun y226 => (cond (decide (0 ≤ y226.parent)) (bnd (idx s18.1 s224.2) fun y232 => bnd (app s224.1 ([y232.domino] : List Int)) fun z238 => bnd (idx s18.1 s224.2) fun y241 => some (.inl (z238, y241.parent))) (some (.inr (.brk (s224.1, s224.2)))))

noncomputable def F_impl_SolveDominoes_L8 (s18 : (List Grest) × List (ByteArray × Bool) × Bool × Int) (s257 : (List Int) × Int) : Option (((List Int) × Int) ⊕ Out ((List Int) × Int) ((List Int) × Int)) :=
  bnd (idx s18.1 s257.2) fun y259 => (cond (decide (0 ≤ y259.parent)) (bnd (idx s18.1 s257.2) fun y265 => bnd (app s257.1 ([y265.domino] : List Int)) fun z271 => bnd (idx s18.1 s257.2) fun y274 => some (.inl (z271, y274.parent))) (some (.inr (.brk (s257.1, s257.2)))))

noncomputable def F_impl_SolveDominoes (p0 : (List GDomino)) (p1 : Int) (p2 : Int) : Option ((List Int) × Int) :=
  bnd (F_impl_ValidDominoes p0) fun r1 => (cond (!r1) (some (([] : (List Int)), 1)) (bnd (bnd (F_impl_budgetOk p2) fun r6 => (cond (!r6) (some (.ret (([] : (List Int)), 2))) (bnd (F_impl_size_impl_Domino p0) fun r9 => bnd (F_impl_within p1 (-1) (w64 (r9 - 1))) fun r11 => (cond (!r11) (some (.ret (([] : (List Int)), 2))) (some (.brk ()))))) : Option (Out (Unit) ((List Int) × Int))) (Out.elim (fun (s4 : Unit) => bnd (run (F_impl_SolveDominoes_L1 p0 p1 p2) (([(⟨false, ([] : (List Int)), 0, (-1)⟩ : Grest)] : List Grest), ([] : List (ByteArray × Bool)), false, 0)) (Out.elim (fun (s18 : (List Grest) × List (ByteArray × Bool) × Bool × Int) => (cond s18.2.2.1 (bnd (isG 2 1) fun r217 => (cond r217 (some (([] : (List Int)), 3)) (bnd (isG 2 2) fun r220 => (cond r220 (some (([] : (List Int)), 5)) (bnd (run (F_impl_SolveDominoes_L7 s18) (([] : List Int), (w64 ((s18.1.length : Int) - 1)))) (Out.elim (fun (s224 : (List Int) × Int) => (cond (decide (400 < (s224.1.length : Int))) (some (([] : (List Int)), 5)) (bnd (F_impl_reversed s224.1) fun r247 => some (r247, 0)))) (fun (r : (List Int) × Int) => some r))))))) (bnd (isG 1 1) fun r250 => (cond r250 (some (([] : (List Int)), 3)) (bnd (isG 1 2) fun r253 => (cond r253 (some (([] : (List Int)), 5)) (bnd (run (F_impl_SolveDominoes_L8 s18) (([] : List Int), (w64 ((s18.1.length : Int) - 1)))) (Out.elim (fun (s257 : (List Int) × Int) => (cond (decide (400 < (s257.1.length : Int))) (some (([] : (List Int)), 5)) (bnd (F_impl_reversed s257.1) fun r280 => some (r280, 0)))) (fun (r : (List Int) × Int) => some r))))))))) (fun (r : Option ((List Int) × Int)) => r))) (fun (r : (List Int) × Int) => some r))))

noncomputable def F_laws_eqInt64S_L1 (p0 : (List Int)) (p1 : (List Int)) (s2 : Int) : Option ((Int) ⊕ Out (Int) Bool) :=
  (cond (decide (s2 < (p0.length : Int))) (bnd (idx p0 s2) fun y5 => bnd (idx p1 s2) fun y9 => (cond (decide (y5 ≠ y9)) (some (.inr (.ret false))) (some (.inl (w64 (s2 + 1)))))) (some (.inr (.brk s2))))

noncomputable def F_laws_eqInt64S (p0 : (List Int)) (p1 : (List Int)) : Option (Bool) :=
  (cond (decide ((p0.length : Int) ≠ (p1.length : Int))) (some false) (bnd (run (F_laws_eqInt64S_L1 p0 p1) 0) (Out.elim (fun (s2 : Int) => some true) (fun (r : Bool) => some r))))


noncomputable def F_laws_eqDomino (p0 : GDomino) (p1 : GDomino) : Option (Bool) :=
  bnd (F_laws_eqInt64S p0.Top p1.Top) fun r3 => (cond (!r3) (some false) (bnd (F_laws_eqInt64S p0.Bottom p1.Bottom) fun r6 => (cond (!r6) (some false) (some true))))

noncomputable def F_laws_eqDominoS_L1 (p0 : (List GDomino)) (p1 : (List GDomino)) (s2 : Int) : Option ((Int) ⊕ Out (Int) Bool) :=
  (cond (decide (s2 < (p0.length : Int))) (bnd (idx p0 s2) fun y5 => bnd (idx p1 s2) fun y9 => bnd (F_laws_eqDomino y5 y9) fun r16 => (cond (!r16) (some (.inr (.ret false))) (some (.inl (w64 (s2 + 1)))))) (some (.inr (.brk s2))))

noncomputable def F_laws_eqDominoS (p0 : (List GDomino)) (p1 : (List GDomino)) : Option (Bool) :=
  (cond (decide ((p0.length : Int) ≠ (p1.length : Int))) (some false) (bnd (run (F_laws_eqDominoS_L1 p0 p1) 0) (Out.elim (fun (s2 : Int) => some true) (fun (r : Bool) => some r))))

noncomputable def F_laws_markInt64S_L1 (s1 : (List Int) × Int × Int) : Option (((List Int) × Int × Int) ⊕ Out ((List Int) × Int × Int) (Int × (List Int))) :=
  (cond (decide (s1.2.2 < (s1.1.length : Int))) (bnd (idx s1.1 s1.2.2) fun y4 => some (.inl ((s1.1.set s1.2.2.toNat s1.2.1), (w64 (s1.2.1 + 1)), (w64 (s1.2.2 + 1))))) (some (.inr (.brk (s1.1, s1.2.1, s1.2.2)))))

noncomputable def F_laws_markInt64S (p0 : (List Int)) (p1 : Int) : Option (Int × (List Int)) :=
  bnd (run (F_laws_markInt64S_L1) (p0, p1, 0)) (Out.elim (fun (s1 : (List Int) × Int × Int) => some (s1.2.1, s1.1)) (fun (r : Int × (List Int)) => some r))

noncomputable def F_laws_markDominoS_L1 (s1 : (List GDomino) × Int × Int) : Option (((List GDomino) × Int × Int) ⊕ Out ((List GDomino) × Int × Int) (Int × (List GDomino))) :=
  (cond (decide (s1.2.2 < (s1.1.length : Int))) (bnd (idx s1.1 s1.2.2) fun y4 => bnd (F_laws_markInt64S y4.Top s1.2.1) fun r10 => bnd (idx (s1.1.set s1.2.2.toNat (⟨r10.2, y4.Bottom⟩ : GDomino)) s1.2.2) fun y12 => bnd (F_laws_markInt64S y12.Bottom r10.1) fun r15 => some (.inl (((s1.1.set s1.2.2.toNat (⟨r10.2, y4.Bottom⟩ : GDomino)).set s1.2.2.toNat (⟨y12.Top, r15.2⟩ : GDomino)), r15.1, (w64 (s1.2.2 + 1))))) (some (.inr (.brk (s1.1, s1.2.1, s1.2.2)))))

noncomputable def F_laws_markDominoS (p0 : (List GDomino)) (p1 : Int) : Option (Int × (List GDomino)) :=
  bnd (run (F_laws_markDominoS_L1) (p0, p1, 0)) (Out.elim (fun (s1 : (List GDomino) × Int × Int) => some (s1.2.1, s1.1)) (fun (r : Int × (List GDomino)) => some r))

noncomputable def F_laws_heldInt64S_L1 (p0 : (List Int)) (s1 : Int × Int) : Option ((Int × Int) ⊕ Out (Int × Int) Int) :=
  (cond (decide (s1.2 < (p0.length : Int))) (bnd (idx p0 s1.2) fun y4 => (cond (decide (y4 ≠ s1.1)) (some (.inr (.ret (-1)))) (some (.inl ((w64 (s1.1 + 1)), (w64 (s1.2 + 1))))))) (some (.inr (.brk (s1.1, s1.2)))))

noncomputable def F_laws_heldInt64S (p0 : (List Int)) (p1 : Int) : Option (Int) :=
  bnd (run (F_laws_heldInt64S_L1 p0) (p1, 0)) (Out.elim (fun (s1 : Int × Int) => some s1.1) (fun (r : Int) => some r))

noncomputable def F_laws_FnExactSolveDominoes_L2 (p0 : (List GDomino)) (p1 : Int) (p2 : Int) (r4 : (List GDomino)) (s162 : (List Gl32Rest) × Bool × Int) (s213 : (List Gl32Rest) × Bool × Int) : Option (((List Gl32Rest) × Bool × Int) ⊕ Out ((List Gl32Rest) × Bool × Int) (Option (Bool))) :=
  (cond (decide (s213.2.2 < (r4.length : Int))) (bnd ((cond (decide (s162.2.2 = 0)) (cond (decide (0 ≤ p1)) (some (.brk (decide (s213.2.2 ≠ p1)))) (some (.brk false))) (some (.brk false))) : Option (Out (Bool) (Option (Bool)))) (Out.elim (fun (s216 : Bool) => (cond s216 (some (.inl (s213.1, s213.2.1, (w64 (s213.2.2 + 1))))) (bnd (bnd (idx s213.1 s162.2.2) fun y223 => bnd (idx r4 s213.2.2) fun y227 => bnd (F_spec_l00Own y227.Top) fun r238 => bnd (F_spec_l00Own y227.Bottom) fun r242 => bnd ((cond y223.upper (bnd (F_spec_l00Own y223.word) fun r253 => bnd (app r253 y227.Top) fun z257 => some (.brk (z257, r242))) (bnd (F_spec_l00Own y223.word) fun r277 => bnd (app r277 y227.Bottom) fun z281 => some (.brk (r238, z281)))) : Option (Out ((List Int) × (List Int)) (Option (Out ((List Int) × Bool × Int × Int × Bool) (Option (Bool)))))) (Out.elim (fun (s245 : (List Int) × (List Int)) => bnd (F_spec_l00Min (s245.1.length : Int) (s245.2.length : Int)) fun r297 => bnd (slc s245.1 0 r297) fun z299 => bnd (slc s245.2 0 r297) fun z302 => bnd (F_spec_l00Same z299 z302) fun r308 => (cond (!r308) (some (.brk (([] : (List Int)), false, 0, 0, false))) (cond (decide (r297 < (s245.1.length : Int))) (bnd (slc s245.1 r297 (s245.1.length : Int)) fun z313 => some (.brk (z313, true, 0, 0, true))) (bnd (slc s245.2 r297 (s245.2.length : Int)) fun z317 => some (.brk (z317, false, 0, 0, true)))))) (fun (r : Option (Out ((List Int) × Bool × Int × Int × Bool) (Option (Bool)))) => r)) : Option (Out ((List Int) × Bool × Int × Int × Bool) (Option (Bool)))) (Out.elim (fun (s221 : (List Int) × Bool × Int × Int × Bool) => (cond (!s221.2.2.2.2) (some (.inl (s213.1, s213.2.1, (w64 (s213.2.2 + 1))))) (cond (decide ((s221.1.length : Int) = 0)) (bnd (F_spec_l32Back s213.1 (⟨s221.1, s221.2.1, s162.2.2, s213.2.2⟩ : Gl32Rest)) fun r408 => some (.inr (.ret (bnd (F_laws_toDominoS p0) fun r411 => bnd (F_impl_SolveDominoes r411 p1 p2) fun r414 => bnd (bnd (F_laws_eqInt64S r414.1 r408.1) fun r419 => (cond (!r419) (some (.ret false)) (cond (decide (r414.2 ≠ r408.2)) (some (.ret false)) (some (.brk ())))) : Option (Out (Unit) Bool)) (Out.elim (fun (s417 : Unit) => bnd (F_laws_toDominoS p0) fun r423 => bnd (F_laws_eqDominoS r411 r423) fun r426 => (cond (!r426) (some false) (bnd (F_laws_markDominoS r411 1) fun r429 => bnd ((cond (decide (r429.1 < 0)) (some (.ret false)) (bnd (F_laws_eqInt64S r414.1 r408.1) fun r434 => (cond (!r434) (some (.ret false)) (cond (decide (r414.2 ≠ r408.2)) (some (.ret false)) (some (.brk ())))))) : Option (Out (Unit) Bool)) (Out.elim (fun (s431 : Unit) => bnd (F_laws_markInt64S r414.1 1) fun r438 => bnd (F_laws_heldInt64S r438.2 1) fun r440 => (cond (decide (r440 < 0)) (some false) (cond (decide (r440 ≠ r438.1)) (some false) (bnd (F_laws_toDominoS p0) fun r444 => bnd (F_impl_SolveDominoes r444 p1 p2) fun r447 => bnd (F_laws_eqInt64S r447.1 r408.1) fun r450 => (cond (!r450) (some false) (cond (decide (r447.2 ≠ r408.2)) (some false) (bnd (F_laws_heldInt64S r438.2 1) fun r454 => (cond (decide (r454 < 0)) (some false) (cond (decide (r454 ≠ r438.1)) (some false) (some true)))))))))) (fun (r : Bool) => some r))))) (fun (r : Bool) => some r)))))) (cond (decide (400 < (s221.1.length : Int))) (some (.inl (s213.1, false, (w64 (s213.2.2 + 1))))) (bnd (F_spec_l32Known s213.1 (⟨s221.1, s221.2.1, s162.2.2, s213.2.2⟩ : Gl32Rest)) fun r459 => (cond r459 (some (.inl (s213.1, s213.2.1, (w64 (s213.2.2 + 1))))) (bnd (app s213.1 ([(⟨s221.1, s221.2.1, s162.2.2, s213.2.2⟩ : Gl32Rest)] : List Gl32Rest)) fun z463 => (cond (decide (300 < (z463.length : Int))) (some (.inr (.ret (bnd (F_laws_toDominoS p0) fun r467 => bnd (F_impl_SolveDominoes r467 p1 p2) fun r470 => bnd (bnd (F_laws_eqInt64S r470.1 ([] : (List Int))) fun r475 => (cond (!r475) (some (.ret false)) (cond (decide (r470.2 ≠ 5)) (some (.ret false)) (some (.brk ())))) : Option (Out (Unit) Bool)) (Out.elim (fun (s473 : Unit) => bnd (F_laws_toDominoS p0) fun r479 => bnd (F_laws_eqDominoS r467 r479) fun r482 => (cond (!r482) (some false) (bnd (F_laws_markDominoS r467 1) fun r485 => bnd ((cond (decide (r485.1 < 0)) (some (.ret false)) (bnd (F_laws_eqInt64S r470.1 ([] : (List Int))) fun r490 => (cond (!r490) (some (.ret false)) (cond (decide (r470.2 ≠ 5)) (some (.ret false)) (some (.brk ())))))) : Option (Out (Unit) Bool)) (Out.elim (fun (s487 : Unit) => bnd (F_laws_markInt64S r470.1 1) fun r494 => bnd (F_laws_heldInt64S r494.2 1) fun r496 => (cond (decide (r496 < 0)) (some false) (cond (decide (r496 ≠ r494.1)) (some false) (bnd (F_laws_toDominoS p0) fun r500 => bnd (F_impl_SolveDominoes r500 p1 p2) fun r503 => bnd (F_laws_eqInt64S r503.1 ([] : (List Int))) fun r506 => (cond (!r506) (some false) (cond (decide (r503.2 ≠ 5)) (some false) (bnd (F_laws_heldInt64S r494.2 1) fun r510 => (cond (decide (r510 < 0)) (some false) (cond (decide (r510 ≠ r494.1)) (some false) (some true)))))))))) (fun (r : Bool) => some r))))) (fun (r : Bool) => some r)))))) (some (.inl (z463, s213.2.1, (w64 (s213.2.2 + 1))))))))))))) (fun (r : Option (Bool)) => some (.inr (.ret r))))))) (fun (r : Option (Bool)) => some (.inr (.ret r))))) (some (.inr (.brk (s213.1, s213.2.1, s213.2.2)))))

noncomputable def F_laws_FnExactSolveDominoes_L1 (p0 : (List GDomino)) (p1 : Int) (p2 : Int) (r4 : (List GDomino)) (s162 : (List Gl32Rest) × Bool × Int) : Option (((List Gl32Rest) × Bool × Int) ⊕ Out ((List Gl32Rest) × Bool × Int) (Option (Bool))) :=
  (cond (decide (s162.2.2 < (s162.1.length : Int))) (cond (decide (s162.2.2 = p2)) (some (.inr (.ret (bnd (F_laws_toDominoS p0) fun r166 => bnd (F_impl_SolveDominoes r166 p1 p2) fun r169 => bnd (bnd (F_laws_eqInt64S r169.1 ([] : (List Int))) fun r174 => (cond (!r174) (some (.ret false)) (cond (decide (r169.2 ≠ 5)) (some (.ret false)) (some (.brk ())))) : Option (Out (Unit) Bool)) (Out.elim (fun (s172 : Unit) => bnd (F_laws_toDominoS p0) fun r178 => bnd (F_laws_eqDominoS r166 r178) fun r181 => (cond (!r181) (some false) (bnd (F_laws_markDominoS r166 1) fun r184 => bnd ((cond (decide (r184.1 < 0)) (some (.ret false)) (bnd (F_laws_eqInt64S r169.1 ([] : (List Int))) fun r189 => (cond (!r189) (some (.ret false)) (cond (decide (r169.2 ≠ 5)) (some (.ret false)) (some (.brk ())))))) : Option (Out (Unit) Bool)) (Out.elim (fun (s186 : Unit) => bnd (F_laws_markInt64S r169.1 1) fun r193 => bnd (F_laws_heldInt64S r193.2 1) fun r195 => (cond (decide (r195 < 0)) (some false) (cond (decide (r195 ≠ r193.1)) (some false) (bnd (F_laws_toDominoS p0) fun r199 => bnd (F_impl_SolveDominoes r199 p1 p2) fun r202 => bnd (F_laws_eqInt64S r202.1 ([] : (List Int))) fun r205 => (cond (!r205) (some false) (cond (decide (r202.2 ≠ 5)) (some false) (bnd (F_laws_heldInt64S r193.2 1) fun r209 => (cond (decide (r209 < 0)) (some false) (cond (decide (r209 ≠ r193.1)) (some false) (some true)))))))))) (fun (r : Bool) => some r))))) (fun (r : Bool) => some r)))))) (bnd (run (F_laws_FnExactSolveDominoes_L2 p0 p1 p2 r4 s162) (s162.1, s162.2.1, 0)) (Out.elim (fun (s213 : (List Gl32Rest) × Bool × Int) => some (.inl (s213.1, s213.2.1, (w64 (s162.2.2 + 1))))) (fun (r : Option (Bool)) => some (.inr (.ret r)))))) (some (.inr (.brk (s162.1, s162.2.1, s162.2.2)))))

noncomputable def F_laws_FnExactSolveDominoes (p0 : (List GDomino)) (p1 : Int) (p2 : Int) : Option (Bool) :=
  bnd (F_laws_szDominoS p0 1048576) fun r1 => (cond (decide (r1 < 0)) (some true) (bnd (F_laws_toDominoS p0) fun r4 => bnd (F_spec_l32Is r4) fun r8 => (cond (!r8) (bnd (F_laws_toDominoS p0) fun r11 => bnd (F_impl_SolveDominoes r11 p1 p2) fun r14 => bnd (bnd (F_laws_eqInt64S r14.1 ([] : (List Int))) fun r19 => (cond (!r19) (some (.ret false)) (cond (decide (r14.2 ≠ 1)) (some (.ret false)) (some (.brk ())))) : Option (Out (Unit) Bool)) (Out.elim (fun (s17 : Unit) => bnd (F_laws_toDominoS p0) fun r23 => bnd (F_laws_eqDominoS r11 r23) fun r26 => (cond (!r26) (some false) (bnd (F_laws_markDominoS r11 1) fun r29 => bnd ((cond (decide (r29.1 < 0)) (some (.ret false)) (bnd (F_laws_eqInt64S r14.1 ([] : (List Int))) fun r34 => (cond (!r34) (some (.ret false)) (cond (decide (r14.2 ≠ 1)) (some (.ret false)) (some (.brk ())))))) : Option (Out (Unit) Bool)) (Out.elim (fun (s31 : Unit) => bnd (F_laws_markInt64S r14.1 1) fun r38 => bnd (F_laws_heldInt64S r38.2 1) fun r40 => (cond (decide (r40 < 0)) (some false) (cond (decide (r40 ≠ r38.1)) (some false) (bnd (F_laws_toDominoS p0) fun r44 => bnd (F_impl_SolveDominoes r44 p1 p2) fun r47 => bnd (F_laws_eqInt64S r47.1 ([] : (List Int))) fun r50 => (cond (!r50) (some false) (cond (decide (r47.2 ≠ 1)) (some false) (bnd (F_laws_heldInt64S r38.2 1) fun r54 => (cond (decide (r54 < 0)) (some false) (cond (decide (r54 ≠ r38.1)) (some false) (some true)))))))))) (fun (r : Bool) => some r))))) (fun (r : Bool) => some r))) (bnd (bnd (F_spec_l05Budget p2) fun r60 => (cond (!r60) (some (.ret (bnd (F_laws_toDominoS p0) fun r63 => bnd (F_impl_SolveDominoes r63 p1 p2) fun r66 => bnd (bnd (F_laws_eqInt64S r66.1 ([] : (List Int))) fun r71 => (cond (!r71) (some (.ret false)) (cond (decide (r66.2 ≠ 2)) (some (.ret false)) (some (.brk ())))) : Option (Out (Unit) Bool)) (Out.elim (fun (s69 : Unit) => bnd (F_laws_toDominoS p0) fun r75 => bnd (F_laws_eqDominoS r63 r75) fun r78 => (cond (!r78) (some false) (bnd (F_laws_markDominoS r63 1) fun r81 => bnd ((cond (decide (r81.1 < 0)) (some (.ret false)) (bnd (F_laws_eqInt64S r66.1 ([] : (List Int))) fun r86 => (cond (!r86) (some (.ret false)) (cond (decide (r66.2 ≠ 2)) (some (.ret false)) (some (.brk ())))))) : Option (Out (Unit) Bool)) (Out.elim (fun (s83 : Unit) => bnd (F_laws_markInt64S r66.1 1) fun r90 => bnd (F_laws_heldInt64S r90.2 1) fun r92 => (cond (decide (r92 < 0)) (some false) (cond (decide (r92 ≠ r90.1)) (some false) (bnd (F_laws_toDominoS p0) fun r96 => bnd (F_impl_SolveDominoes r96 p1 p2) fun r99 => bnd (F_laws_eqInt64S r99.1 ([] : (List Int))) fun r102 => (cond (!r102) (some false) (cond (decide (r99.2 ≠ 2)) (some false) (bnd (F_laws_heldInt64S r90.2 1) fun r106 => (cond (decide (r106 < 0)) (some false) (cond (decide (r106 ≠ r90.1)) (some false) (some true)))))))))) (fun (r : Bool) => some r))))) (fun (r : Bool) => some r))))) (bnd (F_spec_l00In p1 (-1) (w64 ((r4.length : Int) - 1))) fun r110 => (cond (!r110) (some (.ret (bnd (F_laws_toDominoS p0) fun r113 => bnd (F_impl_SolveDominoes r113 p1 p2) fun r116 => bnd (bnd (F_laws_eqInt64S r116.1 ([] : (List Int))) fun r121 => (cond (!r121) (some (.ret false)) (cond (decide (r116.2 ≠ 2)) (some (.ret false)) (some (.brk ())))) : Option (Out (Unit) Bool)) (Out.elim (fun (s119 : Unit) => bnd (F_laws_toDominoS p0) fun r125 => bnd (F_laws_eqDominoS r113 r125) fun r128 => (cond (!r128) (some false) (bnd (F_laws_markDominoS r113 1) fun r131 => bnd ((cond (decide (r131.1 < 0)) (some (.ret false)) (bnd (F_laws_eqInt64S r116.1 ([] : (List Int))) fun r136 => (cond (!r136) (some (.ret false)) (cond (decide (r116.2 ≠ 2)) (some (.ret false)) (some (.brk ())))))) : Option (Out (Unit) Bool)) (Out.elim (fun (s133 : Unit) => bnd (F_laws_markInt64S r116.1 1) fun r140 => bnd (F_laws_heldInt64S r140.2 1) fun r142 => (cond (decide (r142 < 0)) (some false) (cond (decide (r142 ≠ r140.1)) (some false) (bnd (F_laws_toDominoS p0) fun r146 => bnd (F_impl_SolveDominoes r146 p1 p2) fun r149 => bnd (F_laws_eqInt64S r149.1 ([] : (List Int))) fun r152 => (cond (!r152) (some false) (cond (decide (r149.2 ≠ 2)) (some false) (bnd (F_laws_heldInt64S r140.2 1) fun r156 => (cond (decide (r156 < 0)) (some false) (cond (decide (r156 ≠ r140.1)) (some false) (some true)))))))))) (fun (r : Bool) => some r))))) (fun (r : Bool) => some r))))) (some (.brk ()))))) : Option (Out (Unit) (Option (Bool)))) (Out.elim (fun (s58 : Unit) => bnd (run (F_laws_FnExactSolveDominoes_L1 p0 p1 p2 r4) (([(⟨([] : (List Int)), false, (-1), (-1)⟩ : Gl32Rest)] : List Gl32Rest), true, 0)) (Out.elim (fun (s162 : (List Gl32Rest) × Bool × Int) => (cond (!s162.2.1) (bnd (F_laws_toDominoS p0) fun r515 => bnd (F_impl_SolveDominoes r515 p1 p2) fun r518 => bnd (bnd (F_laws_eqInt64S r518.1 ([] : (List Int))) fun r523 => (cond (!r523) (some (.ret false)) (cond (decide (r518.2 ≠ 5)) (some (.ret false)) (some (.brk ())))) : Option (Out (Unit) Bool)) (Out.elim (fun (s521 : Unit) => bnd (F_laws_toDominoS p0) fun r527 => bnd (F_laws_eqDominoS r515 r527) fun r530 => (cond (!r530) (some false) (bnd (F_laws_markDominoS r515 1) fun r533 => bnd ((cond (decide (r533.1 < 0)) (some (.ret false)) (bnd (F_laws_eqInt64S r518.1 ([] : (List Int))) fun r538 => (cond (!r538) (some (.ret false)) (cond (decide (r518.2 ≠ 5)) (some (.ret false)) (some (.brk ())))))) : Option (Out (Unit) Bool)) (Out.elim (fun (s535 : Unit) => bnd (F_laws_markInt64S r518.1 1) fun r542 => bnd (F_laws_heldInt64S r542.2 1) fun r544 => (cond (decide (r544 < 0)) (some false) (cond (decide (r544 ≠ r542.1)) (some false) (bnd (F_laws_toDominoS p0) fun r548 => bnd (F_impl_SolveDominoes r548 p1 p2) fun r551 => bnd (F_laws_eqInt64S r551.1 ([] : (List Int))) fun r554 => (cond (!r554) (some false) (cond (decide (r551.2 ≠ 5)) (some false) (bnd (F_laws_heldInt64S r542.2 1) fun r558 => (cond (decide (r558 < 0)) (some false) (cond (decide (r558 ≠ r542.1)) (some false) (some true)))))))))) (fun (r : Bool) => some r))))) (fun (r : Bool) => some r))) (bnd (F_laws_toDominoS p0) fun r562 => bnd (F_impl_SolveDominoes r562 p1 p2) fun r565 => bnd (bnd (F_laws_eqInt64S r565.1 ([] : (List Int))) fun r570 => (cond (!r570) (some (.ret false)) (cond (decide (r565.2 ≠ 3)) (some (.ret false)) (some (.brk ())))) : Option (Out (Unit) Bool)) (Out.elim (fun (s568 : Unit) => bnd (F_laws_toDominoS p0) fun r574 => bnd (F_laws_eqDominoS r562 r574) fun r577 => (cond (!r577) (some false) (bnd (F_laws_markDominoS r562 1) fun r580 => bnd ((cond (decide (r580.1 < 0)) (some (.ret false)) (bnd (F_laws_eqInt64S r565.1 ([] : (List Int))) fun r585 => (cond (!r585) (some (.ret false)) (cond (decide (r565.2 ≠ 3)) (some (.ret false)) (some (.brk ())))))) : Option (Out (Unit) Bool)) (Out.elim (fun (s582 : Unit) => bnd (F_laws_markInt64S r565.1 1) fun r589 => bnd (F_laws_heldInt64S r589.2 1) fun r591 => (cond (decide (r591 < 0)) (some false) (cond (decide (r591 ≠ r589.1)) (some false) (bnd (F_laws_toDominoS p0) fun r595 => bnd (F_impl_SolveDominoes r595 p1 p2) fun r598 => bnd (F_laws_eqInt64S r598.1 ([] : (List Int))) fun r601 => (cond (!r601) (some false) (cond (decide (r598.2 ≠ 3)) (some false) (bnd (F_laws_heldInt64S r589.2 1) fun r605 => (cond (decide (r605 < 0)) (some false) (cond (decide (r605 ≠ r589.1)) (some false) (some true)))))))))) (fun (r : Bool) => some r))))) (fun (r : Bool) => some r))))) (fun (r : Option (Bool)) => r))) (fun (r : Option (Bool)) => r))))))

end Go.Fn
