/-
  What each function of the program computes, as a plain Lean function: printed by program off the translation. No condition.
-/
import Derived.Test.YtdfphnelnolkgaaTy
namespace Go.Fn
open Go Go.Tc
set_option linter.unusedVariables false

noncomputable def F_laws_szInt64S (p0 : (List Int)) (p1 : Int) : Option (Int) :=
  (cond (decide ((w64 (p1 - (p0.length : Int))) < 0)) (some (-1)) (some (w64 (p1 - (p0.length : Int)))))


noncomputable def F_laws_szDomino (p0 : GDomino) (p1 : Int) : Option (Int) :=
  bnd (F_laws_szInt64S p0.Top p1) fun r2 => (cond (decide (r2 < 0)) (some (-1)) (bnd (F_laws_szInt64S p0.Bottom r2) fun r5 => (cond (decide (r5 < 0)) (some (-1)) (some r5))))

noncomputable def F_laws_toInt64S_L1 (p0 : (List Int)) (s4 : (List Int) × Int) : Option (((List Int) × Int) ⊕ Out ((List Int) × Int) (List Int)) :=
  (cond (decide (s4.2 < (p0.length : Int))) (bnd (idx p0 s4.2) fun y7 => bnd (idx s4.1 s4.2) fun y11 => some (.inl ((s4.1.set s4.2.toNat y7), (w64 (s4.2 + 1))))) (some (.inr (.brk (s4.1, s4.2)))))

noncomputable def F_laws_toInt64S (p0 : (List Int)) : Option ((List Int)) :=
  bnd (mke (p0.length : Int) (0 : Int)) fun z1 => bnd (run (F_laws_toInt64S_L1 p0) (z1, 0)) (Out.elim (fun (s4 : (List Int) × Int) => some s4.1) (fun (r : (List Int)) => some r))


noncomputable def F_laws_toDomino (p0 : GDomino) : Option (GDomino) :=
  bnd (F_laws_toInt64S p0.Top) fun r4 => bnd (F_laws_toInt64S p0.Bottom) fun r7 => some (⟨r4, r7⟩ : GDomino)


noncomputable def F_spec_l00In (p0 : Int) (p1 : Int) (p2 : Int) : Option (Bool) :=
  (cond (decide (p1 ≤ p0)) (some (decide (p0 ≤ p2))) (some false))

noncomputable def F_spec_l03Is_L1 (p0 : (List Int)) (s1 : Int) : Option ((Int) ⊕ Out (Int) Bool) :=
  (cond (decide (s1 < (p0.length : Int))) (bnd (idx p0 s1) fun y4 => bnd (F_spec_l00In y4 0 9) fun r8 => (cond (!r8) (some (.inr (.ret false))) (some (.inl (w64 (s1 + 1)))))) (some (.inr (.brk s1))))

noncomputable def F_spec_l03Is (p0 : (List Int)) : Option (Bool) :=
  bnd (run (F_spec_l03Is_L1 p0) 0) (Out.elim (fun (s1 : Int) => some (decide ((p0.length : Int) ≤ 400))) (fun (r : Bool) => some r))

noncomputable def F_spec_l32Is_L1 (p0 : (List GDomino)) (s5 : Int) : Option ((Int) ⊕ Out (Int) Bool) :=
  (cond (decide (s5 < (p0.length : Int))) (bnd (idx p0 s5) fun y8 => bnd (F_spec_l03Is y8.Top) fun r16 => (cond (!r16) (some (.inr (.ret false))) (bnd (idx p0 s5) fun y19 => bnd (F_spec_l03Is y19.Bottom) fun r27 => (cond (!r27) (some (.inr (.ret false))) (bnd (idx p0 s5) fun y30 => bnd (idx p0 s5) fun y38 => (cond (decide ((w64 ((y30.Top.length : Int) + (y38.Bottom.length : Int))) = 0)) (some (.inr (.ret false))) (some (.inl (w64 (s5 + 1)))))))))) (some (.inr (.brk s5))))

noncomputable def F_spec_l32Is (p0 : (List GDomino)) : Option (Bool) :=
  bnd ((cond (decide ((p0.length : Int) < 1)) (some (.ret false)) (cond (decide (80 < (p0.length : Int))) (some (.ret false)) (some (.brk ())))) : Option (Out (Unit) Bool)) (Out.elim (fun (s1 : Unit) => bnd (run (F_spec_l32Is_L1 p0) 0) (Out.elim (fun (s5 : Int) => some true) (fun (r : Bool) => some r))) (fun (r : Bool) => some r))

noncomputable def F_spec_l02Of_L1 (s2 : Int × (List Int)) : Option ((Int × (List Int)) ⊕ Out (Int × (List Int)) (List Int)) :=
  (cond (decide (0 < s2.1)) (bnd (app s2.2 ([(Int.tmod s2.1 1000000)] : List Int)) fun z6 => some (.inl ((w64 (Int.tdiv s2.1 1000000)), z6))) (some (.inr (.brk (s2.1, s2.2)))))

noncomputable def F_spec_l02Of (p0 : Int) : Option ((List Int)) :=
  bnd (run (F_spec_l02Of_L1) (p0, ([] : List Int))) (Out.elim (fun (s2 : Int × (List Int)) => some s2.2) (fun (r : (List Int)) => some r))

noncomputable def F_spec_l02Trim_L1 (p0 : (List Int)) (s1 : Int) : Option ((Int) ⊕ Out (Int) (List Int)) :=
  (cond (decide (0 < s1)) (bnd (idx p0 (w64 (s1 - 1))) fun y4 => (cond (decide (y4 = 0)) (some (.inl (w64 (s1 - 1)))) (some (.inr (.brk s1))))) (some (.inr (.brk s1))))

noncomputable def F_spec_l02Trim (p0 : (List Int)) : Option ((List Int)) :=
  bnd (run (F_spec_l02Trim_L1 p0) (p0.length : Int)) (Out.elim (fun (s1 : Int) => bnd (slc p0 0 s1) fun z9 => some z9) (fun (r : (List Int)) => some r))

noncomputable def F_spec_l02Mul_L2 (p0 : (List Int)) (p1 : (List Int)) (s4 : (List Int) × Int) (s7 : (List Int) × Int × Int) : Option (((List Int) × Int × Int) ⊕ Out ((List Int) × Int × Int) (List Int)) :=
  bnd ((cond (decide (s7.2.2 < (p1.length : Int))) (some (.brk true)) (some (.brk (decide (0 < s7.2.1))))) : Option (Out (Bool) (List Int))) (Out.elim (fun (s9 : Bool) => (cond s9 (bnd (idx s7.1 (w64 (s4.2 + s7.2.2))) fun y13 => (cond (decide (s7.2.2 < (p1.length : Int))) (bnd (idx p0 s4.2) fun y17 => bnd (idx p1 s7.2.2) fun y21 => bnd (idx s7.1 (w64 (s4.2 + s7.2.2))) fun y25 => some (.inl ((s7.1.set (w64 (s4.2 + s7.2.2)).toNat (Int.tmod (w64 ((w64 (y13 + s7.2.1)) + (w64 (y17 * y21)))) 1000000)), (w64 (Int.tdiv (w64 ((w64 (y13 + s7.2.1)) + (w64 (y17 * y21)))) 1000000)), (w64 (s7.2.2 + 1))))) (bnd (idx s7.1 (w64 (s4.2 + s7.2.2))) fun y27 => some (.inl ((s7.1.set (w64 (s4.2 + s7.2.2)).toNat (Int.tmod (w64 (y13 + s7.2.1)) 1000000)), (w64 (Int.tdiv (w64 (y13 + s7.2.1)) 1000000)), (w64 (s7.2.2 + 1))))))) (some (.inr (.brk (s7.1, s7.2.1, s7.2.2)))))) (fun (r : (List Int)) => some (.inr (.ret r))))

noncomputable def F_spec_l02Mul_L1 (p0 : (List Int)) (p1 : (List Int)) (s4 : (List Int) × Int) : Option (((List Int) × Int) ⊕ Out ((List Int) × Int) (List Int)) :=
  (cond (decide (s4.2 < (p0.length : Int))) (bnd (run (F_spec_l02Mul_L2 p0 p1 s4) (s4.1, 0, 0)) (Out.elim (fun (s7 : (List Int) × Int × Int) => some (.inl (s7.1, (w64 (s4.2 + 1))))) (fun (r : (List Int)) => some (.inr (.ret r))))) (some (.inr (.brk (s4.1, s4.2)))))

noncomputable def F_spec_l02Mul (p0 : (List Int)) (p1 : (List Int)) : Option ((List Int)) :=
  bnd (mke (w64 ((w64 ((p0.length : Int) + (p1.length : Int))) + 1)) (0 : Int)) fun z1 => bnd (run (F_spec_l02Mul_L1 p0 p1) (z1, 0)) (Out.elim (fun (s4 : (List Int) × Int) => bnd (F_spec_l02Trim s4.1) fun r29 => some r29) (fun (r : (List Int)) => some r))

noncomputable def F_spec_l33Power_L1 (s4 : Int × (List Int)) : Option ((Int × (List Int)) ⊕ Out (Int × (List Int)) (List Int)) :=
  (cond (decide (0 < s4.1)) (bnd (F_spec_l02Of 11) fun r7 => bnd (F_spec_l02Mul s4.2 r7) fun r10 => bnd (F_spec_l02Trim r10) fun r13 => some (.inl ((w64 (s4.1 - 1)), r13))) (some (.inr (.brk (s4.1, s4.2)))))

noncomputable def F_spec_l33Power (p0 : Int) : Option ((List Int)) :=
  bnd (F_spec_l02Of 1) fun r1 => bnd (run (F_spec_l33Power_L1) (p0, r1)) (Out.elim (fun (s4 : Int × (List Int)) => some s4.2) (fun (r : (List Int)) => some r))


noncomputable def F_spec_l00Own (p0 : (List Int)) : Option ((List Int)) :=
  bnd (app ([] : List Int) p0) fun z2 => some z2

noncomputable def F_spec_l02Add_L1 (p0 : (List Int)) (p1 : (List Int)) (s2 : (List Int) × Int × Int) : Option (((List Int) × Int × Int) ⊕ Out ((List Int) × Int × Int) (List Int)) :=
  bnd ((cond (decide (s2.2.2 < (p0.length : Int))) (some (.brk true)) (cond (decide (s2.2.2 < (p1.length : Int))) (some (.brk true)) (some (.brk (decide (0 < s2.2.1)))))) : Option (Out (Bool) (List Int))) (Out.elim (fun (s4 : Bool) => (cond s4 (bnd ((cond (decide (s2.2.2 < (p0.length : Int))) (bnd (idx p0 s2.2.2) fun y12 => some (.brk (w64 (s2.2.1 + y12)))) (some (.brk s2.2.1))) : Option (Out (Int) (List Int))) (Out.elim (fun (s9 : Int) => (cond (decide (s2.2.2 < (p1.length : Int))) (bnd (idx p1 s2.2.2) fun y17 => bnd (app s2.1 ([(Int.tmod (w64 (s9 + y17)) 1000000)] : List Int)) fun z22 => some (.inl (z22, (w64 (Int.tdiv (w64 (s9 + y17)) 1000000)), (w64 (s2.2.2 + 1))))) (bnd (app s2.1 ([(Int.tmod s9 1000000)] : List Int)) fun z26 => some (.inl (z26, (w64 (Int.tdiv s9 1000000)), (w64 (s2.2.2 + 1))))))) (fun (r : (List Int)) => some (.inr (.ret r))))) (some (.inr (.brk (s2.1, s2.2.1, s2.2.2)))))) (fun (r : (List Int)) => some (.inr (.ret r))))

noncomputable def F_spec_l02Add (p0 : (List Int)) (p1 : (List Int)) : Option ((List Int)) :=
  bnd (run (F_spec_l02Add_L1 p0 p1) (([] : List Int), 0, 0)) (Out.elim (fun (s2 : (List Int) × Int × Int) => some s2.1) (fun (r : (List Int)) => some r))

noncomputable def F_spec_l33Value_L1 (p0 : (List Int)) (s2 : (List Int) × Int) : Option (((List Int) × Int) ⊕ Out ((List Int) × Int) (List Int)) :=
  (cond (decide (s2.2 < (p0.length : Int))) (bnd (idx p0 s2.2) fun y5 => bnd (F_spec_l02Of 11) fun r12 => bnd (F_spec_l02Mul s2.1 r12) fun r15 => bnd (F_spec_l02Of (w64 (y5 + 1))) fun r18 => bnd (F_spec_l02Add r15 r18) fun r21 => bnd (F_spec_l02Trim r21) fun r24 => some (.inl (r24, (w64 (s2.2 + 1))))) (some (.inr (.brk (s2.1, s2.2)))))

noncomputable def F_spec_l33Value (p0 : (List Int)) : Option ((List Int)) :=
  bnd (run (F_spec_l33Value_L1 p0) (([] : List Int), 0)) (Out.elim (fun (s2 : (List Int) × Int) => some s2.1) (fun (r : (List Int)) => some r))


noncomputable def F_spec_l33Square (p0 : GDomino) : Option ((List (List Int))) :=
  bnd (F_spec_l33Power (p0.Top.length : Int)) fun r13 => bnd (F_spec_l00Own ([] : List Int)) fun r16 => bnd (F_spec_l00Own ([] : List Int)) fun r19 => bnd (F_spec_l33Power (p0.Bottom.length : Int)) fun r22 => bnd (F_spec_l00Own ([] : List Int)) fun r25 => bnd (F_spec_l33Value p0.Top) fun r28 => bnd (F_spec_l33Value p0.Bottom) fun r31 => bnd (F_spec_l02Of 1) fun r34 => some ([r13, ([] : List Int), r16, r19, r22, r25, r28, r31, r34] : List (List Int))

noncomputable def F_spec_l33Fits_L1 (p0 : (List (List Int))) (s1 : Int) : Option ((Int) ⊕ Out (Int) Bool) :=
  (cond (decide (s1 < (p0.length : Int))) (bnd (idx p0 s1) fun y4 => (cond (decide (40 < (y4.length : Int))) (some (.inr (.ret false))) (some (.inl (w64 (s1 + 1)))))) (some (.inr (.brk s1))))

noncomputable def F_spec_l33Fits (p0 : (List (List Int))) : Option (Bool) :=
  bnd (run (F_spec_l33Fits_L1 p0) 0) (Out.elim (fun (s1 : Int) => some true) (fun (r : Bool) => some r))


noncomputable def F_spec_SquareOfDomino (p0 : GDomino) : Option ((List (List Int)) × Int) :=
  bnd (F_spec_l32Is ([p0] : List GDomino)) fun r3 => (cond (!r3) (some (([] : (List (List Int))), 1)) (bnd (F_spec_l33Square p0) fun r6 => bnd (F_spec_l33Fits r6) fun r9 => (cond (!r9) (some (([] : (List (List Int))), 5)) (some (r6, 0)))))

noncomputable def F_slices_IndexFunc_SSint64_Sint64_L1 (p0 : (List (List Int))) (p1 : ((List Int) → Option Bool)) (s1 : Int) : Option ((Int) ⊕ Out (Int) Int) :=
  (cond (decide (s1 < (p0.length : Int))) (bnd (idx p0 s1) fun y4 => bnd (p1 y4) fun r8 => (cond r8 (some (.inr (.ret s1))) (some (.inl (w64 (s1 + 1)))))) (some (.inr (.brk s1))))

noncomputable def F_slices_IndexFunc_SSint64_Sint64 (p0 : (List (List Int))) (p1 : ((List Int) → Option Bool)) : Option (Int) :=
  bnd (run (F_slices_IndexFunc_SSint64_Sint64_L1 p0 p1) 0) (Out.elim (fun (s1 : Int) => some (-1)) (fun (r : Int) => some r))


noncomputable def F_slices_ContainsFunc_SSint64_Sint64 (p0 : (List (List Int))) (p1 : ((List Int) → Option Bool)) : Option (Bool) :=
  bnd (F_slices_IndexFunc_SSint64_Sint64 p0 p1) fun r1 => some (decide (0 ≤ r1))


noncomputable def F_impl_within (p0 : Int) (p1 : Int) (p2 : Int) : Option (Bool) :=
  (cond (decide (p1 ≤ p0)) (some (decide (p0 ≤ p2))) (some false))

noncomputable def F_impl_allWithin_L1 (p0 : (List Int)) (p1 : Int) (p2 : Int) (s1 : Int) : Option ((Int) ⊕ Out (Int) Bool) :=
  (cond (decide (s1 < (p0.length : Int))) (bnd (idx p0 s1) fun y4 => bnd (F_impl_within y4 p1 p2) fun r8 => (cond (!r8) (some (.inr (.ret false))) (some (.inl (w64 (s1 + 1)))))) (some (.inr (.brk s1))))

noncomputable def F_impl_allWithin (p0 : (List Int)) (p1 : Int) (p2 : Int) : Option (Bool) :=
  bnd (run (F_impl_allWithin_L1 p0 p1 p2) 0) (Out.elim (fun (s1 : Int) => some true) (fun (r : Bool) => some r))


noncomputable def F_impl_isLetters (p0 : (List Int)) : Option (Bool) :=
  bnd (F_impl_allWithin p0 0 9) fun r1 => some r1


noncomputable def F_impl_IsWord (p0 : (List Int)) : Option (Bool) :=
  (cond (decide ((p0.length : Int) ≤ 400)) (bnd (F_impl_isLetters p0) fun r2 => some r2) (some false))


noncomputable def F_impl_areWords_1 (p0 : (List Int)) : Option (Bool) :=
  bnd (F_impl_IsWord p0) fun r1 => some (!r1)


noncomputable def F_impl_areWords (p0 : (List (List Int))) : Option (Bool) :=
  bnd (F_slices_ContainsFunc_SSint64_Sint64 p0 (fun x_ => F_impl_areWords_1 x_)) fun r1 => some (!r1)


noncomputable def F_impl_validDomino (p0 : GDomino) : Option (Bool) :=
  bnd (F_impl_areWords ([p0.Top, p0.Bottom] : List (List Int))) fun r3 => (cond r3 (some (decide (0 < (w64 ((p0.Top.length : Int) + (p0.Bottom.length : Int)))))) (some false))


noncomputable def F_impl_one : Option ((List Int)) :=
  some ([1] : List Int)

noncomputable def F_impl_trimmed_L1 (s1 : (List Int)) : Option (((List Int)) ⊕ Out ((List Int)) (List Int)) :=
  (cond (decide (0 < (s1.length : Int))) (bnd (idx s1 (w64 ((s1.length : Int) - 1))) fun y4 => (cond (decide (y4 = 0)) (bnd (slc s1 0 (w64 ((s1.length : Int) - 1))) fun z9 => some (.inl z9)) (some (.inr (.brk s1))))) (some (.inr (.brk s1))))

noncomputable def F_impl_trimmed (p0 : (List Int)) : Option ((List Int)) :=
  bnd (run (F_impl_trimmed_L1) p0) (Out.elim (fun (s1 : (List Int)) => some s1) (fun (r : (List Int)) => some r))

noncomputable def F_impl_multiply_L2 (p1 : (List Int)) (s4 : (List Int) × Int) (y7 : Int) (s11 : (List Int) × Int × Int) : Option (((List Int) × Int × Int) ⊕ Out ((List Int) × Int × Int) (List Int)) :=
  bnd ((cond (decide (s11.2.2 < (p1.length : Int))) (some (.brk true)) (some (.brk (decide (0 < s11.2.1))))) : Option (Out (Bool) (List Int))) (Out.elim (fun (s13 : Bool) => (cond s13 (bnd (idx s11.1 (w64 (s4.2 + s11.2.2))) fun y17 => (cond (decide (s11.2.2 < (p1.length : Int))) (bnd (idx p1 s11.2.2) fun y21 => bnd (idx s11.1 (w64 (s4.2 + s11.2.2))) fun y25 => some (.inl ((s11.1.set (w64 (s4.2 + s11.2.2)).toNat (Int.tmod (w64 ((w64 (s11.2.1 + y17)) + (w64 (y7 * y21)))) 1000000)), (w64 (Int.tdiv (w64 ((w64 (s11.2.1 + y17)) + (w64 (y7 * y21)))) 1000000)), (w64 (s11.2.2 + 1))))) (bnd (idx s11.1 (w64 (s4.2 + s11.2.2))) fun y27 => some (.inl ((s11.1.set (w64 (s4.2 + s11.2.2)).toNat (Int.tmod (w64 (s11.2.1 + y17)) 1000000)), (w64 (Int.tdiv (w64 (s11.2.1 + y17)) 1000000)), (w64 (s11.2.2 + 1))))))) (some (.inr (.brk (s11.1, s11.2.1, s11.2.2)))))) (fun (r : (List Int)) => some (.inr (.ret r))))

noncomputable def F_impl_multiply_L1 (p0 : (List Int)) (p1 : (List Int)) (s4 : (List Int) × Int) : Option (((List Int) × Int) ⊕ Out ((List Int) × Int) (List Int)) :=
  (cond (decide (s4.2 < (p0.length : Int))) (bnd (idx p0 s4.2) fun y7 => bnd (run (F_impl_multiply_L2 p1 s4 y7) (s4.1, 0, 0)) (Out.elim (fun (s11 : (List Int) × Int × Int) => some (.inl (s11.1, (w64 (s4.2 + 1))))) (fun (r : (List Int)) => some (.inr (.ret r))))) (some (.inr (.brk (s4.1, s4.2)))))

noncomputable def F_impl_multiply (p0 : (List Int)) (p1 : (List Int)) : Option ((List Int)) :=
  bnd (mke (w64 ((p0.length : Int) + (p1.length : Int))) (0 : Int)) fun z1 => bnd (run (F_impl_multiply_L1 p0 p1) (z1, 0)) (Out.elim (fun (s4 : (List Int) × Int) => bnd (F_impl_trimmed s4.1) fun r29 => some r29) (fun (r : (List Int)) => some r))

noncomputable def F_impl_basePower_L1 (s4 : Int × (List Int)) : Option ((Int × (List Int)) ⊕ Out (Int × (List Int)) (List Int)) :=
  (cond (decide (0 < s4.1)) (cond (decide ((s4.2.length : Int) ≤ 40)) (bnd (F_impl_multiply s4.2 ([11] : List Int)) fun r9 => some (.inl ((w64 (s4.1 - 1)), r9))) (some (.inr (.brk (s4.1, s4.2))))) (some (.inr (.brk (s4.1, s4.2)))))

noncomputable def F_impl_basePower (p0 : Int) : Option ((List Int)) :=
  bnd F_impl_one fun r1 => bnd (run (F_impl_basePower_L1) (p0, r1)) (Out.elim (fun (s4 : Int × (List Int)) => some s4.2) (fun (r : (List Int)) => some r))

noncomputable def F_impl_moved_L1 (p0 : (List Int)) (p1 : Int) (s2 : (List Int) × Int) : Option (((List Int) × Int) ⊕ Out ((List Int) × Int) (List Int)) :=
  (cond (decide (s2.2 < (p0.length : Int))) (bnd (idx p0 s2.2) fun y5 => bnd (app s2.1 ([(w64 (y5 + p1))] : List Int)) fun z10 => some (.inl (z10, (w64 (s2.2 + 1))))) (some (.inr (.brk (s2.1, s2.2)))))

noncomputable def F_impl_moved (p0 : (List Int)) (p1 : Int) : Option ((List Int)) :=
  bnd (run (F_impl_moved_L1 p0 p1) (([] : List Int), 0)) (Out.elim (fun (s2 : (List Int) × Int) => some s2.1) (fun (r : (List Int)) => some r))


noncomputable def F_slices_Clone_Sint64_int64 (p0 : (List Int)) : Option ((List Int)) :=
  bnd (app ([] : List Int) p0) fun z3 => some z3

noncomputable def F_impl_reversed_L1 (s5 : (List Int) × Int × Int) : Option (((List Int) × Int × Int) ⊕ Out ((List Int) × Int × Int) (Option ((List Int)))) :=
  (cond (decide (s5.2.1 < s5.2.2)) (bnd (idx s5.1 s5.2.2) fun y8 => bnd (idx s5.1 s5.2.1) fun y12 => bnd (idx s5.1 s5.2.1) fun y19 => bnd (idx (s5.1.set s5.2.1.toNat y8) s5.2.2) fun y21 => some (.inl (((s5.1.set s5.2.1.toNat y8).set s5.2.2.toNat y12), (w64 (s5.2.1 + 1)), (w64 (s5.2.2 - 1))))) (some (.inr (.brk (s5.1, s5.2.1, s5.2.2)))))

noncomputable def F_impl_reversed (p0 : (List Int)) : Option ((List Int)) :=
  bnd (F_slices_Clone_Sint64_int64 p0) fun r1 => bnd (run (F_impl_reversed_L1) (r1, 0, (w64 ((r1.length : Int) - 1)))) (Out.elim (fun (s5 : (List Int) × Int × Int) => some s5.1) (fun (r : Option ((List Int))) => r))

noncomputable def F_impl_carried_L1 (p0 : (List Int)) (s2 : (List Int) × Int × Int) : Option (((List Int) × Int × Int) ⊕ Out ((List Int) × Int × Int) (List Int)) :=
  bnd ((cond (decide (s2.2.2 < (p0.length : Int))) (some (.brk true)) (some (.brk (decide (0 < s2.2.1))))) : Option (Out (Bool) (List Int))) (Out.elim (fun (s4 : Bool) => (cond s4 (cond (decide (s2.2.2 < (p0.length : Int))) (bnd (idx p0 s2.2.2) fun y9 => bnd (app s2.1 ([(Int.tmod (w64 (s2.2.1 + y9)) 1000000)] : List Int)) fun z14 => some (.inl (z14, (w64 (Int.tdiv (w64 (s2.2.1 + y9)) 1000000)), (w64 (s2.2.2 + 1))))) (bnd (app s2.1 ([(Int.tmod s2.2.1 1000000)] : List Int)) fun z18 => some (.inl (z18, (w64 (Int.tdiv s2.2.1 1000000)), (w64 (s2.2.2 + 1)))))) (some (.inr (.brk (s2.1, s2.2.1, s2.2.2)))))) (fun (r : (List Int)) => some (.inr (.ret r))))

noncomputable def F_impl_carried (p0 : (List Int)) : Option ((List Int)) :=
  bnd (run (F_impl_carried_L1 p0) (([] : List Int), 0, 0)) (Out.elim (fun (s2 : (List Int) × Int × Int) => bnd (F_impl_trimmed s2.1) fun r21 => some r21) (fun (r : (List Int)) => some r))


noncomputable def F_impl_naturalOf (p0 : Int) : Option ((List Int)) :=
  bnd (F_impl_carried ([p0] : List Int)) fun r2 => some r2

noncomputable def F_impl_add_L1 (p1 : (List Int)) (s4 : (List Int) × Int) : Option (((List Int) × Int) ⊕ Out ((List Int) × Int) (List Int)) :=
  (cond (decide (s4.2 < (p1.length : Int))) (bnd (idx p1 s4.2) fun y7 => bnd (idx s4.1 s4.2) fun y11 => bnd (idx s4.1 s4.2) fun y14 => some (.inl ((s4.1.set s4.2.toNat (w64 (y11 + y7))), (w64 (s4.2 + 1))))) (some (.inr (.brk (s4.1, s4.2)))))

noncomputable def F_impl_add (p0 : (List Int)) (p1 : (List Int)) : Option ((List Int)) :=
  bnd (mke (if (p1.length : Int) > (p0.length : Int) then (p1.length : Int) else (p0.length : Int)) (0 : Int)) fun z1 => bnd (run (F_impl_add_L1 p1) ((cpy z1 p0), 0)) (Out.elim (fun (s4 : (List Int) × Int) => bnd (F_impl_carried s4.1) fun r16 => some r16) (fun (r : (List Int)) => some r))

noncomputable def F_impl_fromDigits_L1 (p0 : (List Int)) (p1 : Int) (s2 : (List Int) × Int) : Option (((List Int) × Int) ⊕ Out ((List Int) × Int) (List Int)) :=
  (cond (decide (0 ≤ s2.2)) (bnd (idx p0 s2.2) fun y5 => bnd (F_impl_naturalOf p1) fun r12 => bnd (F_impl_multiply s2.1 r12) fun r15 => bnd (F_impl_naturalOf y5) fun r18 => bnd (F_impl_add r15 r18) fun r21 => some (.inl (r21, (w64 (s2.2 - 1))))) (some (.inr (.brk (s2.1, s2.2)))))

noncomputable def F_impl_fromDigits (p0 : (List Int)) (p1 : Int) : Option ((List Int)) :=
  bnd (run (F_impl_fromDigits_L1 p0 p1) (([] : List Int), (w64 ((p0.length : Int) - 1)))) (Out.elim (fun (s2 : (List Int) × Int) => some s2.1) (fun (r : (List Int)) => some r))


noncomputable def F_impl_valueOf (p0 : (List Int)) : Option ((List Int)) :=
  bnd (F_impl_moved p0 1) fun r1 => bnd (F_impl_reversed r1) fun r4 => bnd (F_impl_fromDigits r4 11) fun r7 => some r7


noncomputable def F_impl_IsNatural (p0 : (List Int)) : Option (Bool) :=
  (cond (decide ((p0.length : Int) ≤ 40)) (bnd (F_impl_allWithin p0 0 999999) fun r2 => (cond r2 (cond (decide ((p0.length : Int) = 0)) (some true) (bnd (idx p0 (w64 ((p0.length : Int) - 1))) fun y6 => some (decide (y6 ≠ 0)))) (some false))) (some false))


noncomputable def F_impl_naturals_1 (p0 : (List Int)) : Option (Bool) :=
  bnd (F_impl_IsNatural p0) fun r1 => some (!r1)


noncomputable def F_impl_naturals (p0 : (List (List Int))) : Option (Bool) :=
  bnd (F_slices_ContainsFunc_SSint64_Sint64 p0 (fun x_ => F_impl_naturals_1 x_)) fun r1 => some (!r1)


noncomputable def F_impl_isSquare (p0 : (List (List Int))) : Option (Bool) :=
  (cond (decide ((p0.length : Int) = 9)) (bnd (F_impl_naturals p0) fun r2 => some r2) (some false))


noncomputable def F_impl_checkedSquare (p0 : (List (List Int))) : Option ((List (List Int)) × Int) :=
  bnd (F_impl_isSquare p0) fun r1 => (cond (!r1) (some (([] : (List (List Int))), 5)) (some (p0, 0)))


noncomputable def F_impl_squareOf (p0 : GDomino) : Option ((List (List Int)) × Int) :=
  bnd (F_impl_basePower (p0.Top.length : Int)) fun r5 => bnd (F_impl_basePower (p0.Bottom.length : Int)) fun r7 => bnd (F_impl_valueOf p0.Top) fun r9 => bnd (F_impl_valueOf p0.Bottom) fun r11 => bnd F_impl_one fun r13 => bnd (F_impl_checkedSquare ([r5, ([] : List Int), ([] : List Int), ([] : List Int), r7, ([] : List Int), r9, r11, r13] : List (List Int))) fun r25 => some (r25.1, r25.2)


noncomputable def F_impl_SquareOfDomino (p0 : GDomino) : Option ((List (List Int)) × Int) :=
  bnd (F_impl_validDomino p0) fun r2 => (cond (!r2) (some (([] : (List (List Int))), 1)) (bnd (F_impl_squareOf p0) fun r5 => some (r5.1, r5.2)))

noncomputable def F_laws_eqInt64S_L1 (p0 : (List Int)) (p1 : (List Int)) (s2 : Int) : Option ((Int) ⊕ Out (Int) Bool) :=
  (cond (decide (s2 < (p0.length : Int))) (bnd (idx p0 s2) fun y5 => bnd (idx p1 s2) fun y9 => (cond (decide (y5 ≠ y9)) (some (.inr (.ret false))) (some (.inl (w64 (s2 + 1)))))) (some (.inr (.brk s2))))

noncomputable def F_laws_eqInt64S (p0 : (List Int)) (p1 : (List Int)) : Option (Bool) :=
  (cond (decide ((p0.length : Int) ≠ (p1.length : Int))) (some false) (bnd (run (F_laws_eqInt64S_L1 p0 p1) 0) (Out.elim (fun (s2 : Int) => some true) (fun (r : Bool) => some r))))

noncomputable def F_laws_eqInt64SS_L1 (p0 : (List (List Int))) (p1 : (List (List Int))) (s2 : Int) : Option ((Int) ⊕ Out (Int) Bool) :=
  (cond (decide (s2 < (p0.length : Int))) (bnd (idx p0 s2) fun y5 => bnd (idx p1 s2) fun y9 => bnd (F_laws_eqInt64S y5 y9) fun r16 => (cond (!r16) (some (.inr (.ret false))) (some (.inl (w64 (s2 + 1)))))) (some (.inr (.brk s2))))

noncomputable def F_laws_eqInt64SS (p0 : (List (List Int))) (p1 : (List (List Int))) : Option (Bool) :=
  (cond (decide ((p0.length : Int) ≠ (p1.length : Int))) (some false) (bnd (run (F_laws_eqInt64SS_L1 p0 p1) 0) (Out.elim (fun (s2 : Int) => some true) (fun (r : Bool) => some r))))


noncomputable def F_laws_eqDomino (p0 : GDomino) (p1 : GDomino) : Option (Bool) :=
  bnd (F_laws_eqInt64S p0.Top p1.Top) fun r3 => (cond (!r3) (some false) (bnd (F_laws_eqInt64S p0.Bottom p1.Bottom) fun r6 => (cond (!r6) (some false) (some true))))

noncomputable def F_laws_markInt64S_L1 (s1 : (List Int) × Int × Int) : Option (((List Int) × Int × Int) ⊕ Out ((List Int) × Int × Int) (Int × (List Int))) :=
  (cond (decide (s1.2.2 < (s1.1.length : Int))) (bnd (idx s1.1 s1.2.2) fun y4 => some (.inl ((s1.1.set s1.2.2.toNat s1.2.1), (w64 (s1.2.1 + 1)), (w64 (s1.2.2 + 1))))) (some (.inr (.brk (s1.1, s1.2.1, s1.2.2)))))

noncomputable def F_laws_markInt64S (p0 : (List Int)) (p1 : Int) : Option (Int × (List Int)) :=
  bnd (run (F_laws_markInt64S_L1) (p0, p1, 0)) (Out.elim (fun (s1 : (List Int) × Int × Int) => some (s1.2.1, s1.1)) (fun (r : Int × (List Int)) => some r))

noncomputable def F_laws_markInt64SS_L1 (s1 : (List (List Int)) × Int × Int) : Option (((List (List Int)) × Int × Int) ⊕ Out ((List (List Int)) × Int × Int) (Int × (List (List Int)))) :=
  (cond (decide (s1.2.2 < (s1.1.length : Int))) (bnd (idx s1.1 s1.2.2) fun y4 => bnd (F_laws_markInt64S y4 s1.2.1) fun r10 => some (.inl ((s1.1.set s1.2.2.toNat r10.2), r10.1, (w64 (s1.2.2 + 1))))) (some (.inr (.brk (s1.1, s1.2.1, s1.2.2)))))

noncomputable def F_laws_markInt64SS (p0 : (List (List Int))) (p1 : Int) : Option (Int × (List (List Int))) :=
  bnd (run (F_laws_markInt64SS_L1) (p0, p1, 0)) (Out.elim (fun (s1 : (List (List Int)) × Int × Int) => some (s1.2.1, s1.1)) (fun (r : Int × (List (List Int))) => some r))

noncomputable def F_laws_heldInt64S_L1 (p0 : (List Int)) (s1 : Int × Int) : Option ((Int × Int) ⊕ Out (Int × Int) Int) :=
  (cond (decide (s1.2 < (p0.length : Int))) (bnd (idx p0 s1.2) fun y4 => (cond (decide (y4 ≠ s1.1)) (some (.inr (.ret (-1)))) (some (.inl ((w64 (s1.1 + 1)), (w64 (s1.2 + 1))))))) (some (.inr (.brk (s1.1, s1.2)))))

noncomputable def F_laws_heldInt64S (p0 : (List Int)) (p1 : Int) : Option (Int) :=
  bnd (run (F_laws_heldInt64S_L1 p0) (p1, 0)) (Out.elim (fun (s1 : Int × Int) => some s1.1) (fun (r : Int) => some r))

noncomputable def F_laws_heldInt64SS_L1 (p0 : (List (List Int))) (s1 : Int × Int) : Option ((Int × Int) ⊕ Out (Int × Int) Int) :=
  (cond (decide (s1.2 < (p0.length : Int))) (bnd (idx p0 s1.2) fun y4 => bnd (F_laws_heldInt64S y4 s1.1) fun r8 => (cond (decide (r8 < 0)) (some (.inr (.ret (-1)))) (some (.inl (r8, (w64 (s1.2 + 1))))))) (some (.inr (.brk (s1.1, s1.2)))))

noncomputable def F_laws_heldInt64SS (p0 : (List (List Int))) (p1 : Int) : Option (Int) :=
  bnd (run (F_laws_heldInt64SS_L1 p0) (p1, 0)) (Out.elim (fun (s1 : Int × Int) => some s1.1) (fun (r : Int) => some r))


noncomputable def F_laws_FnExactSquareOfDomino (p0 : GDomino) : Option (Bool) :=
  bnd (F_laws_szDomino p0 1048576) fun r2 => (cond (decide (r2 < 0)) (some true) (bnd (F_laws_toDomino p0) fun r5 => bnd (F_spec_SquareOfDomino r5) fun r8 => bnd (F_laws_toDomino p0) fun r11 => bnd (F_impl_SquareOfDomino r11) fun r15 => bnd (bnd (F_laws_eqInt64SS r15.1 r8.1) fun r20 => (cond (!r20) (some (.ret false)) (cond (decide (r15.2 ≠ r8.2)) (some (.ret false)) (some (.brk ())))) : Option (Out (Unit) Bool)) (Out.elim (fun (s18 : Unit) => bnd (F_laws_toDomino p0) fun r27 => bnd (F_laws_eqDomino r11 r27) fun r30 => (cond (!r30) (some false) (bnd (F_laws_markInt64S r11.Top 1) fun r35 => bnd (F_laws_markInt64S r11.Bottom r35.1) fun r37 => bnd ((cond (decide (r37.1 < 0)) (some (.ret false)) (bnd (F_laws_eqInt64SS r15.1 r8.1) fun r42 => (cond (!r42) (some (.ret false)) (cond (decide (r15.2 ≠ r8.2)) (some (.ret false)) (some (.brk ())))))) : Option (Out (Unit) Bool)) (Out.elim (fun (s39 : Unit) => bnd (F_laws_markInt64SS r15.1 1) fun r46 => bnd (F_laws_heldInt64SS r46.2 1) fun r48 => (cond (decide (r48 < 0)) (some false) (cond (decide (r48 ≠ r46.1)) (some false) (bnd (F_laws_toDomino p0) fun r52 => bnd (F_impl_SquareOfDomino r52) fun r55 => bnd (F_laws_eqInt64SS r55.1 r8.1) fun r58 => (cond (!r58) (some false) (cond (decide (r55.2 ≠ r8.2)) (some false) (bnd (F_laws_heldInt64SS r46.2 1) fun r62 => (cond (decide (r62 < 0)) (some false) (cond (decide (r62 ≠ r46.1)) (some false) (some true)))))))))) (fun (r : Bool) => some r))))) (fun (r : Bool) => some r))))

noncomputable def F_laws_szInt64SS_L1 (p0 : (List (List Int))) (s2 : Int × Int) : Option ((Int × Int) ⊕ Out (Int × Int) Int) :=
  (cond (decide (s2.2 < (p0.length : Int))) (bnd (idx p0 s2.2) fun y5 => bnd (F_laws_szInt64S y5 s2.1) fun r9 => (cond (decide (r9 < 0)) (some (.inr (.ret (-1)))) (some (.inl (r9, (w64 (s2.2 + 1))))))) (some (.inr (.brk (s2.1, s2.2)))))

noncomputable def F_laws_szInt64SS (p0 : (List (List Int))) (p1 : Int) : Option (Int) :=
  (cond (decide ((w64 (p1 - (p0.length : Int))) < 0)) (some (-1)) (bnd (run (F_laws_szInt64SS_L1 p0) ((w64 (p1 - (p0.length : Int))), 0)) (Out.elim (fun (s2 : Int × Int) => some s2.1) (fun (r : Int) => some r))))

noncomputable def F_laws_toInt64SS_L1 (p0 : (List (List Int))) (s4 : (List (List Int)) × Int) : Option (((List (List Int)) × Int) ⊕ Out ((List (List Int)) × Int) (List (List Int))) :=
  (cond (decide (s4.2 < (p0.length : Int))) (bnd (idx p0 s4.2) fun y7 => bnd (F_laws_toInt64S y7) fun r11 => bnd (idx s4.1 s4.2) fun y14 => some (.inl ((s4.1.set s4.2.toNat r11), (w64 (s4.2 + 1))))) (some (.inr (.brk (s4.1, s4.2)))))

noncomputable def F_laws_toInt64SS (p0 : (List (List Int))) : Option ((List (List Int))) :=
  bnd (mke (p0.length : Int) ([] : (List Int))) fun z1 => bnd (run (F_laws_toInt64SS_L1 p0) (z1, 0)) (Out.elim (fun (s4 : (List (List Int)) × Int) => some s4.1) (fun (r : (List (List Int))) => some r))

noncomputable def F_spec_l02Is_L1 (p0 : (List Int)) (s2 : Int) : Option ((Int) ⊕ Out (Int) Bool) :=
  (cond (decide (s2 < (p0.length : Int))) (bnd (idx p0 s2) fun y5 => bnd (F_spec_l00In y5 0 999999) fun r9 => (cond (!r9) (some (.inr (.ret false))) (some (.inl (w64 (s2 + 1)))))) (some (.inr (.brk s2))))

noncomputable def F_spec_l02Is (p0 : (List Int)) : Option (Bool) :=
  (cond (decide (40 < (p0.length : Int))) (some false) (bnd (run (F_spec_l02Is_L1 p0) 0) (Out.elim (fun (s2 : Int) => (cond (decide ((p0.length : Int) = 0)) (some true) (bnd (idx p0 (w64 ((p0.length : Int) - 1))) fun y13 => some (decide (y13 ≠ 0))))) (fun (r : Bool) => some r))))

noncomputable def F_spec_l33Matrix_L1 (p0 : (List (List Int))) (s1 : Int) : Option ((Int) ⊕ Out (Int) Bool) :=
  (cond (decide (s1 < (p0.length : Int))) (bnd (idx p0 s1) fun y4 => bnd (F_spec_l02Is y4) fun r8 => (cond (!r8) (some (.inr (.ret false))) (some (.inl (w64 (s1 + 1)))))) (some (.inr (.brk s1))))

noncomputable def F_spec_l33Matrix (p0 : (List (List Int))) : Option (Bool) :=
  bnd (run (F_spec_l33Matrix_L1 p0) 0) (Out.elim (fun (s1 : Int) => some (decide ((p0.length : Int) = 9))) (fun (r : Bool) => some r))

noncomputable def F_spec_l02By_L1 (p0 : (List Int)) (p1 : Int) (s4 : (List Int) × Int × Int) : Option (((List Int) × Int × Int) ⊕ Out ((List Int) × Int × Int) ((List Int) × Int)) :=
  (cond (decide (0 ≤ s4.2.2)) (bnd (idx p0 s4.2.2) fun y7 => bnd (nz p1) fun u11 => bnd (idx s4.1 s4.2.2) fun y13 => bnd (nz p1) fun u15 => some (.inl ((s4.1.set s4.2.2.toNat (w64 (Int.tdiv (w64 ((w64 (s4.2.1 * 1000000)) + y7)) p1))), (Int.tmod (w64 ((w64 (s4.2.1 * 1000000)) + y7)) p1), (w64 (s4.2.2 - 1))))) (some (.inr (.brk (s4.1, s4.2.1, s4.2.2)))))

noncomputable def F_spec_l02By (p0 : (List Int)) (p1 : Int) : Option ((List Int) × Int) :=
  bnd (mke (p0.length : Int) (0 : Int)) fun z1 => bnd (run (F_spec_l02By_L1 p0 p1) (z1, 0, (w64 ((p0.length : Int) - 1)))) (Out.elim (fun (s4 : (List Int) × Int × Int) => bnd (F_spec_l02Trim s4.1) fun r17 => some (r17, s4.2.1)) (fun (r : (List Int) × Int) => some r))

noncomputable def F_spec_l03Reverse_L1 (p0 : (List Int)) (s2 : (List Int) × Int) : Option (((List Int) × Int) ⊕ Out ((List Int) × Int) (List Int)) :=
  (cond (decide (0 ≤ s2.2)) (bnd (idx p0 s2.2) fun y5 => bnd (app s2.1 ([y5] : List Int)) fun z10 => some (.inl (z10, (w64 (s2.2 - 1))))) (some (.inr (.brk (s2.1, s2.2)))))

noncomputable def F_spec_l03Reverse (p0 : (List Int)) : Option ((List Int)) :=
  bnd (run (F_spec_l03Reverse_L1 p0) (([] : List Int), (w64 ((p0.length : Int) - 1)))) (Out.elim (fun (s2 : (List Int) × Int) => some s2.1) (fun (r : (List Int)) => some r))

noncomputable def F_spec_l33Letters_L1 (s2 : (List Int) × (List Int)) : Option (((List Int) × (List Int)) ⊕ Out ((List Int) × (List Int)) ((List Int) × Bool)) :=
  (cond (decide (0 < (s2.1.length : Int))) (bnd (F_spec_l02By s2.1 11) fun r5 => (cond (decide (r5.2 = 0)) (some (.inr (.ret (([] : (List Int)), false)))) (bnd (app s2.2 ([(w64 (r5.2 - 1))] : List Int)) fun z10 => bnd (F_spec_l02Trim r5.1) fun r13 => some (.inl (r13, z10))))) (some (.inr (.brk (s2.1, s2.2)))))

noncomputable def F_spec_l33Letters (p0 : (List Int)) : Option ((List Int) × Bool) :=
  bnd (run (F_spec_l33Letters_L1) (p0, ([] : List Int))) (Out.elim (fun (s2 : (List Int) × (List Int)) => bnd (F_spec_l03Reverse s2.2) fun r16 => some (r16, true)) (fun (r : (List Int) × Bool) => some r))

noncomputable def F_spec_l00Same_L1 (p0 : (List Int)) (p1 : (List Int)) (s2 : Int) : Option ((Int) ⊕ Out (Int) Bool) :=
  (cond (decide (s2 < (p0.length : Int))) (bnd (idx p0 s2) fun y5 => bnd (idx p1 s2) fun y9 => (cond (decide (y5 ≠ y9)) (some (.inr (.ret false))) (some (.inl (w64 (s2 + 1)))))) (some (.inr (.brk s2))))

noncomputable def F_spec_l00Same (p0 : (List Int)) (p1 : (List Int)) : Option (Bool) :=
  (cond (decide ((p0.length : Int) ≠ (p1.length : Int))) (some false) (bnd (run (F_spec_l00Same_L1 p0 p1) 0) (Out.elim (fun (s2 : Int) => some true) (fun (r : Bool) => some r))))

noncomputable def F_spec_l27Lists_L1 (p0 : (List (List Int))) (p1 : (List (List Int))) (s2 : Int) : Option ((Int) ⊕ Out (Int) Bool) :=
  (cond (decide (s2 < (p0.length : Int))) (bnd (idx p0 s2) fun y5 => bnd (idx p1 s2) fun y9 => bnd (F_spec_l00Same y5 y9) fun r16 => (cond (!r16) (some (.inr (.ret false))) (some (.inl (w64 (s2 + 1)))))) (some (.inr (.brk s2))))

noncomputable def F_spec_l27Lists (p0 : (List (List Int))) (p1 : (List (List Int))) : Option (Bool) :=
  (cond (decide ((p0.length : Int) ≠ (p1.length : Int))) (some false) (bnd (run (F_spec_l27Lists_L1 p0 p1) 0) (Out.elim (fun (s2 : Int) => some true) (fun (r : Bool) => some r))))


noncomputable def F_spec_WordsOfSquare (p0 : (List (List Int))) : Option ((List Int) × (List Int) × Int) :=
  bnd (F_spec_l33Matrix p0) fun r1 => (cond (!r1) (some (([] : (List Int)), ([] : (List Int)), 1)) (bnd (idx p0 6) fun y4 => bnd (F_spec_l33Letters y4) fun r8 => bnd (idx p0 7) fun y11 => bnd (F_spec_l33Letters y11) fun r15 => bnd ((cond (!r8.2) (some (.ret (([] : (List Int)), ([] : (List Int)), 9))) (cond (!r15.2) (some (.ret (([] : (List Int)), ([] : (List Int)), 9))) (cond (decide ((w64 ((r8.1.length : Int) + (r15.1.length : Int))) = 0)) (some (.ret (([] : (List Int)), ([] : (List Int)), 9))) (some (.brk ()))))) : Option (Out (Unit) ((List Int) × (List Int) × Int))) (Out.elim (fun (s18 : Unit) => bnd (F_spec_l33Square (⟨r8.1, r15.1⟩ : GDomino)) fun r24 => bnd (F_spec_l27Lists r24 p0) fun r27 => (cond (!r27) (some (([] : (List Int)), ([] : (List Int)), 9)) (some (r8.1, r15.1, 0)))) (fun (r : (List Int) × (List Int) × Int) => some r))))

noncomputable def F_impl_divideSmall_L1 (p0 : (List Int)) (p1 : Int) (s4 : (List Int) × Int × Int) : Option (((List Int) × Int × Int) ⊕ Out ((List Int) × Int × Int) ((List Int) × Int)) :=
  (cond (decide (0 ≤ s4.2.2)) (bnd (idx p0 s4.2.2) fun y7 => bnd (nz p1) fun u11 => bnd (nz p1) fun u13 => bnd (idx s4.1 s4.2.2) fun y15 => some (.inl ((s4.1.set s4.2.2.toNat (w64 (Int.tdiv (w64 ((w64 (s4.2.1 * 1000000)) + y7)) p1))), (Int.tmod (w64 ((w64 (s4.2.1 * 1000000)) + y7)) p1), (w64 (s4.2.2 - 1))))) (some (.inr (.brk (s4.1, s4.2.1, s4.2.2)))))

noncomputable def F_impl_divideSmall (p0 : (List Int)) (p1 : Int) : Option ((List Int) × Int) :=
  bnd (mke (p0.length : Int) (0 : Int)) fun z1 => bnd (run (F_impl_divideSmall_L1 p0 p1) (z1, 0, (w64 ((p0.length : Int) - 1)))) (Out.elim (fun (s4 : (List Int) × Int × Int) => bnd (F_impl_trimmed s4.1) fun r20 => some (r20, s4.2.1)) (fun (r : (List Int) × Int) => some r))

noncomputable def F_impl_DigitsOf_L1 (p1 : Int) (s8 : (List Int) × (List Int)) : Option (((List Int) × (List Int)) ⊕ Out ((List Int) × (List Int)) ((List Int) × Int)) :=
  (cond (decide (0 < (s8.1.length : Int))) (bnd (F_impl_divideSmall s8.1 p1) fun r11 => bnd (app s8.2 ([r11.2] : List Int)) fun z15 => some (.inl (r11.1, z15))) (some (.inr (.brk (s8.1, s8.2)))))

noncomputable def F_impl_DigitsOf (p0 : (List Int)) (p1 : Int) : Option ((List Int) × Int) :=
  bnd (F_impl_IsNatural p0) fun r1 => (cond (!r1) (some (([] : (List Int)), 1)) (bnd (F_impl_within p1 2 1000000) fun r4 => (cond (!r4) (some (([] : (List Int)), 2)) (bnd (run (F_impl_DigitsOf_L1 p1) (p0, ([] : List Int))) (Out.elim (fun (s8 : (List Int) × (List Int)) => some (s8.2, 0)) (fun (r : (List Int) × Int) => some r))))))


noncomputable def F_impl_wordOfValue (p0 : (List Int)) : Option ((List Int)) :=
  bnd (F_impl_DigitsOf p0 11) fun r1 => bnd (F_impl_reversed r1.1) fun r4 => bnd (F_impl_moved r4 (-1)) fun r7 => some r7

noncomputable def F_slices_Equal_Sint64_int64_L1 (p0 : (List Int)) (p1 : (List Int)) (s2 : Int) : Option ((Int) ⊕ Out (Int) Bool) :=
  (cond (decide (s2 < (p0.length : Int))) (bnd (idx p0 s2) fun y5 => bnd (idx p1 s2) fun y9 => (cond (decide (y5 ≠ y9)) (some (.inr (.ret false))) (some (.inl (w64 (s2 + 1)))))) (some (.inr (.brk s2))))

noncomputable def F_slices_Equal_Sint64_int64 (p0 : (List Int)) (p1 : (List Int)) : Option (Bool) :=
  (cond (decide ((p0.length : Int) ≠ (p1.length : Int))) (some false) (bnd (run (F_slices_Equal_Sint64_int64_L1 p0 p1) 0) (Out.elim (fun (s2 : Int) => some true) (fun (r : Bool) => some r))))

noncomputable def F_impl_WordsOfSquare_L1 (p0 : (List (List Int))) (s4 : (List Int) × (List Int)) (r35 : (List (List Int)) × Int) (s42 : Int) : Option ((Int) ⊕ Out (Int) (Option ((List Int) × (List Int) × Int))) :=
  (cond (decide (s42 < (p0.length : Int))) (bnd (idx p0 s42) fun y45 => bnd (idx r35.1 s42) fun y49 => bnd (F_slices_Equal_Sint64_int64 y45 y49) fun r53 => (cond (!r53) (some (.inr (.ret (cond (!false) (some (([] : (List Int)), ([] : (List Int)), 9)) (some (s4.1, s4.2, 0)))))) (some (.inl (w64 (s42 + 1)))))) (some (.inr (.brk s42))))

noncomputable def F_impl_WordsOfSquare (p0 : (List (List Int))) : Option ((List Int) × (List Int) × Int) :=
  bnd (F_impl_isSquare p0) fun r1 => (cond (!r1) (some (([] : (List Int)), ([] : (List Int)), 1)) (bnd (bnd (idx p0 6) fun y6 => bnd (idx p0 7) fun y10 => bnd (F_impl_wordOfValue y6) fun r17 => bnd (F_impl_wordOfValue y10) fun r20 => some (.brk (r17, r20)) : Option (Out ((List Int) × (List Int)) ((List Int) × (List Int) × Int))) (Out.elim (fun (s4 : (List Int) × (List Int)) => bnd (F_impl_validDomino (⟨s4.1, s4.2⟩ : GDomino)) fun r32 => (cond (!r32) (some (([] : (List Int)), ([] : (List Int)), 9)) (bnd (F_impl_squareOf (⟨s4.1, s4.2⟩ : GDomino)) fun r35 => (cond (decide (r35.2 ≠ 0)) (some (([] : (List Int)), ([] : (List Int)), 9)) (cond (decide ((p0.length : Int) ≠ (r35.1.length : Int))) (cond (!false) (some (([] : (List Int)), ([] : (List Int)), 9)) (some (s4.1, s4.2, 0))) (bnd (run (F_impl_WordsOfSquare_L1 p0 s4 r35) 0) (Out.elim (fun (s42 : Int) => (cond (!true) (some (([] : (List Int)), ([] : (List Int)), 9)) (some (s4.1, s4.2, 0)))) (fun (r : Option ((List Int) × (List Int) × Int)) => r)))))))) (fun (r : (List Int) × (List Int) × Int) => some r))))


noncomputable def F_laws_FnExactWordsOfSquare (p0 : (List (List Int))) : Option (Bool) :=
  bnd (F_laws_szInt64SS p0 1048576) fun r1 => (cond (decide (r1 < 0)) (some true) (bnd (F_laws_toInt64SS p0) fun r4 => bnd (F_spec_WordsOfSquare r4) fun r7 => bnd (F_laws_toInt64SS p0) fun r10 => bnd (F_impl_WordsOfSquare r10) fun r13 => bnd (bnd (F_laws_eqInt64S r13.1 r7.1) fun r18 => (cond (!r18) (some (.ret false)) (bnd (F_laws_eqInt64S r13.2.1 r7.2.1) fun r21 => (cond (!r21) (some (.ret false)) (cond (decide (r13.2.2 ≠ r7.2.2)) (some (.ret false)) (some (.brk ())))))) : Option (Out (Unit) Bool)) (Out.elim (fun (s16 : Unit) => bnd (F_laws_toInt64SS p0) fun r25 => bnd (F_laws_eqInt64SS r10 r25) fun r28 => (cond (!r28) (some false) (bnd (F_laws_markInt64SS r10 1) fun r31 => bnd ((cond (decide (r31.1 < 0)) (some (.ret false)) (bnd (F_laws_eqInt64S r13.1 r7.1) fun r36 => (cond (!r36) (some (.ret false)) (bnd (F_laws_eqInt64S r13.2.1 r7.2.1) fun r39 => (cond (!r39) (some (.ret false)) (cond (decide (r13.2.2 ≠ r7.2.2)) (some (.ret false)) (some (.brk ())))))))) : Option (Out (Unit) Bool)) (Out.elim (fun (s33 : Unit) => bnd (F_laws_markInt64S r13.1 1) fun r43 => bnd (F_laws_markInt64S r13.2.1 r43.1) fun r45 => bnd (F_laws_heldInt64S r43.2 1) fun r47 => (cond (decide (r47 < 0)) (some false) (bnd (F_laws_heldInt64S r45.2 r47) fun r50 => (cond (decide (r50 < 0)) (some false) (cond (decide (r50 ≠ r45.1)) (some false) (bnd (F_laws_toInt64SS p0) fun r54 => bnd (F_impl_WordsOfSquare r54) fun r57 => bnd (bnd (F_laws_eqInt64S r57.1 r7.1) fun r62 => (cond (!r62) (some (.ret false)) (bnd (F_laws_eqInt64S r57.2.1 r7.2.1) fun r65 => (cond (!r65) (some (.ret false)) (cond (decide (r57.2.2 ≠ r7.2.2)) (some (.ret false)) (some (.brk ())))))) : Option (Out (Unit) Bool)) (Out.elim (fun (s60 : Unit) => bnd (F_laws_heldInt64S r43.2 1) fun r69 => (cond (decide (r69 < 0)) (some false) (bnd (F_laws_heldInt64S r45.2 r69) fun r72 => (cond (decide (r72 < 0)) (some false) (cond (decide (r72 ≠ r45.1)) (some false) (some true)))))) (fun (r : Bool) => some r)))))))) (fun (r : Bool) => some r))))) (fun (r : Bool) => some r))))

noncomputable def F_laws_szDominoS_L1 (p0 : (List GDomino)) (s2 : Int × Int) : Option ((Int × Int) ⊕ Out (Int × Int) Int) :=
  (cond (decide (s2.2 < (p0.length : Int))) (bnd (idx p0 s2.2) fun y5 => bnd (F_laws_szDomino y5 s2.1) fun r9 => (cond (decide (r9 < 0)) (some (.inr (.ret (-1)))) (some (.inl (r9, (w64 (s2.2 + 1))))))) (some (.inr (.brk (s2.1, s2.2)))))

noncomputable def F_laws_szDominoS (p0 : (List GDomino)) (p1 : Int) : Option (Int) :=
  (cond (decide ((w64 (p1 - (p0.length : Int))) < 0)) (some (-1)) (bnd (run (F_laws_szDominoS_L1 p0) ((w64 (p1 - (p0.length : Int))), 0)) (Out.elim (fun (s2 : Int × Int) => some s2.1) (fun (r : Int) => some r))))

noncomputable def F_laws_toDominoS_L1 (p0 : (List GDomino)) (s4 : (List GDomino) × Int) : Option (((List GDomino) × Int) ⊕ Out ((List GDomino) × Int) (List GDomino)) :=
  (cond (decide (s4.2 < (p0.length : Int))) (bnd (idx p0 s4.2) fun y7 => bnd (F_laws_toDomino y7) fun r11 => bnd (idx s4.1 s4.2) fun y14 => some (.inl ((s4.1.set s4.2.toNat r11), (w64 (s4.2 + 1))))) (some (.inr (.brk (s4.1, s4.2)))))

noncomputable def F_laws_toDominoS (p0 : (List GDomino)) : Option ((List GDomino)) :=
  bnd (mke (p0.length : Int) (⟨([] : (List Int)), ([] : (List Int))⟩ : GDomino)) fun z1 => bnd (run (F_laws_toDominoS_L1 p0) (z1, 0)) (Out.elim (fun (s4 : (List GDomino) × Int) => some s4.1) (fun (r : (List GDomino)) => some r))

noncomputable def F_spec_l33Multiply_L3 (p0 : (List (List Int))) (p1 : (List (List Int))) (s2 : (List (List Int)) × Int) (s5 : (List (List Int)) × Int) (s9 : (List Int) × Int) : Option (((List Int) × Int) ⊕ Out ((List Int) × Int) (List (List Int))) :=
  (cond (decide (s9.2 < 3)) (bnd (idx p0 (w64 ((w64 (3 * s2.2)) + s9.2))) fun y12 => bnd (idx p1 (w64 ((w64 (3 * s9.2)) + s5.2))) fun y16 => bnd (F_spec_l02Mul y12 y16) fun r23 => bnd (F_spec_l02Add s9.1 r23) fun r26 => bnd (F_spec_l02Trim r26) fun r29 => some (.inl (r29, (w64 (s9.2 + 1))))) (some (.inr (.brk (s9.1, s9.2)))))

noncomputable def F_spec_l33Multiply_L2 (p0 : (List (List Int))) (p1 : (List (List Int))) (s2 : (List (List Int)) × Int) (s5 : (List (List Int)) × Int) : Option (((List (List Int)) × Int) ⊕ Out ((List (List Int)) × Int) (List (List Int))) :=
  (cond (decide (s5.2 < 3)) (bnd (run (F_spec_l33Multiply_L3 p0 p1 s2 s5) (([] : List Int), 0)) (Out.elim (fun (s9 : (List Int) × Int) => bnd (app s5.1 ([s9.1] : List (List Int))) fun z33 => some (.inl (z33, (w64 (s5.2 + 1))))) (fun (r : (List (List Int))) => some (.inr (.ret r))))) (some (.inr (.brk (s5.1, s5.2)))))

noncomputable def F_spec_l33Multiply_L1 (p0 : (List (List Int))) (p1 : (List (List Int))) (s2 : (List (List Int)) × Int) : Option (((List (List Int)) × Int) ⊕ Out ((List (List Int)) × Int) (List (List Int))) :=
  (cond (decide (s2.2 < 3)) (bnd (run (F_spec_l33Multiply_L2 p0 p1 s2) (s2.1, 0)) (Out.elim (fun (s5 : (List (List Int)) × Int) => some (.inl (s5.1, (w64 (s2.2 + 1))))) (fun (r : (List (List Int))) => some (.inr (.ret r))))) (some (.inr (.brk (s2.1, s2.2)))))

noncomputable def F_spec_l33Multiply (p0 : (List (List Int))) (p1 : (List (List Int))) : Option ((List (List Int))) :=
  bnd (run (F_spec_l33Multiply_L1 p0 p1) (([] : List (List Int)), 0)) (Out.elim (fun (s2 : (List (List Int)) × Int) => some s2.1) (fun (r : (List (List Int))) => some r))

noncomputable def F_spec_ProductOf_L1 (p0 : (List GDomino)) (p1 : (List Int)) (s8 : Int) : Option ((Int) ⊕ Out (Int) ((List (List Int)) × Int)) :=
  (cond (decide (s8 < (p1.length : Int))) (bnd (idx p1 s8) fun y11 => bnd (F_spec_l00In y11 0 (w64 ((p0.length : Int) - 1))) fun r15 => (cond (!r15) (some (.inr (.ret (([] : (List (List Int))), 2)))) (some (.inl (w64 (s8 + 1)))))) (some (.inr (.brk s8))))

noncomputable def F_spec_ProductOf_L2 (p0 : (List GDomino)) (p1 : (List Int)) (s28 : (List (List Int)) × Int) : Option (((List (List Int)) × Int) ⊕ Out ((List (List Int)) × Int) ((List (List Int)) × Int)) :=
  (cond (decide (s28.2 < (p1.length : Int))) (bnd (F_spec_l33Fits s28.1) fun r31 => (cond r31 (bnd (idx p1 s28.2) fun y34 => bnd (idx p0 y34) fun y38 => bnd (F_spec_l33Square y38) fun r41 => bnd (F_spec_l33Multiply s28.1 r41) fun r44 => some (.inl (r44, (w64 (s28.2 + 1))))) (some (.inr (.brk (s28.1, s28.2)))))) (some (.inr (.brk (s28.1, s28.2)))))

noncomputable def F_spec_ProductOf (p0 : (List GDomino)) (p1 : (List Int)) : Option ((List (List Int)) × Int) :=
  bnd (F_spec_l32Is p0) fun r1 => (cond (!r1) (some (([] : (List (List Int))), 1)) (bnd ((cond (decide ((p1.length : Int) < 1)) (some (.ret (([] : (List (List Int))), 2))) (cond (decide (400 < (p1.length : Int))) (some (.ret (([] : (List (List Int))), 2))) (some (.brk ())))) : Option (Out (Unit) ((List (List Int)) × Int))) (Out.elim (fun (s4 : Unit) => bnd (run (F_spec_ProductOf_L1 p0 p1) 0) (Out.elim (fun (s8 : Int) => bnd (idx p1 0) fun y18 => bnd (idx p0 y18) fun y22 => bnd (F_spec_l33Square y22) fun r25 => bnd (run (F_spec_ProductOf_L2 p0 p1) (r25, 1)) (Out.elim (fun (s28 : (List (List Int)) × Int) => bnd (F_spec_l33Fits s28.1) fun r47 => (cond (!r47) (some (([] : (List (List Int))), 5)) (some (s28.1, 0)))) (fun (r : (List (List Int)) × Int) => some r))) (fun (r : (List (List Int)) × Int) => some r))) (fun (r : (List (List Int)) × Int) => some r))))


noncomputable def F_impl_size_impl_Domino (p0 : (List GDomino)) : Option (Int) :=
  some (p0.length : Int)

noncomputable def F_slices_IndexFunc_Simpl_Domino_impl_Domino_L1 (p0 : (List GDomino)) (p1 : (GDomino → Option Bool)) (s1 : Int) : Option ((Int) ⊕ Out (Int) Int) :=
  (cond (decide (s1 < (p0.length : Int))) (bnd (idx p0 s1) fun y4 => bnd (p1 y4) fun r8 => (cond r8 (some (.inr (.ret s1))) (some (.inl (w64 (s1 + 1)))))) (some (.inr (.brk s1))))

noncomputable def F_slices_IndexFunc_Simpl_Domino_impl_Domino (p0 : (List GDomino)) (p1 : (GDomino → Option Bool)) : Option (Int) :=
  bnd (run (F_slices_IndexFunc_Simpl_Domino_impl_Domino_L1 p0 p1) 0) (Out.elim (fun (s1 : Int) => some (-1)) (fun (r : Int) => some r))


noncomputable def F_slices_ContainsFunc_Simpl_Domino_impl_Domino (p0 : (List GDomino)) (p1 : (GDomino → Option Bool)) : Option (Bool) :=
  bnd (F_slices_IndexFunc_Simpl_Domino_impl_Domino p0 p1) fun r1 => some (decide (0 ≤ r1))


noncomputable def F_impl_ValidDominoes_1 (p0 : GDomino) : Option (Bool) :=
  bnd (F_impl_validDomino p0) fun r2 => some (!r2)


noncomputable def F_impl_ValidDominoes (p0 : (List GDomino)) : Option (Bool) :=
  bnd (F_impl_size_impl_Domino p0) fun r1 => bnd (F_impl_within r1 1 80) fun r3 => (cond r3 (bnd (F_slices_ContainsFunc_Simpl_Domino_impl_Domino p0 (fun x_ => F_impl_ValidDominoes_1 x_)) fun r6 => some (!r6)) (some false))


noncomputable def F_impl_size_int64 (p0 : (List Int)) : Option (Int) :=
  some (p0.length : Int)


noncomputable def F_impl_matchRange (p0 : (List GDomino)) (p1 : (List Int)) : Option (Bool) :=
  bnd (F_impl_size_int64 p1) fun r1 => bnd (F_impl_within r1 1 400) fun r3 => (cond r3 (bnd (F_impl_size_impl_Domino p0) fun r6 => bnd (F_impl_allWithin p1 0 (w64 (r6 - 1))) fun r8 => some r8) (some false))

noncomputable def F_impl_productOf_L3 (p0 : (List (List Int))) (p1 : (List (List Int))) (s2 : (List (List Int)) × Int) (s5 : (List (List Int)) × Int) (s9 : (List Int) × Int) : Option (((List Int) × Int) ⊕ Out ((List Int) × Int) ((List (List Int)) × Int)) :=
  (cond (decide (s9.2 < 3)) (bnd (idx p0 (w64 ((w64 (3 * s2.2)) + s9.2))) fun y12 => bnd (idx p1 (w64 ((w64 (3 * s9.2)) + s5.2))) fun y16 => bnd (F_impl_multiply y12 y16) fun r23 => bnd (F_impl_add s9.1 r23) fun r26 => some (.inl (r26, (w64 (s9.2 + 1))))) (some (.inr (.brk (s9.1, s9.2)))))

noncomputable def F_impl_productOf_L2 (p0 : (List (List Int))) (p1 : (List (List Int))) (s2 : (List (List Int)) × Int) (s5 : (List (List Int)) × Int) : Option (((List (List Int)) × Int) ⊕ Out ((List (List Int)) × Int) ((List (List Int)) × Int)) :=
  (cond (decide (s5.2 < 3)) (bnd (run (F_impl_productOf_L3 p0 p1 s2 s5) (([] : List Int), 0)) (Out.elim (fun (s9 : (List Int) × Int) => bnd (app s5.1 ([s9.1] : List (List Int))) fun z30 => some (.inl (z30, (w64 (s5.2 + 1))))) (fun (r : (List (List Int)) × Int) => some (.inr (.ret r))))) (some (.inr (.brk (s5.1, s5.2)))))

noncomputable def F_impl_productOf_L1 (p0 : (List (List Int))) (p1 : (List (List Int))) (s2 : (List (List Int)) × Int) : Option (((List (List Int)) × Int) ⊕ Out ((List (List Int)) × Int) ((List (List Int)) × Int)) :=
  (cond (decide (s2.2 < 3)) (bnd (run (F_impl_productOf_L2 p0 p1 s2) (s2.1, 0)) (Out.elim (fun (s5 : (List (List Int)) × Int) => some (.inl (s5.1, (w64 (s2.2 + 1))))) (fun (r : (List (List Int)) × Int) => some (.inr (.ret r))))) (some (.inr (.brk (s2.1, s2.2)))))

noncomputable def F_impl_productOf (p0 : (List (List Int))) (p1 : (List (List Int))) : Option ((List (List Int)) × Int) :=
  bnd (run (F_impl_productOf_L1 p0 p1) (([] : List (List Int)), 0)) (Out.elim (fun (s2 : (List (List Int)) × Int) => bnd (F_impl_checkedSquare s2.1) fun r33 => some (r33.1, r33.2)) (fun (r : (List (List Int)) × Int) => some r))

noncomputable def F_impl_ProductOf_L1 (p0 : (List GDomino)) (z18 : (List Int)) (s21 : (List (List Int)) × Int × Int) : Option (((List (List Int)) × Int × Int) ⊕ Out ((List (List Int)) × Int × Int) ((List (List Int)) × Int)) :=
  (cond (decide (s21.2.2 < (z18.length : Int))) (bnd (idx z18 s21.2.2) fun y24 => (cond (decide (s21.2.1 ≠ 0)) (some (.inr (.brk (s21.1, s21.2.1, s21.2.2)))) (bnd (idx p0 y24) fun y29 => bnd (F_impl_squareOf y29) fun r33 => (cond (decide (r33.2 = 0)) (bnd (F_impl_productOf s21.1 r33.1) fun r37 => some (.inl (r37.1, r37.2, (w64 (s21.2.2 + 1))))) (some (.inl (s21.1, r33.2, (w64 (s21.2.2 + 1))))))))) (some (.inr (.brk (s21.1, s21.2.1, s21.2.2)))))

noncomputable def F_impl_ProductOf (p0 : (List GDomino)) (p1 : (List Int)) : Option ((List (List Int)) × Int) :=
  bnd (F_impl_ValidDominoes p0) fun r1 => (cond (!r1) (some (([] : (List (List Int))), 1)) (bnd (F_impl_matchRange p0 p1) fun r4 => (cond (!r4) (some (([] : (List (List Int))), 2)) (bnd (idx p1 0) fun y7 => bnd (idx p0 y7) fun y11 => bnd (F_impl_squareOf y11) fun r15 => bnd (slc p1 1 (p1.length : Int)) fun z18 => bnd (run (F_impl_ProductOf_L1 p0 z18) (r15.1, r15.2, 0)) (Out.elim (fun (s21 : (List (List Int)) × Int × Int) => (cond (decide (s21.2.1 ≠ 0)) (some (([] : (List (List Int))), s21.2.1)) (some (s21.1, 0)))) (fun (r : (List (List Int)) × Int) => some r))))))

noncomputable def F_laws_eqDominoS_L1 (p0 : (List GDomino)) (p1 : (List GDomino)) (s2 : Int) : Option ((Int) ⊕ Out (Int) Bool) :=
  (cond (decide (s2 < (p0.length : Int))) (bnd (idx p0 s2) fun y5 => bnd (idx p1 s2) fun y9 => bnd (F_laws_eqDomino y5 y9) fun r16 => (cond (!r16) (some (.inr (.ret false))) (some (.inl (w64 (s2 + 1)))))) (some (.inr (.brk s2))))

noncomputable def F_laws_eqDominoS (p0 : (List GDomino)) (p1 : (List GDomino)) : Option (Bool) :=
  (cond (decide ((p0.length : Int) ≠ (p1.length : Int))) (some false) (bnd (run (F_laws_eqDominoS_L1 p0 p1) 0) (Out.elim (fun (s2 : Int) => some true) (fun (r : Bool) => some r))))

noncomputable def F_laws_markDominoS_L1 (s1 : (List GDomino) × Int × Int) : Option (((List GDomino) × Int × Int) ⊕ Out ((List GDomino) × Int × Int) (Int × (List GDomino))) :=
  (cond (decide (s1.2.2 < (s1.1.length : Int))) (bnd (idx s1.1 s1.2.2) fun y4 => bnd (F_laws_markInt64S y4.Top s1.2.1) fun r10 => bnd (idx (s1.1.set s1.2.2.toNat (⟨r10.2, y4.Bottom⟩ : GDomino)) s1.2.2) fun y12 => bnd (F_laws_markInt64S y12.Bottom r10.1) fun r15 => some (.inl (((s1.1.set s1.2.2.toNat (⟨r10.2, y4.Bottom⟩ : GDomino)).set s1.2.2.toNat (⟨y12.Top, r15.2⟩ : GDomino)), r15.1, (w64 (s1.2.2 + 1))))) (some (.inr (.brk (s1.1, s1.2.1, s1.2.2)))))

noncomputable def F_laws_markDominoS (p0 : (List GDomino)) (p1 : Int) : Option (Int × (List GDomino)) :=
  bnd (run (F_laws_markDominoS_L1) (p0, p1, 0)) (Out.elim (fun (s1 : (List GDomino) × Int × Int) => some (s1.2.1, s1.1)) (fun (r : Int × (List GDomino)) => some r))


noncomputable def F_laws_FnExactProductOf (p0 : (List GDomino)) (p1 : (List Int)) : Option (Bool) :=
  (cond (decide (1048576 < (p1.length : Int))) (some true) (bnd (F_laws_szDominoS p0 1048576) fun r2 => (cond (decide (r2 < 0)) (some true) (bnd (F_laws_toDominoS p0) fun r5 => bnd (F_laws_toInt64S p1) fun r8 => bnd (F_spec_ProductOf r5 r8) fun r11 => bnd (F_laws_toDominoS p0) fun r14 => bnd (F_laws_toInt64S p1) fun r17 => bnd (F_impl_ProductOf r14 r17) fun r20 => bnd (bnd (F_laws_eqInt64SS r20.1 r11.1) fun r25 => (cond (!r25) (some (.ret false)) (cond (decide (r20.2 ≠ r11.2)) (some (.ret false)) (some (.brk ())))) : Option (Out (Unit) Bool)) (Out.elim (fun (s23 : Unit) => bnd (F_laws_toDominoS p0) fun r29 => bnd (F_laws_eqDominoS r14 r29) fun r32 => (cond (!r32) (some false) (bnd (F_laws_toInt64S p1) fun r35 => bnd (F_laws_eqInt64S r17 r35) fun r38 => (cond (!r38) (some false) (bnd (F_laws_markDominoS r14 1) fun r41 => bnd (F_laws_markInt64S r17 r41.1) fun r43 => bnd ((cond (decide (r43.1 < 0)) (some (.ret false)) (bnd (F_laws_eqInt64SS r20.1 r11.1) fun r48 => (cond (!r48) (some (.ret false)) (cond (decide (r20.2 ≠ r11.2)) (some (.ret false)) (some (.brk ())))))) : Option (Out (Unit) Bool)) (Out.elim (fun (s45 : Unit) => bnd (F_laws_markInt64SS r20.1 1) fun r52 => bnd (F_laws_heldInt64SS r52.2 1) fun r54 => (cond (decide (r54 < 0)) (some false) (cond (decide (r54 ≠ r52.1)) (some false) (bnd (F_laws_toDominoS p0) fun r58 => bnd (F_laws_toInt64S p1) fun r61 => bnd (F_impl_ProductOf r58 r61) fun r64 => bnd (F_laws_eqInt64SS r64.1 r11.1) fun r67 => (cond (!r67) (some false) (cond (decide (r64.2 ≠ r11.2)) (some false) (bnd (F_laws_heldInt64SS r52.2 1) fun r71 => (cond (decide (r71 < 0)) (some false) (cond (decide (r71 ≠ r52.1)) (some false) (some true)))))))))) (fun (r : Bool) => some r))))))) (fun (r : Bool) => some r))))))

end Go.Fn
