/-
  What each function of the program computes, as a plain Lean function: printed by program off the translation. No condition.
-/
import Derived.Test.YtlbbchonoomafaaTy
namespace Go.Fn
open Go Go.Tc
set_option linter.unusedVariables false

noncomputable def F_laws_szInt64S (p0 : (List Int)) (p1 : Int) : Option (Int) :=
  (cond (decide ((w64 (p1 - (p0.length : Int))) < 0)) (some (-1)) (some (w64 (p1 - (p0.length : Int)))))

noncomputable def F_laws_szInt64SS_L1 (p0 : (List (List Int))) (s2 : Int × Int) : Option ((Int × Int) ⊕ Out (Int × Int) Int) :=
  (cond (decide (s2.2 < (p0.length : Int))) (bnd (idx p0 s2.2) fun y5 => bnd (F_laws_szInt64S y5 s2.1) fun r9 => (cond (decide (r9 < 0)) (some (.inr (.ret (-1)))) (some (.inl (r9, (w64 (s2.2 + 1))))))) (some (.inr (.brk (s2.1, s2.2)))))

noncomputable def F_laws_szInt64SS (p0 : (List (List Int))) (p1 : Int) : Option (Int) :=
  (cond (decide ((w64 (p1 - (p0.length : Int))) < 0)) (some (-1)) (bnd (run (F_laws_szInt64SS_L1 p0) ((w64 (p1 - (p0.length : Int))), 0)) (Out.elim (fun (s2 : Int × Int) => some s2.1) (fun (r : Int) => some r))))

noncomputable def F_laws_toInt64S_L1 (p0 : (List Int)) (s4 : (List Int) × Int) : Option (((List Int) × Int) ⊕ Out ((List Int) × Int) (List Int)) :=
  (cond (decide (s4.2 < (p0.length : Int))) (bnd (idx p0 s4.2) fun y7 => bnd (idx s4.1 s4.2) fun y11 => some (.inl ((s4.1.set s4.2.toNat y7), (w64 (s4.2 + 1))))) (some (.inr (.brk (s4.1, s4.2)))))

noncomputable def F_laws_toInt64S (p0 : (List Int)) : Option ((List Int)) :=
  bnd (mke (p0.length : Int) (0 : Int)) fun z1 => bnd (run (F_laws_toInt64S_L1 p0) (z1, 0)) (Out.elim (fun (s4 : (List Int) × Int) => some s4.1) (fun (r : (List Int)) => some r))

noncomputable def F_laws_toInt64SS_L1 (p0 : (List (List Int))) (s4 : (List (List Int)) × Int) : Option (((List (List Int)) × Int) ⊕ Out ((List (List Int)) × Int) (List (List Int))) :=
  (cond (decide (s4.2 < (p0.length : Int))) (bnd (idx p0 s4.2) fun y7 => bnd (F_laws_toInt64S y7) fun r11 => bnd (idx s4.1 s4.2) fun y14 => some (.inl ((s4.1.set s4.2.toNat r11), (w64 (s4.2 + 1))))) (some (.inr (.brk (s4.1, s4.2)))))

noncomputable def F_laws_toInt64SS (p0 : (List (List Int))) : Option ((List (List Int))) :=
  bnd (mke (p0.length : Int) ([] : (List Int))) fun z1 => bnd (run (F_laws_toInt64SS_L1 p0) (z1, 0)) (Out.elim (fun (s4 : (List (List Int)) × Int) => some s4.1) (fun (r : (List (List Int))) => some r))


noncomputable def F_spec_l00In (p0 : Int) (p1 : Int) (p2 : Int) : Option (Bool) :=
  (cond (decide (p1 ≤ p0)) (some (decide (p0 ≤ p2))) (some false))

noncomputable def F_spec_l02Is_L1 (p0 : (List Int)) (s2 : Int) : Option ((Int) ⊕ Out (Int) Bool) :=
  (cond (decide (s2 < (p0.length : Int))) (bnd (idx p0 s2) fun y5 => bnd (F_spec_l00In y5 0 999999) fun r9 => (cond (!r9) (some (.inr (.ret false))) (some (.inl (w64 (s2 + 1)))))) (some (.inr (.brk s2))))

noncomputable def F_spec_l02Is (p0 : (List Int)) : Option (Bool) :=
  (cond (decide (40 < (p0.length : Int))) (some false) (bnd (run (F_spec_l02Is_L1 p0) 0) (Out.elim (fun (s2 : Int) => (cond (decide ((p0.length : Int) = 0)) (some true) (bnd (idx p0 (w64 ((p0.length : Int) - 1))) fun y13 => some (decide (y13 ≠ 0))))) (fun (r : Bool) => some r))))

noncomputable def F_spec_l33Matrix_L1 (p0 : (List (List Int))) (s1 : Int) : Option ((Int) ⊕ Out (Int) Bool) :=
  (cond (decide (s1 < (p0.length : Int))) (bnd (idx p0 s1) fun y4 => bnd (F_spec_l02Is y4) fun r8 => (cond (!r8) (some (.inr (.ret false))) (some (.inl (w64 (s1 + 1)))))) (some (.inr (.brk s1))))

noncomputable def F_spec_l33Matrix (p0 : (List (List Int))) : Option (Bool) :=
  bnd (run (F_spec_l33Matrix_L1 p0) 0) (Out.elim (fun (s1 : Int) => some (decide ((p0.length : Int) = 9))) (fun (r : Bool) => some r))

noncomputable def F_spec_l02Trim_L1 (p0 : (List Int)) (s1 : Int) : Option ((Int) ⊕ Out (Int) (List Int)) :=
  (cond (decide (0 < s1)) (bnd (idx p0 (w64 (s1 - 1))) fun y4 => (cond (decide (y4 = 0)) (some (.inl (w64 (s1 - 1)))) (some (.inr (.brk s1))))) (some (.inr (.brk s1))))

noncomputable def F_spec_l02Trim (p0 : (List Int)) : Option ((List Int)) :=
  bnd (run (F_spec_l02Trim_L1 p0) (p0.length : Int)) (Out.elim (fun (s1 : Int) => bnd (slc p0 0 s1) fun z9 => some z9) (fun (r : (List Int)) => some r))

noncomputable def F_spec_l02By_L1 (p0 : (List Int)) (p1 : Int) (s4 : (List Int) × Int × Int) : Option (((List Int) × Int × Int) ⊕ Out ((List Int) × Int × Int) ((List Int) × Int)) :=
  (cond (decide (0 ≤ s4.2.2)) (bnd (idx p0 s4.2.2) fun y7 => bnd (nz p1) fun u11 => bnd (idx s4.1 s4.2.2) fun y13 => bnd (nz p1) fun u15 => some (.inl ((s4.1.set s4.2.2.toNat (w64 (Int.tdiv (w64 ((w64 (s4.2.1 * 1000000)) + y7)) p1))), (Int.tmod (w64 ((w64 (s4.2.1 * 1000000)) + y7)) p1), (w64 (s4.2.2 - 1))))) (some (.inr (.brk (s4.1, s4.2.1, s4.2.2)))))

noncomputable def F_spec_l02By (p0 : (List Int)) (p1 : Int) : Option ((List Int) × Int) :=
  bnd (mke (p0.length : Int) (0 : Int)) fun z1 => bnd (run (F_spec_l02By_L1 p0 p1) (z1, 0, (w64 ((p0.length : Int) - 1)))) (Out.elim (fun (s4 : (List Int) × Int × Int) => bnd (F_spec_l02Trim s4.1) fun r17 => some (r17, s4.2.1)) (fun (r : (List Int) × Int) => some r))

noncomputable def F_spec_l03Reverse_L1 (p0 : (List Int)) (s2 : (List Int) × Int) : Option (((List Int) × Int) ⊕ Out ((List Int) × Int) (List Int)) :=
  (cond (decide (0 ≤ s2.2)) (bnd (idx p0 s2.2) fun y5 => bnd (app s2.1 ([y5] : List Int)) fun z10 => some (.inl (z10, (w64 (s2.2 - 1))))) (some (.inr (.brk (s2.1, s2.2)))))

noncomputable def F_spec_l03Reverse (p0 : (List Int)) : Option ((List Int)) :=
  bnd (run (F_spec_l03Reverse_L1 p0) (([] : List Int), (w64 ((p0.length : Int) - 1)))) (Out.elim (fun (s2 : (List Int) × Int) => some s2.1) (fun (r : (List Int)) => some r))

noncomputable def F_spec_l33Letters_L1 (s2 : (List Int) × (List Int)) : Option (((List Int) × (List Int)) ⊕ Out ((List Int) × (List Int)) ((List Int) × Bool)) :=
  (cond (decide (0 < (s2.1.length : Int))) (bnd (F_spec_l02By s2.1 11) fun r5 => (cond (decide (r5.2 = 0)) (some (.inr (.ret (([] : (List Int)), false)))) (bnd (app s2.2 ([(w64 (r5.2 - 1))] : List Int)) fun z10 => bnd (F_spec_l02Trim r5.1) fun r13 => some (.inl (r13, z10))))) (some (.inr (.brk (s2.1, s2.2)))))

noncomputable def F_spec_l33Letters (p0 : (List Int)) : Option ((List Int) × Bool) :=
  bnd (run (F_spec_l33Letters_L1) (p0, ([] : List Int))) (Out.elim (fun (s2 : (List Int) × (List Int)) => bnd (F_spec_l03Reverse s2.2) fun r16 => some (r16, true)) (fun (r : (List Int) × Bool) => some r))

noncomputable def F_spec_l02Of_L1 (s2 : Int × (List Int)) : Option ((Int × (List Int)) ⊕ Out (Int × (List Int)) (List Int)) :=
  (cond (decide (0 < s2.1)) (bnd (app s2.2 ([(Int.tmod s2.1 1000000)] : List Int)) fun z6 => some (.inl ((w64 (Int.tdiv s2.1 1000000)), z6))) (some (.inr (.brk (s2.1, s2.2)))))

noncomputable def F_spec_l02Of (p0 : Int) : Option ((List Int)) :=
  bnd (run (F_spec_l02Of_L1) (p0, ([] : List Int))) (Out.elim (fun (s2 : Int × (List Int)) => some s2.2) (fun (r : (List Int)) => some r))

noncomputable def F_spec_l02Mul_L2 (p0 : (List Int)) (p1 : (List Int)) (s4 : (List Int) × Int) (s7 : (List Int) × Int × Int) : Option (((List Int) × Int × Int) ⊕ Out ((List Int) × Int × Int) (List Int)) :=
  bnd ((cond (decide (s7.2.2 < (p1.length : Int))) (some (.brk true)) (some (.brk (decide (0 < s7.2.1))))) : Option (Out (Bool) (List Int))) (Out.elim (fun (s9 : Bool) => (cond s9 (bnd (idx s7.1 (w64 (s4.2 + s7.2.2))) fun y13 => (cond (decide (s7.2.2 < (p1.length : Int))) (bnd (idx p0 s4.2) fun y17 => bnd (idx p1 s7.2.2) fun y21 => bnd (idx s7.1 (w64 (s4.2 + s7.2.2))) fun y25 => some (.inl ((s7.1.set (w64 (s4.2 + s7.2.2)).toNat (Int.tmod (w64 ((w64 (y13 + s7.2.1)) + (w64 (y17 * y21)))) 1000000)), (w64 (Int.tdiv (w64 ((w64 (y13 + s7.2.1)) + (w64 (y17 * y21)))) 1000000)), (w64 (s7.2.2 + 1))))) (bnd (idx s7.1 (w64 (s4.2 + s7.2.2))) fun y27 => some (.inl ((s7.1.set (w64 (s4.2 + s7.2.2)).toNat (Int.tmod (w64 (y13 + s7.2.1)) 1000000)), (w64 (Int.tdiv (w64 (y13 + s7.2.1)) 1000000)), (w64 (s7.2.2 + 1))))))) (some (.inr (.brk (s7.1, s7.2.1, s7.2.2)))))) (fun (r : (List Int)) => some (.inr (.ret r))))

noncomputable def F_spec_l02Mul_L1 (p0 : (List Int)) (p1 : (List Int)) (s4 : (List Int) × Int) : Option (((List Int) × Int) ⊕ Out ((List Int) × Int) (List Int)) :=
  (cond (decide (s4.2 < (p0.length : Int))) (bnd (run (F_spec_l02Mul_L2 p0 p1 s4) (s4.1, 0, 0)) (Out.elim (fun (s7 : (List Int) × Int × Int) => some (.inl (s7.1, (w64 (s4.2 + 1))))) (fun (r : (List Int)) => some (.inr (.ret r))))) (some (.inr (.brk (s4.1, s4.2)))))

noncomputable def F_spec_l02Mul (p0 : (List Int)) (p1 : (List Int)) : Option ((List Int)) :=
  bnd (mke (w64 ((w64 ((p0.length : Int) + (p1.length : Int))) + 1)) (0 : Int)) fun z1 => bnd (run (F_spec_l02Mul_L1 p0 p1) (z1, 0)) (Out.elim (fun (s4 : (List Int) × Int) => bnd (F_spec_l02Trim s4.1) fun r29 => some r29) (fun (r : (List Int)) => some r))

noncomputable def F_spec_l33Power_L1 (s4 : Int × (List Int)) : Option ((Int × (List Int)) ⊕ Out (Int × (List Int)) (List Int)) :=
  (cond (decide (0 < s4.1)) (bnd (F_spec_l02Of 11) fun r7 => bnd (F_spec_l02Mul s4.2 r7) fun r10 => bnd (F_spec_l02Trim r10) fun r13 => some (.inl ((w64 (s4.1 - 1)), r13))) (some (.inr (.brk (s4.1, s4.2)))))

noncomputable def F_spec_l33Power (p0 : Int) : Option ((List Int)) :=
  bnd (F_spec_l02Of 1) fun r1 => bnd (run (F_spec_l33Power_L1) (p0, r1)) (Out.elim (fun (s4 : Int × (List Int)) => some s4.2) (fun (r : (List Int)) => some r))


noncomputable def F_spec_l00Own (p0 : (List Int)) : Option ((List Int)) :=
  bnd (app ([] : List Int) p0) fun z2 => some z2

noncomputable def F_spec_l02Add_L1 (p0 : (List Int)) (p1 : (List Int)) (s2 : (List Int) × Int × Int) : Option (((List Int) × Int × Int) ⊕ Out ((List Int) × Int × Int) (List Int)) :=
  bnd ((cond (decide (s2.2.2 < (p0.length : Int))) (some (.brk true)) (cond (decide (s2.2.2 < (p1.length : Int))) (some (.brk true)) (some (.brk (decide (0 < s2.2.1)))))) : Option (Out (Bool) (List Int))) (Out.elim (fun (s4 : Bool) => (cond s4 (bnd ((cond (decide (s2.2.2 < (p0.length : Int))) (bnd (idx p0 s2.2.2) fun y12 => some (.brk (w64 (s2.2.1 + y12)))) (some (.brk s2.2.1))) : Option (Out (Int) (List Int))) (Out.elim (fun (s9 : Int) => (cond (decide (s2.2.2 < (p1.length : Int))) (bnd (idx p1 s2.2.2) fun y17 => bnd (app s2.1 ([(Int.tmod (w64 (s9 + y17)) 1000000)] : List Int)) fun z22 => some (.inl (z22, (w64 (Int.tdiv (w64 (s9 + y17)) 1000000)), (w64 (s2.2.2 + 1))))) (bnd (app s2.1 ([(Int.tmod s9 1000000)] : List Int)) fun z26 => some (.inl (z26, (w64 (Int.tdiv s9 1000000)), (w64 (s2.2.2 + 1))))))) (fun (r : (List Int)) => some (.inr (.ret r))))) (some (.inr (.brk (s2.1, s2.2.1, s2.2.2)))))) (fun (r : (List Int)) => some (.inr (.ret r))))

noncomputable def F_spec_l02Add (p0 : (List Int)) (p1 : (List Int)) : Option ((List Int)) :=
  bnd (run (F_spec_l02Add_L1 p0 p1) (([] : List Int), 0, 0)) (Out.elim (fun (s2 : (List Int) × Int × Int) => some s2.1) (fun (r : (List Int)) => some r))

noncomputable def F_spec_l33Value_L1 (p0 : (List Int)) (s2 : (List Int) × Int) : Option (((List Int) × Int) ⊕ Out ((List Int) × Int) (List Int)) :=
  (cond (decide (s2.2 < (p0.length : Int))) (bnd (idx p0 s2.2) fun y5 => bnd (F_spec_l02Of 11) fun r12 => bnd (F_spec_l02Mul s2.1 r12) fun r15 => bnd (F_spec_l02Of (w64 (y5 + 1))) fun r18 => bnd (F_spec_l02Add r15 r18) fun r21 => bnd (F_spec_l02Trim r21) fun r24 => some (.inl (r24, (w64 (s2.2 + 1))))) (some (.inr (.brk (s2.1, s2.2)))))

noncomputable def F_spec_l33Value (p0 : (List Int)) : Option ((List Int)) :=
  bnd (run (F_spec_l33Value_L1 p0) (([] : List Int), 0)) (Out.elim (fun (s2 : (List Int) × Int) => some s2.1) (fun (r : (List Int)) => some r))


noncomputable def F_spec_l33Square (p0 : GDomino) : Option ((List (List Int))) :=
  bnd (F_spec_l33Power (p0.Top.length : Int)) fun r13 => bnd (F_spec_l00Own ([] : List Int)) fun r16 => bnd (F_spec_l00Own ([] : List Int)) fun r19 => bnd (F_spec_l33Power (p0.Bottom.length : Int)) fun r22 => bnd (F_spec_l00Own ([] : List Int)) fun r25 => bnd (F_spec_l33Value p0.Top) fun r28 => bnd (F_spec_l33Value p0.Bottom) fun r31 => bnd (F_spec_l02Of 1) fun r34 => some ([r13, ([] : List Int), r16, r19, r22, r25, r28, r31, r34] : List (List Int))

noncomputable def F_spec_l00Same_L1 (p0 : (List Int)) (p1 : (List Int)) (s2 : Int) : Option ((Int) ⊕ Out (Int) Bool) :=
  (cond (decide (s2 < (p0.length : Int))) (bnd (idx p0 s2) fun y5 => bnd (idx p1 s2) fun y9 => (cond (decide (y5 ≠ y9)) (some (.inr (.ret false))) (some (.inl (w64 (s2 + 1)))))) (some (.inr (.brk s2))))

noncomputable def F_spec_l00Same (p0 : (List Int)) (p1 : (List Int)) : Option (Bool) :=
  (cond (decide ((p0.length : Int) ≠ (p1.length : Int))) (some false) (bnd (run (F_spec_l00Same_L1 p0 p1) 0) (Out.elim (fun (s2 : Int) => some true) (fun (r : Bool) => some r))))

noncomputable def F_spec_l27Lists_L1 (p0 : (List (List Int))) (p1 : (List (List Int))) (s2 : Int) : Option ((Int) ⊕ Out (Int) Bool) :=
  (cond (decide (s2 < (p0.length : Int))) (bnd (idx p0 s2) fun y5 => bnd (idx p1 s2) fun y9 => bnd (F_spec_l00Same y5 y9) fun r16 => (cond (!r16) (some (.inr (.ret false))) (some (.inl (w64 (s2 + 1)))))) (some (.inr (.brk s2))))

noncomputable def F_spec_l27Lists (p0 : (List (List Int))) (p1 : (List (List Int))) : Option (Bool) :=
  (cond (decide ((p0.length : Int) ≠ (p1.length : Int))) (some false) (bnd (run (F_spec_l27Lists_L1 p0 p1) 0) (Out.elim (fun (s2 : Int) => some true) (fun (r : Bool) => some r))))


noncomputable def F_spec_WordsOfSquare (p0 : (List (List Int))) : Option ((List Int) × (List Int) × Int) :=
  bnd (F_spec_l33Matrix p0) fun r1 => (cond (!r1) (some (([] : (List Int)), ([] : (List Int)), 1)) (bnd (idx p0 6) fun y4 => bnd (F_spec_l33Letters y4) fun r8 => bnd (idx p0 7) fun y11 => bnd (F_spec_l33Letters y11) fun r15 => bnd ((cond (!r8.2) (some (.ret (([] : (List Int)), ([] : (List Int)), 9))) (cond (!r15.2) (some (.ret (([] : (List Int)), ([] : (List Int)), 9))) (cond (decide ((w64 ((r8.1.length : Int) + (r15.1.length : Int))) = 0)) (some (.ret (([] : (List Int)), ([] : (List Int)), 9))) (some (.brk ()))))) : Option (Out (Unit) ((List Int) × (List Int) × Int))) (Out.elim (fun (s18 : Unit) => bnd (F_spec_l33Square (⟨r8.1, r15.1⟩ : GDomino)) fun r24 => bnd (F_spec_l27Lists r24 p0) fun r27 => (cond (!r27) (some (([] : (List Int)), ([] : (List Int)), 9)) (some (r8.1, r15.1, 0)))) (fun (r : (List Int) × (List Int) × Int) => some r))))

noncomputable def F_slices_IndexFunc_SSint64_Sint64_L1 (p0 : (List (List Int))) (p1 : ((List Int) → Option Bool)) (s1 : Int) : Option ((Int) ⊕ Out (Int) Int) :=
  (cond (decide (s1 < (p0.length : Int))) (bnd (idx p0 s1) fun y4 => bnd (p1 y4) fun r8 => (cond r8 (some (.inr (.ret s1))) (some (.inl (w64 (s1 + 1)))))) (some (.inr (.brk s1))))

noncomputable def F_slices_IndexFunc_SSint64_Sint64 (p0 : (List (List Int))) (p1 : ((List Int) → Option Bool)) : Option (Int) :=
  bnd (run (F_slices_IndexFunc_SSint64_Sint64_L1 p0 p1) 0) (Out.elim (fun (s1 : Int) => some (-1)) (fun (r : Int) => some r))


noncomputable def F_slices_ContainsFunc_SSint64_Sint64 (p0 : (List (List Int))) (p1 : ((List Int) → Option Bool)) : Option (Bool) :=
  bnd (F_slices_IndexFunc_SSint64_Sint64 p0 p1) fun r1 => some (decide (0 ≤ r1))


noncomputable def F_impl_within (p0 : Int) (p1 : Int) (p2 : Int) : Option (Bool) :=
  (cond (decide (p1 ≤ p0)) (some (decide (p0 ≤ p2))) (some false))

noncomputable def F_impl_allWithin_L1 (p0 : (List Int)) (p1 : Int) (p2 : Int) (s1 : Int) : Option ((Int) ⊕ Out (Int) Bool) :=
  (cond (decide (s1 < (p0.length : Int))) (bnd (idx p0 s1) fun y4 => bnd (F_impl_within y4 p1 p2) fun r8 => (cond (!r8) (some (.inr (.ret false))) (some (.inl (w64 (s1 + 1)))))) (some (.inr (.brk s1))))

noncomputable def F_impl_allWithin (p0 : (List Int)) (p1 : Int) (p2 : Int) : Option (Bool) :=
  bnd (run (F_impl_allWithin_L1 p0 p1 p2) 0) (Out.elim (fun (s1 : Int) => some true) (fun (r : Bool) => some r))


noncomputable def F_impl_IsNatural (p0 : (List Int)) : Option (Bool) :=
  (cond (decide ((p0.length : Int) ≤ 40)) (bnd (F_impl_allWithin p0 0 999999) fun r2 => (cond r2 (cond (decide ((p0.length : Int) = 0)) (some true) (bnd (idx p0 (w64 ((p0.length : Int) - 1))) fun y6 => some (decide (y6 ≠ 0)))) (some false))) (some false))


noncomputable def F_impl_naturals_1 (p0 : (List Int)) : Option (Bool) :=
  bnd (F_impl_IsNatural p0) fun r1 => some (!r1)


noncomputable def F_impl_naturals (p0 : (List (List Int))) : Option (Bool) :=
  bnd (F_slices_ContainsFunc_SSint64_Sint64 p0 (fun x_ => F_impl_naturals_1 x_)) fun r1 => some (!r1)


noncomputable def F_impl_isSquare (p0 : (List (List Int))) : Option (Bool) :=
  (cond (decide ((p0.length : Int) = 9)) (bnd (F_impl_naturals p0) fun r2 => some r2) (some false))

noncomputable def F_impl_trimmed_L1 (s1 : (List Int)) : Option (((List Int)) ⊕ Out ((List Int)) (List Int)) :=
  (cond (decide (0 < (s1.length : Int))) (bnd (idx s1 (w64 ((s1.length : Int) - 1))) fun y4 => (cond (decide (y4 = 0)) (bnd (slc s1 0 (w64 ((s1.length : Int) - 1))) fun z9 => some (.inl z9)) (some (.inr (.brk s1))))) (some (.inr (.brk s1))))

noncomputable def F_impl_trimmed (p0 : (List Int)) : Option ((List Int)) :=
  bnd (run (F_impl_trimmed_L1) p0) (Out.elim (fun (s1 : (List Int)) => some s1) (fun (r : (List Int)) => some r))

noncomputable def F_impl_divideSmall_L1 (p0 : (List Int)) (p1 : Int) (s4 : (List Int) × Int × Int) : Option (((List Int) × Int × Int) ⊕ Out ((List Int) × Int × Int) ((List Int) × Int)) :=
  (cond (decide (0 ≤ s4.2.2)) (bnd (idx p0 s4.2.2) fun y7 => bnd (nz p1) fun u11 => bnd (nz p1) fun u13 => bnd (idx s4.1 s4.2.2) fun y18 => some (.inl ((s4.1.set s4.2.2.toNat (w64 (Int.tdiv (w64 ((w64 (s4.2.1 * 1000000)) + y7)) p1))), (Int.tmod (w64 ((w64 (s4.2.1 * 1000000)) + y7)) p1), (w64 (s4.2.2 - 1))))) (some (.inr (.brk (s4.1, s4.2.1, s4.2.2)))))

noncomputable def F_impl_divideSmall (p0 : (List Int)) (p1 : Int) : Option ((List Int) × Int) :=
  bnd (mke (p0.length : Int) (0 : Int)) fun z1 => bnd (run (F_impl_divideSmall_L1 p0 p1) (z1, 0, (w64 ((p0.length : Int) - 1)))) (Out.elim (fun (s4 : (List Int) × Int × Int) => bnd (F_impl_trimmed s4.1) fun r20 => some (r20, s4.2.1)) (fun (r : (List Int) × Int) => some r))

noncomputable def F_impl_DigitsOf_L1 (p1 : Int) (s8 : (List Int) × (List Int)) : Option (((List Int) × (List Int)) ⊕ Out ((List Int) × (List Int)) ((List Int) × Int)) :=
  (cond (decide (0 < (s8.1.length : Int))) (bnd (F_impl_divideSmall s8.1 p1) fun r11 => bnd (app s8.2 ([r11.2] : List Int)) fun z15 => some (.inl (r11.1, z15))) (some (.inr (.brk (s8.1, s8.2)))))

noncomputable def F_impl_DigitsOf (p0 : (List Int)) (p1 : Int) : Option ((List Int) × Int) :=
  bnd (F_impl_IsNatural p0) fun r1 => (cond (!r1) (some (([] : (List Int)), 1)) (bnd (F_impl_within p1 2 1000000) fun r4 => (cond (!r4) (some (([] : (List Int)), 2)) (bnd (run (F_impl_DigitsOf_L1 p1) (p0, ([] : List Int))) (Out.elim (fun (s8 : (List Int) × (List Int)) => some (s8.2, 0)) (fun (r : (List Int) × Int) => some r))))))


noncomputable def F_slices_Clone_Sint64_int64 (p0 : (List Int)) : Option ((List Int)) :=
  bnd (app ([] : List Int) p0) fun z3 => some z3

noncomputable def F_impl_reversed_L1 (s5 : (List Int) × Int × Int) : Option (((List Int) × Int × Int) ⊕ Out ((List Int) × Int × Int) (Option ((List Int)))) :=
  (cond (decide (s5.2.1 < s5.2.2)) (bnd (idx s5.1 s5.2.2) fun y8 => bnd (idx s5.1 s5.2.1) fun y12 => bnd (idx s5.1 s5.2.1) fun y19 => bnd (idx (s5.1.set s5.2.1.toNat y8) s5.2.2) fun y21 => some (.inl (((s5.1.set s5.2.1.toNat y8).set s5.2.2.toNat y12), (w64 (s5.2.1 + 1)), (w64 (s5.2.2 - 1))))) (some (.inr (.brk (s5.1, s5.2.1, s5.2.2)))))

noncomputable def F_impl_reversed (p0 : (List Int)) : Option ((List Int)) :=
  bnd (F_slices_Clone_Sint64_int64 p0) fun r1 => bnd (run (F_impl_reversed_L1) (r1, 0, (w64 ((r1.length : Int) - 1)))) (Out.elim (fun (s5 : (List Int) × Int × Int) => some s5.1) (fun (r : Option ((List Int))) => r))

noncomputable def F_impl_moved_L1 (p0 : (List Int)) (p1 : Int) (s2 : (List Int) × Int) : Option (((List Int) × Int) ⊕ Out ((List Int) × Int) (List Int)) :=
  (cond (decide (s2.2 < (p0.length : Int))) (bnd (idx p0 s2.2) fun y5 => bnd (app s2.1 ([(w64 (y5 + p1))] : List Int)) fun z10 => some (.inl (z10, (w64 (s2.2 + 1))))) (some (.inr (.brk (s2.1, s2.2)))))

noncomputable def F_impl_moved (p0 : (List Int)) (p1 : Int) : Option ((List Int)) :=
  bnd (run (F_impl_moved_L1 p0 p1) (([] : List Int), 0)) (Out.elim (fun (s2 : (List Int) × Int) => some s2.1) (fun (r : (List Int)) => some r))


noncomputable def F_impl_wordOfValue (p0 : (List Int)) : Option ((List Int)) :=
  bnd (F_impl_DigitsOf p0 11) fun r1 => bnd (F_impl_reversed r1.1) fun r4 => bnd (F_impl_moved r4 (-1)) fun r7 => some r7


noncomputable def F_impl_isLetters (p0 : (List Int)) : Option (Bool) :=
  bnd (F_impl_allWithin p0 0 9) fun r1 => some r1


noncomputable def F_impl_IsWord (p0 : (List Int)) : Option (Bool) :=
  (cond (decide ((p0.length : Int) ≤ 400)) (bnd (F_impl_isLetters p0) fun r2 => some r2) (some false))


noncomputable def F_impl_areWords_1 (p0 : (List Int)) : Option (Bool) :=
  bnd (F_impl_IsWord p0) fun r1 => some (!r1)


noncomputable def F_impl_areWords (p0 : (List (List Int))) : Option (Bool) :=
  bnd (F_slices_ContainsFunc_SSint64_Sint64 p0 (fun x_ => F_impl_areWords_1 x_)) fun r1 => some (!r1)


noncomputable def F_impl_validDomino (p0 : GDomino) : Option (Bool) :=
  bnd (F_impl_areWords ([p0.Top, p0.Bottom] : List (List Int))) fun r3 => (cond r3 (some (decide (0 < (w64 ((p0.Top.length : Int) + (p0.Bottom.length : Int)))))) (some false))


noncomputable def F_impl_one : Option ((List Int)) :=
  some ([1] : List Int)

noncomputable def F_impl_multiply_L2 (p1 : (List Int)) (s4 : (List Int) × Int) (y7 : Int) (s11 : (List Int) × Int × Int) : Option (((List Int) × Int × Int) ⊕ Out ((List Int) × Int × Int) (List Int)) :=
  bnd ((cond (decide (s11.2.2 < (p1.length : Int))) (some (.brk true)) (some (.brk (decide (0 < s11.2.1))))) : Option (Out (Bool) (List Int))) (Out.elim (fun (s13 : Bool) => (cond s13 (bnd (idx s11.1 (w64 (s4.2 + s11.2.2))) fun y17 => (cond (decide (s11.2.2 < (p1.length : Int))) (bnd (idx p1 s11.2.2) fun y21 => bnd (idx s11.1 (w64 (s4.2 + s11.2.2))) fun y25 => some (.inl ((s11.1.set (w64 (s4.2 + s11.2.2)).toNat (Int.tmod (w64 ((w64 (s11.2.1 + y17)) + (w64 (y7 * y21)))) 1000000)), (w64 (Int.tdiv (w64 ((w64 (s11.2.1 + y17)) + (w64 (y7 * y21)))) 1000000)), (w64 (s11.2.2 + 1))))) (bnd (idx s11.1 (w64 (s4.2 + s11.2.2))) fun y27 => some (.inl ((s11.1.set (w64 (s4.2 + s11.2.2)).toNat (Int.tmod (w64 (s11.2.1 + y17)) 1000000)), (w64 (Int.tdiv (w64 (s11.2.1 + y17)) 1000000)), (w64 (s11.2.2 + 1))))))) (some (.inr (.brk (s11.1, s11.2.1, s11.2.2)))))) (fun (r : (List Int)) => some (.inr (.ret r))))

noncomputable def F_impl_multiply_L1 (p0 : (List Int)) (p1 : (List Int)) (s4 : (List Int) × Int) : Option (((List Int) × Int) ⊕ Out ((List Int) × Int) (List Int)) :=
  (cond (decide (s4.2 < (p0.length : Int))) (bnd (idx p0 s4.2) fun y7 => bnd (run (F_impl_multiply_L2 p1 s4 y7) (s4.1, 0, 0)) (Out.elim (fun (s11 : (List Int) × Int × Int) => some (.inl (s11.1, (w64 (s4.2 + 1))))) (fun (r : (List Int)) => some (.inr (.ret r))))) (some (.inr (.brk (s4.1, s4.2)))))

noncomputable def F_impl_multiply (p0 : (List Int)) (p1 : (List Int)) : Option ((List Int)) :=
  bnd (mke (w64 ((p0.length : Int) + (p1.length : Int))) (0 : Int)) fun z1 => bnd (run (F_impl_multiply_L1 p0 p1) (z1, 0)) (Out.elim (fun (s4 : (List Int) × Int) => bnd (F_impl_trimmed s4.1) fun r29 => some r29) (fun (r : (List Int)) => some r))

noncomputable def F_impl_basePower_L1 (s4 : Int × (List Int)) : Option ((Int × (List Int)) ⊕ Out (Int × (List Int)) (List Int)) :=
  (cond (decide (0 < s4.1)) (cond (decide ((s4.2.length : Int) ≤ 40)) (bnd (F_impl_multiply s4.2 ([11] : List Int)) fun r9 => some (.inl ((w64 (s4.1 - 1)), r9))) (some (.inr (.brk (s4.1, s4.2))))) (some (.inr (.brk (s4.1, s4.2)))))

noncomputable def F_impl_basePower (p0 : Int) : Option ((List Int)) :=
  bnd F_impl_one fun r1 => bnd (run (F_impl_basePower_L1) (p0, r1)) (Out.elim (fun (s4 : Int × (List Int)) => some s4.2) (fun (r : (List Int)) => some r))

noncomputable def F_impl_carried_L1 (p0 : (List Int)) (s2 : (List Int) × Int × Int) : Option (((List Int) × Int × Int) ⊕ Out ((List Int) × Int × Int) (List Int)) :=
  bnd ((cond (decide (s2.2.2 < (p0.length : Int))) (some (.brk true)) (some (.brk (decide (0 < s2.2.1))))) : Option (Out (Bool) (List Int))) (Out.elim (fun (s4 : Bool) => (cond s4 (cond (decide (s2.2.2 < (p0.length : Int))) (bnd (idx p0 s2.2.2) fun y9 => bnd (app s2.1 ([(Int.tmod (w64 (s2.2.1 + y9)) 1000000)] : List Int)) fun z14 => some (.inl (z14, (w64 (Int.tdiv (w64 (s2.2.1 + y9)) 1000000)), (w64 (s2.2.2 + 1))))) (bnd (app s2.1 ([(Int.tmod s2.2.1 1000000)] : List Int)) fun z18 => some (.inl (z18, (w64 (Int.tdiv s2.2.1 1000000)), (w64 (s2.2.2 + 1)))))) (some (.inr (.brk (s2.1, s2.2.1, s2.2.2)))))) (fun (r : (List Int)) => some (.inr (.ret r))))

noncomputable def F_impl_carried (p0 : (List Int)) : Option ((List Int)) :=
  bnd (run (F_impl_carried_L1 p0) (([] : List Int), 0, 0)) (Out.elim (fun (s2 : (List Int) × Int × Int) => bnd (F_impl_trimmed s2.1) fun r21 => some r21) (fun (r : (List Int)) => some r))


noncomputable def F_impl_naturalOf (p0 : Int) : Option ((List Int)) :=
  bnd (F_impl_carried ([p0] : List Int)) fun r2 => some r2

noncomputable def F_impl_add_L1 (p1 : (List Int)) (s4 : (List Int) × Int) : Option (((List Int) × Int) ⊕ Out ((List Int) × Int) (List Int)) :=
  (cond (decide (s4.2 < (p1.length : Int))) (bnd (idx p1 s4.2) fun y7 => bnd (idx s4.1 s4.2) fun y11 => bnd (idx s4.1 s4.2) fun y14 => some (.inl ((s4.1.set s4.2.toNat (w64 (y11 + y7))), (w64 (s4.2 + 1))))) (some (.inr (.brk (s4.1, s4.2)))))

noncomputable def F_impl_add (p0 : (List Int)) (p1 : (List Int)) : Option ((List Int)) :=
  bnd (mke (if (p1.length : Int) > (p0.length : Int) then (p1.length : Int) else (p0.length : Int)) (0 : Int)) fun z1 => bnd (run (F_impl_add_L1 p1) ((cpy z1 p0), 0)) (Out.elim (fun (s4 : (List Int) × Int) => bnd (F_impl_carried s4.1) fun r16 => some r16) (fun (r : (List Int)) => some r))

noncomputable def F_impl_fromDigits_L1 (p0 : (List Int)) (p1 : Int) (s2 : (List Int) × Int) : Option (((List Int) × Int) ⊕ Out ((List Int) × Int) (List Int)) :=
  (cond (decide (0 ≤ s2.2)) (bnd (idx p0 s2.2) fun y5 => bnd (F_impl_naturalOf p1) fun r12 => bnd (F_impl_multiply s2.1 r12) fun r15 => bnd (F_impl_naturalOf y5) fun r18 => bnd (F_impl_add r15 r18) fun r21 => some (.inl (r21, (w64 (s2.2 - 1))))) (some (.inr (.brk (s2.1, s2.2)))))

noncomputable def F_impl_fromDigits (p0 : (List Int)) (p1 : Int) : Option ((List Int)) :=
  bnd (run (F_impl_fromDigits_L1 p0 p1) (([] : List Int), (w64 ((p0.length : Int) - 1)))) (Out.elim (fun (s2 : (List Int) × Int) => some s2.1) (fun (r : (List Int)) => some r))


noncomputable def F_impl_valueOf (p0 : (List Int)) : Option ((List Int)) :=
  bnd (F_impl_moved p0 1) fun r1 => bnd (F_impl_reversed r1) fun r4 => bnd (F_impl_fromDigits r4 11) fun r7 => some r7


noncomputable def F_impl_checkedSquare (p0 : (List (List Int))) : Option ((List (List Int)) × Int) :=
  bnd (F_impl_isSquare p0) fun r1 => (cond (!r1) (some (([] : (List (List Int))), 5)) (some (p0, 0)))


noncomputable def F_impl_squareOf (p0 : GDomino) : Option ((List (List Int)) × Int) :=
  bnd (F_impl_basePower (p0.Top.length : Int)) fun r5 => bnd (F_impl_basePower (p0.Bottom.length : Int)) fun r7 => bnd (F_impl_valueOf p0.Top) fun r9 => bnd (F_impl_valueOf p0.Bottom) fun r11 => bnd F_impl_one fun r13 => bnd (F_impl_checkedSquare ([r5, ([] : List Int), ([] : List Int), ([] : List Int), r7, ([] : List Int), r9, r11, r13] : List (List Int))) fun r25 => some (r25.1, r25.2)

noncomputable def F_slices_Equal_Sint64_int64_L1 (p0 : (List Int)) (p1 : (List Int)) (s2 : Int) : Option ((Int) ⊕ Out (Int) Bool) :=
  (cond (decide (s2 < (p0.length : Int))) (bnd (idx p0 s2) fun y5 => bnd (idx p1 s2) fun y9 => (cond (decide (y5 ≠ y9)) (some (.inr (.ret false))) (some (.inl (w64 (s2 + 1)))))) (some (.inr (.brk s2))))

noncomputable def F_slices_Equal_Sint64_int64 (p0 : (List Int)) (p1 : (List Int)) : Option (Bool) :=
  (cond (decide ((p0.length : Int) ≠ (p1.length : Int))) (some false) (bnd (run (F_slices_Equal_Sint64_int64_L1 p0 p1) 0) (Out.elim (fun (s2 : Int) => some true) (fun (r : Bool) => some r))))

noncomputable def F_impl_WordsOfSquare_L1 (p0 : (List (List Int))) (s4 : (List Int) × (List Int)) (r35 : (List (List Int)) × Int) (s42 : Int) : Option ((Int) ⊕ Out (Int) (Option ((List Int) × (List Int) × Int))) :=
  (cond (decide (s42 < (p0.length : Int))) (bnd (idx p0 s42) fun y45 => bnd (idx r35.1 s42) fun y49 => bnd (F_slices_Equal_Sint64_int64 y45 y49) fun r53 => (cond (!r53) (some (.inr (.ret (cond (!false) (some (([] : (List Int)), ([] : (List Int)), 9)) (some (s4.1, s4.2, 0)))))) (some (.inl (w64 (s42 + 1)))))) (some (.inr (.brk s42))))

noncomputable def F_impl_WordsOfSquare (p0 : (List (List Int))) : Option ((List Int) × (List Int) × Int) :=
  bnd (F_impl_isSquare p0) fun r1 => (cond (!r1) (some (([] : (List Int)), ([] : (List Int)), 1)) (bnd (bnd (idx p0 6) fun y6 => bnd (idx p0 7) fun y10 => bnd (F_impl_wordOfValue y6) fun r17 => bnd (F_impl_wordOfValue y10) fun r20 => some (.brk (r17, r20)) : Option (Out ((List Int) × (List Int)) ((List Int) × (List Int) × Int))) (Out.elim (fun (s4 : (List Int) × (List Int)) => bnd (F_impl_validDomino (⟨s4.1, s4.2⟩ : GDomino)) fun r32 => (cond (!r32) (some (([] : (List Int)), ([] : (List Int)), 9)) (bnd (F_impl_squareOf (⟨s4.1, s4.2⟩ : GDomino)) fun r35 => (cond (decide (r35.2 ≠ 0)) (some (([] : (List Int)), ([] : (List Int)), 9)) (cond (decide ((p0.length : Int) ≠ (r35.1.length : Int))) (cond (!false) (some (([] : (List Int)), ([] : (List Int)), 9)) (some (s4.1, s4.2, 0))) (bnd (run (F_impl_WordsOfSquare_L1 p0 s4 r35) 0) (Out.elim (fun (s42 : Int) => (cond (!true) (some (([] : (List Int)), ([] : (List Int)), 9)) (some (s4.1, s4.2, 0)))) (fun (r : Option ((List Int) × (List Int) × Int)) => r)))))))) (fun (r : (List Int) × (List Int) × Int) => some r))))

noncomputable def F_laws_eqInt64S_L1 (p0 : (List Int)) (p1 : (List Int)) (s2 : Int) : Option ((Int) ⊕ Out (Int) Bool) :=
  (cond (decide (s2 < (p0.length : Int))) (bnd (idx p0 s2) fun y5 => bnd (idx p1 s2) fun y9 => (cond (decide (y5 ≠ y9)) (some (.inr (.ret false))) (some (.inl (w64 (s2 + 1)))))) (some (.inr (.brk s2))))

noncomputable def F_laws_eqInt64S (p0 : (List Int)) (p1 : (List Int)) : Option (Bool) :=
  (cond (decide ((p0.length : Int) ≠ (p1.length : Int))) (some false) (bnd (run (F_laws_eqInt64S_L1 p0 p1) 0) (Out.elim (fun (s2 : Int) => some true) (fun (r : Bool) => some r))))

noncomputable def F_laws_eqInt64SS_L1 (p0 : (List (List Int))) (p1 : (List (List Int))) (s2 : Int) : Option ((Int) ⊕ Out (Int) Bool) :=
  (cond (decide (s2 < (p0.length : Int))) (bnd (idx p0 s2) fun y5 => bnd (idx p1 s2) fun y9 => bnd (F_laws_eqInt64S y5 y9) fun r16 => (cond (!r16) (some (.inr (.ret false))) (some (.inl (w64 (s2 + 1)))))) (some (.inr (.brk s2))))

noncomputable def F_laws_eqInt64SS (p0 : (List (List Int))) (p1 : (List (List Int))) : Option (Bool) :=
  (cond (decide ((p0.length : Int) ≠ (p1.length : Int))) (some false) (bnd (run (F_laws_eqInt64SS_L1 p0 p1) 0) (Out.elim (fun (s2 : Int) => some true) (fun (r : Bool) => some r))))

noncomputable def F_laws_markInt64S_L1 (s1 : (List Int) × Int × Int) : Option (((List Int) × Int × Int) ⊕ Out ((List Int) × Int × Int) (Int × (List Int))) :=
  (cond (decide (s1.2.2 < (s1.1.length : Int))) (bnd (idx s1.1 s1.2.2) fun y4 => some (.inl ((s1.1.set s1.2.2.toNat s1.2.1), (w64 (s1.2.1 + 1)), (w64 (s1.2.2 + 1))))) (some (.inr (.brk (s1.1, s1.2.1, s1.2.2)))))

noncomputable def F_laws_markInt64S (p0 : (List Int)) (p1 : Int) : Option (Int × (List Int)) :=
  bnd (run (F_laws_markInt64S_L1) (p0, p1, 0)) (Out.elim (fun (s1 : (List Int) × Int × Int) => some (s1.2.1, s1.1)) (fun (r : Int × (List Int)) => some r))

noncomputable def F_laws_markInt64SS_L1 (s1 : (List (List Int)) × Int × Int) : Option (((List (List Int)) × Int × Int) ⊕ Out ((List (List Int)) × Int × Int) (Int × (List (List Int)))) :=
  (cond (decide (s1.2.2 < (s1.1.length : Int))) (bnd (idx s1.1 s1.2.2) fun y4 => bnd (F_laws_markInt64S y4 s1.2.1) fun r10 => some (.inl ((s1.1.set s1.2.2.toNat r10.2), r10.1, (w64 (s1.2.2 + 1))))) (some (.inr (.brk (s1.1, s1.2.1, s1.2.2)))))

noncomputable def F_laws_markInt64SS (p0 : (List (List Int))) (p1 : Int) : Option (Int × (List (List Int))) :=
  bnd (run (F_laws_markInt64SS_L1) (p0, p1, 0)) (Out.elim (fun (s1 : (List (List Int)) × Int × Int) => some (s1.2.1, s1.1)) (fun (r : Int × (List (List Int))) => some r))

noncomputable def F_laws_heldInt64S_L1 (p0 : (List Int)) (s1 : Int × Int) : Option ((Int × Int) ⊕ Out (Int × Int) Int) :=
  (cond (decide (s1.2 < (p0.length : Int))) (bnd (idx p0 s1.2) fun y4 => (cond (decide (y4 ≠ s1.1)) (some (.inr (.ret (-1)))) (some (.inl ((w64 (s1.1 + 1)), (w64 (s1.2 + 1))))))) (some (.inr (.brk (s1.1, s1.2)))))

noncomputable def F_laws_heldInt64S (p0 : (List Int)) (p1 : Int) : Option (Int) :=
  bnd (run (F_laws_heldInt64S_L1 p0) (p1, 0)) (Out.elim (fun (s1 : Int × Int) => some s1.1) (fun (r : Int) => some r))


noncomputable def F_laws_FnExactWordsOfSquare (p0 : (List (List Int))) : Option (Bool) :=
  bnd (F_laws_szInt64SS p0 1048576) fun r1 => (cond (decide (r1 < 0)) (some true) (bnd (F_laws_toInt64SS p0) fun r4 => bnd (F_spec_WordsOfSquare r4) fun r7 => bnd (F_laws_toInt64SS p0) fun r10 => bnd (F_impl_WordsOfSquare r10) fun r13 => bnd (bnd (F_laws_eqInt64S r13.1 r7.1) fun r18 => (cond (!r18) (some (.ret false)) (bnd (F_laws_eqInt64S r13.2.1 r7.2.1) fun r21 => (cond (!r21) (some (.ret false)) (cond (decide (r13.2.2 ≠ r7.2.2)) (some (.ret false)) (some (.brk ())))))) : Option (Out (Unit) Bool)) (Out.elim (fun (s16 : Unit) => bnd (F_laws_toInt64SS p0) fun r25 => bnd (F_laws_eqInt64SS r10 r25) fun r28 => (cond (!r28) (some false) (bnd (F_laws_markInt64SS r10 1) fun r31 => bnd ((cond (decide (r31.1 < 0)) (some (.ret false)) (bnd (F_laws_eqInt64S r13.1 r7.1) fun r36 => (cond (!r36) (some (.ret false)) (bnd (F_laws_eqInt64S r13.2.1 r7.2.1) fun r39 => (cond (!r39) (some (.ret false)) (cond (decide (r13.2.2 ≠ r7.2.2)) (some (.ret false)) (some (.brk ())))))))) : Option (Out (Unit) Bool)) (Out.elim (fun (s33 : Unit) => bnd (F_laws_markInt64S r13.1 1) fun r43 => bnd (F_laws_markInt64S r13.2.1 r43.1) fun r45 => bnd (F_laws_heldInt64S r43.2 1) fun r47 => (cond (decide (r47 < 0)) (some false) (bnd (F_laws_heldInt64S r45.2 r47) fun r50 => (cond (decide (r50 < 0)) (some false) (cond (decide (r50 ≠ r45.1)) (some false) (bnd (F_laws_toInt64SS p0) fun r54 => bnd (F_impl_WordsOfSquare r54) fun r57 => bnd (bnd (F_laws_eqInt64S r57.1 r7.1) fun r62 => (cond (!r62) (some (.ret false)) (bnd (F_laws_eqInt64S r57.2.1 r7.2.1) fun r65 => (cond (!r65) (some (.ret false)) (cond (decide (r57.2.2 ≠ r7.2.2)) (some (.ret false)) (some (.brk ())))))) : Option (Out (Unit) Bool)) (Out.elim (fun (s60 : Unit) => bnd (F_laws_heldInt64S r43.2 1) fun r69 => (cond (decide (r69 < 0)) (some false) (bnd (F_laws_heldInt64S r45.2 r69) fun r72 => (cond (decide (r72 < 0)) (some false) (cond (decide (r72 ≠ r45.1)) (some false) (some true)))))) (fun (r : Bool) => some r)))))))) (fun (r : Bool) => some r))))) (fun (r : Bool) => some r))))


noncomputable def F_laws_szRuleS (p0 : (List GRule)) (p1 : Int) : Option (Int) :=
  (cond (decide ((w64 (p1 - (p0.length : Int))) < 0)) (some (-1)) (some (w64 (p1 - (p0.length : Int)))))


noncomputable def F_laws_szMachine (p0 : GMachine) (p1 : Int) : Option (Int) :=
  bnd (F_laws_szRuleS p0.Rules p1) fun r2 => (cond (decide (r2 < 0)) (some (-1)) (some r2))


noncomputable def F_laws_toRule (p0 : GRule) : Option (GRule) :=
  some p0

noncomputable def F_laws_toRuleS_L1 (p0 : (List GRule)) (s4 : (List GRule) × Int) : Option (((List GRule) × Int) ⊕ Out ((List GRule) × Int) (List GRule)) :=
  (cond (decide (s4.2 < (p0.length : Int))) (bnd (idx p0 s4.2) fun y7 => bnd (F_laws_toRule y7) fun r11 => bnd (idx s4.1 s4.2) fun y13 => some (.inl ((s4.1.set s4.2.toNat r11), (w64 (s4.2 + 1))))) (some (.inr (.brk (s4.1, s4.2)))))

noncomputable def F_laws_toRuleS (p0 : (List GRule)) : Option ((List GRule)) :=
  bnd (mke (p0.length : Int) (⟨(0 : Int), (0 : Int), (0 : Int)⟩ : GRule)) fun z1 => bnd (run (F_laws_toRuleS_L1 p0) (z1, 0)) (Out.elim (fun (s4 : (List GRule) × Int) => some s4.1) (fun (r : (List GRule)) => some r))


noncomputable def F_laws_toMachine (p0 : GMachine) : Option (GMachine) :=
  bnd (F_laws_toRuleS p0.Rules) fun r4 => some (⟨p0.Symbols, p0.States, r4⟩ : GMachine)


noncomputable def F_spec_l05None : Option (GRule) :=
  some (⟨0, 0, (-1)⟩ : GRule)


noncomputable def F_spec_l05Rule (p0 : GRule) (p1 : Int) (p2 : Int) : Option (Bool) :=
  bnd F_spec_l05None fun r5 => (cond (decide (p0 = r5)) (some true) (bnd (F_spec_l00In p0.Write 0 (w64 (p1 - 1))) fun r8 => (cond r8 (cond (decide (p0.Move = 1)) (bnd (F_spec_l00In p0.Next 0 (w64 (p2 - 1))) fun r12 => some r12) (cond (decide (p0.Move = (-1))) (bnd (F_spec_l00In p0.Next 0 (w64 (p2 - 1))) fun r15 => some r15) (some false))) (some false))))

noncomputable def F_spec_l05Is_L1 (p0 : GMachine) (s31 : Int) : Option ((Int) ⊕ Out (Int) Bool) :=
  (cond (decide (s31 < (p0.Rules.length : Int))) (bnd (idx p0.Rules s31) fun y38 => bnd (F_spec_l05Rule y38 p0.Symbols p0.States) fun r49 => (cond (!r49) (some (.inr (.ret false))) (some (.inl (w64 (s31 + 1)))))) (some (.inr (.brk s31))))

noncomputable def F_spec_l05Is (p0 : GMachine) : Option (Bool) :=
  bnd (bnd (F_spec_l00In p0.Symbols 2 6) fun r8 => (cond (!r8) (some (.ret false)) (bnd (F_spec_l00In p0.States 1 1000) fun r15 => (cond (!r15) (some (.ret false)) (cond (decide ((p0.Rules.length : Int) ≠ (w64 (p0.Symbols * p0.States)))) (some (.ret false)) (some (.brk ())))))) : Option (Out (Unit) Bool)) (Out.elim (fun (s1 : Unit) => bnd (run (F_spec_l05Is_L1 p0) 0) (Out.elim (fun (s31 : Int) => some true) (fun (r : Bool) => some r))) (fun (r : Bool) => some r))


noncomputable def F_spec_l33Head (p0 : GMachine) (p1 : Int) (p2 : Int) : Option (Int) :=
  some (w64 ((w64 (p0.Symbols * (w64 (p1 + 1)))) + p2))

noncomputable def F_spec_l33Tiles_L1 (p0 : GMachine) (s7 : (List GTile) × Int) : Option (((List GTile) × Int) ⊕ Out ((List GTile) × Int) ((List GTile) × Bool)) :=
  (cond (decide (s7.2 < p0.Symbols)) (bnd (app s7.1 ([(⟨0, s7.2, 0, s7.2⟩ : GTile)] : List GTile)) fun z13 => some (.inl (z13, (w64 (s7.2 + 1))))) (some (.inr (.brk (s7.1, s7.2)))))

noncomputable def F_spec_l33Tiles_L3 (p0 : GMachine) (s16 : (List GTile) × Int) (s21 : (List GTile) × Int) : Option (((List GTile) × Int) ⊕ Out ((List GTile) × Int) ((List GTile) × Bool)) :=
  (cond (decide (s21.2 < p0.Symbols)) (bnd (idx p0.Rules (w64 ((w64 (s16.2 * p0.Symbols)) + s21.2))) fun y30 => bnd F_spec_l05None fun r41 => (cond (decide (y30 = r41)) (some (.inl (s21.1, (w64 (s21.2 + 1))))) (bnd (F_spec_l33Head p0 s16.2 s21.2) fun r47 => (cond (decide (0 < y30.Move)) (bnd (app s21.1 ([(⟨0, r47, (w64 (1 + (w64 (2 * y30.Next)))), y30.Write⟩ : GTile)] : List GTile)) fun z52 => some (.inl (z52, (w64 (s21.2 + 1))))) (bnd (app s21.1 ([(⟨(w64 (2 + (w64 (2 * y30.Next)))), r47, 0, y30.Write⟩ : GTile)] : List GTile)) fun z56 => some (.inl (z56, (w64 (s21.2 + 1))))))))) (some (.inr (.brk (s21.1, s21.2)))))

noncomputable def F_spec_l33Tiles_L2 (p0 : GMachine) (s16 : (List GTile) × Int) : Option (((List GTile) × Int) ⊕ Out ((List GTile) × Int) ((List GTile) × Bool)) :=
  (cond (decide (s16.2 < p0.States)) (bnd (run (F_spec_l33Tiles_L3 p0 s16) (s16.1, 0)) (Out.elim (fun (s21 : (List GTile) × Int) => some (.inl (s21.1, (w64 (s16.2 + 1))))) (fun (r : (List GTile) × Bool) => some (.inr (.ret r))))) (some (.inr (.brk (s16.1, s16.2)))))

noncomputable def F_spec_l33Tiles_L5 (p0 : GMachine) (s69 : (List GTile) × Int) (s74 : (List GTile) × Int) : Option (((List GTile) × Int) ⊕ Out ((List GTile) × Int) ((List GTile) × Bool)) :=
  (cond (decide (s74.2 < p0.Symbols)) (bnd (F_spec_l33Head p0 s69.2 s74.2) fun r79 => bnd (app s74.1 ([(⟨(w64 (1 + (w64 (2 * s69.2)))), s74.2, 0, r79⟩ : GTile), (⟨0, s74.2, (w64 (2 + (w64 (2 * s69.2)))), r79⟩ : GTile)] : List GTile)) fun z82 => some (.inl (z82, (w64 (s74.2 + 1))))) (some (.inr (.brk (s74.1, s74.2)))))

noncomputable def F_spec_l33Tiles_L4 (p0 : GMachine) (s69 : (List GTile) × Int) : Option (((List GTile) × Int) ⊕ Out ((List GTile) × Int) ((List GTile) × Bool)) :=
  (cond (decide (s69.2 < p0.States)) (bnd (run (F_spec_l33Tiles_L5 p0 s69) (s69.1, 0)) (Out.elim (fun (s74 : (List GTile) × Int) => some (.inl (s74.1, (w64 (s69.2 + 1))))) (fun (r : (List GTile) × Bool) => some (.inr (.ret r))))) (some (.inr (.brk (s69.1, s69.2)))))

noncomputable def F_spec_l33Tiles (p0 : GMachine) : Option ((List GTile) × Bool) :=
  (cond (decide (300 < (w64 ((w64 (2 * p0.Symbols)) * p0.States)))) (some (([] : List GTile), false)) (bnd (run (F_spec_l33Tiles_L1 p0) (([] : List GTile), 0)) (Out.elim (fun (s7 : (List GTile) × Int) => bnd (run (F_spec_l33Tiles_L2 p0) (s7.1, 0)) (Out.elim (fun (s16 : (List GTile) × Int) => bnd (run (F_spec_l33Tiles_L4 p0) (s16.1, 0)) (Out.elim (fun (s69 : (List GTile) × Int) => some (s69.1, (decide ((s69.1.length : Int) ≤ 300)))) (fun (r : (List GTile) × Bool) => some r))) (fun (r : (List GTile) × Bool) => some r))) (fun (r : (List GTile) × Bool) => some r))))

noncomputable def F_spec_l05Trim_L1 (p0 : (List Int)) (s1 : Int) : Option ((Int) ⊕ Out (Int) (List Int)) :=
  (cond (decide (0 < s1)) (bnd (idx p0 (w64 (s1 - 1))) fun y4 => (cond (decide (y4 = 0)) (some (.inl (w64 (s1 - 1)))) (some (.inr (.brk s1))))) (some (.inr (.brk s1))))

noncomputable def F_spec_l05Trim (p0 : (List Int)) : Option ((List Int)) :=
  bnd (run (F_spec_l05Trim_L1 p0) (p0.length : Int)) (Out.elim (fun (s1 : Int) => bnd (slc p0 0 s1) fun z9 => bnd (F_spec_l00Own z9) fun r12 => some r12) (fun (r : (List Int)) => some r))

noncomputable def F_spec_l33Config_L1 (p0 : GMachine) (p1 : (List Int)) (s3 : Int × (List Int) × Int × Int) : Option ((Int × (List Int) × Int × Int) ⊕ Out (Int × (List Int) × Int × Int) (GConfig × Int × Bool)) :=
  (cond (decide (s3.2.2.2 < (p1.length : Int))) (bnd (idx p1 s3.2.2.2) fun y6 => bnd (F_spec_l00In y6 0 (w64 (p0.Symbols - 1))) fun r15 => (cond r15 (bnd (idx p1 s3.2.2.2) fun y18 => bnd (app s3.2.1 ([y18] : List Int)) fun z23 => some (.inl (s3.1, z23, s3.2.2.1, (w64 (s3.2.2.2 + 1))))) (bnd ((cond (decide (0 ≤ s3.1)) (some (.ret ((⟨0, ([] : (List Int)), ([] : (List Int))⟩ : GConfig), 0, false))) (bnd (idx p1 s3.2.2.2) fun y29 => bnd (F_spec_l00In y29 p0.Symbols (w64 ((w64 (p0.Symbols * (w64 (p0.States + 1)))) - 1))) fun r42 => (cond (!r42) (some (.ret ((⟨0, ([] : (List Int)), ([] : (List Int))⟩ : GConfig), 0, false))) (some (.brk ()))))) : Option (Out (Unit) (GConfig × Int × Bool))) (Out.elim (fun (s26 : Unit) => bnd (idx p1 s3.2.2.2) fun y45 => bnd (nz p0.Symbols) fun u51 => bnd (idx p1 s3.2.2.2) fun y53 => bnd (nz p0.Symbols) fun u59 => bnd (app s3.2.1 ([(Int.tmod y53 p0.Symbols)] : List Int)) fun z65 => some (.inl (s3.2.2.2, z65, (w64 ((w64 (Int.tdiv y45 p0.Symbols)) - 1)), (w64 (s3.2.2.2 + 1))))) (fun (r : GConfig × Int × Bool) => some (.inr (.ret r))))))) (some (.inr (.brk (s3.1, s3.2.1, s3.2.2.1, s3.2.2.2)))))

noncomputable def F_spec_l33Config (p0 : GMachine) (p1 : (List Int)) : Option (GConfig × Int × Bool) :=
  bnd (run (F_spec_l33Config_L1 p0 p1) ((-1), ([] : List Int), 0, 0)) (Out.elim (fun (s3 : Int × (List Int) × Int × Int) => (cond (decide (s3.1 < 0)) (some ((⟨0, ([] : (List Int)), ([] : (List Int))⟩ : GConfig), 0, false)) (bnd (slc s3.2.1 0 s3.1) fun z69 => bnd (slc s3.2.1 s3.1 (s3.2.1.length : Int)) fun z72 => bnd (F_spec_l03Reverse z69) fun r78 => bnd (F_spec_l05Trim r78) fun r81 => bnd (F_spec_l05Trim z72) fun r84 => some ((⟨s3.2.2.1, r81, r84⟩ : GConfig), s3.1, true)))) (fun (r : GConfig × Int × Bool) => some r))


noncomputable def F_spec_l33Decode (p0 : GMachine) (p1 : (List Int)) : Option (GConfig × Int × Int) :=
  bnd ((cond (decide ((p1.length : Int) < 1)) (some (.ret ((⟨0, ([] : (List Int)), ([] : (List Int))⟩ : GConfig), 0, 2))) (cond (decide (30 < (p1.length : Int))) (some (.ret ((⟨0, ([] : (List Int)), ([] : (List Int))⟩ : GConfig), 0, 2))) (some (.brk ())))) : Option (Out (Unit) (GConfig × Int × Int))) (Out.elim (fun (s2 : Unit) => bnd (F_spec_l33Config p0 p1) fun r6 => (cond (!r6.2.2) (some ((⟨0, ([] : (List Int)), ([] : (List Int))⟩ : GConfig), 0, 9)) (some (r6.1, r6.2.1, 0)))) (fun (r : GConfig × Int × Int) => some r))

noncomputable def F_spec_l33Row_L1 (p0 : (List GTile)) (p1 : (List Int)) (p2 : (List Int)) (s3 : (List Int) × Int × Int) : Option (((List Int) × Int × Int) ⊕ Out ((List Int) × Int × Int) ((List Int) × Bool)) :=
  (cond (decide (s3.2.2 < (p2.length : Int))) (bnd (idx p2 s3.2.2) fun y6 => bnd (F_spec_l00In y6 0 (w64 ((p0.length : Int) - 1))) fun r10 => (cond (!r10) (some (.inr (.ret (([] : (List Int)), false)))) (bnd (idx p2 s3.2.2) fun y13 => bnd (idx p0 y13) fun y17 => (cond (decide (y17.Left ≠ s3.2.1)) (some (.inr (.ret (([] : (List Int)), false)))) (bnd (idx p1 s3.2.2) fun y23 => (cond (decide (y17.Bottom ≠ y23)) (some (.inr (.ret (([] : (List Int)), false)))) (bnd (app s3.1 ([y17.Top] : List Int)) fun z29 => some (.inl (z29, y17.Right, (w64 (s3.2.2 + 1))))))))))) (some (.inr (.brk (s3.1, s3.2.1, s3.2.2)))))

noncomputable def F_spec_l33Row (p0 : (List GTile)) (p1 : (List Int)) (p2 : (List Int)) : Option ((List Int) × Bool) :=
  (cond (decide ((p2.length : Int) ≠ (p1.length : Int))) (some (([] : (List Int)), false)) (bnd (run (F_spec_l33Row_L1 p0 p1 p2) (([] : List Int), 0, 0)) (Out.elim (fun (s3 : (List Int) × Int × Int) => some (s3.1, (decide (s3.2.1 = 0)))) (fun (r : (List Int) × Bool) => some r))))

noncomputable def F_spec_l33Top_L1 (p0 : (List GTile)) (p2 : (List (List Int))) (s4 : (List Int) × Int) : Option (((List Int) × Int) ⊕ Out ((List Int) × Int) ((List Int) × Bool)) :=
  (cond (decide (s4.2 < (p2.length : Int))) (bnd (idx p2 s4.2) fun y7 => bnd (F_spec_l33Row p0 s4.1 y7) fun r11 => (cond (!r11.2) (some (.inr (.ret (([] : (List Int)), false)))) (some (.inl (r11.1, (w64 (s4.2 + 1))))))) (some (.inr (.brk (s4.1, s4.2)))))

noncomputable def F_spec_l33Top (p0 : (List GTile)) (p1 : (List Int)) (p2 : (List (List Int))) : Option ((List Int) × Bool) :=
  bnd (F_spec_l00Own p1) fun r1 => bnd (run (F_spec_l33Top_L1 p0 p2) (r1, 0)) (Out.elim (fun (s4 : (List Int) × Int) => (cond (decide (0 < (p2.length : Int))) (some (s4.1, (decide ((p2.length : Int) ≤ 40)))) (some (s4.1, false)))) (fun (r : (List Int) × Bool) => some r))

noncomputable def F_spec_RunOfTiling_L1 (p0 : GMachine) (p2 : (List (List Int))) (r5 : (List GTile) × Bool) (s19 : (List GConfig) × (List Int) × Int) : Option (((List GConfig) × (List Int) × Int) ⊕ Out ((List GConfig) × (List Int) × Int) ((List GConfig) × Int)) :=
  (cond (decide (s19.2.2 < (p2.length : Int))) (bnd (idx p2 s19.2.2) fun y22 => bnd (F_spec_l33Row r5.1 s19.2.1 y22) fun r26 => bnd (F_spec_l33Config p0 r26.1) fun r29 => bnd (app s19.1 ([r29.1] : List GConfig)) fun z34 => some (.inl (z34, r26.1, (w64 (s19.2.2 + 1))))) (some (.inr (.brk (s19.1, s19.2.1, s19.2.2)))))

noncomputable def F_spec_RunOfTiling (p0 : GMachine) (p1 : (List Int)) (p2 : (List (List Int))) : Option ((List GConfig) × Int) :=
  bnd (F_spec_l05Is p0) fun r2 => (cond (!r2) (some (([] : (List GConfig)), 1)) (bnd (F_spec_l33Tiles p0) fun r5 => (cond (!r5.2) (some (([] : (List GConfig)), 5)) (bnd (F_spec_l33Decode p0 p1) fun r9 => (cond (decide (r9.2.2 ≠ 0)) (some (([] : (List GConfig)), r9.2.2)) (bnd (F_spec_l33Top r5.1 p1 p2) fun r14 => (cond (!r14.2) (some (([] : (List GConfig)), 7)) (bnd (run (F_spec_RunOfTiling_L1 p0 p2 r5) (([r9.1] : List GConfig), p1, 0)) (Out.elim (fun (s19 : (List GConfig) × (List Int) × Int) => some (s19.1, 0)) (fun (r : (List GConfig) × Int) => some r))))))))))


noncomputable def F_impl_size_impl_Rule (p0 : (List GRule)) : Option (Int) :=
  some (p0.length : Int)


noncomputable def F_impl_noRule : Option (GRule) :=
  some (⟨0, 0, (-1)⟩ : GRule)


noncomputable def F_impl_isRule (p0 : GRule) : Option (Bool) :=
  bnd F_impl_noRule fun r5 => some (!(decide (p0 = r5)))


noncomputable def F_impl_validRule (p0 : GMachine) (p1 : GRule) : Option (Bool) :=
  bnd (F_impl_isRule p1) fun r3 => (cond (!r3) (some true) (bnd (F_impl_within p1.Write 0 (w64 (p0.Symbols - 1))) fun r6 => (cond r6 (cond (decide (p1.Move = (-1))) (bnd (F_impl_within p1.Next 0 (w64 (p0.States - 1))) fun r10 => some r10) (cond (decide (p1.Move = 1)) (bnd (F_impl_within p1.Next 0 (w64 (p0.States - 1))) fun r13 => some r13) (some false))) (some false))))


noncomputable def F_impl_ValidMachine_1 (p0 : GRule) (p1 : GMachine) : Option (Bool) :=
  bnd (F_impl_validRule p1 p0) fun r3 => some (!r3)

noncomputable def F_slices_IndexFunc_Simpl_Rule_impl_Rule_L1 (p0 : (List GRule)) (p1 : (GRule → Option Bool)) (s1 : Int) : Option ((Int) ⊕ Out (Int) Int) :=
  (cond (decide (s1 < (p0.length : Int))) (bnd (idx p0 s1) fun y4 => bnd (p1 y4) fun r8 => (cond r8 (some (.inr (.ret s1))) (some (.inl (w64 (s1 + 1)))))) (some (.inr (.brk s1))))

noncomputable def F_slices_IndexFunc_Simpl_Rule_impl_Rule (p0 : (List GRule)) (p1 : (GRule → Option Bool)) : Option (Int) :=
  bnd (run (F_slices_IndexFunc_Simpl_Rule_impl_Rule_L1 p0 p1) 0) (Out.elim (fun (s1 : Int) => some (-1)) (fun (r : Int) => some r))


noncomputable def F_slices_ContainsFunc_Simpl_Rule_impl_Rule (p0 : (List GRule)) (p1 : (GRule → Option Bool)) : Option (Bool) :=
  bnd (F_slices_IndexFunc_Simpl_Rule_impl_Rule p0 p1) fun r1 => some (decide (0 ≤ r1))


noncomputable def F_impl_ValidMachine (p0 : GMachine) : Option (Bool) :=
  bnd (F_impl_within p0.Symbols 2 6) fun r5 => (cond (!r5) (some false) (bnd (F_impl_within p0.States 1 1000) fun r8 => (cond (!r8) (some false) (bnd (F_impl_size_impl_Rule p0.Rules) fun r11 => (cond (decide (r11 ≠ (w64 (p0.States * p0.Symbols)))) (some false) (bnd (F_slices_ContainsFunc_Simpl_Rule_impl_Rule p0.Rules (fun x_ => F_impl_ValidMachine_1 x_ p0)) fun r14 => some (!r14)))))))


noncomputable def F_impl_resting (p0 : Int) : Option (GTile) :=
  some (⟨0, p0, 0, p0⟩ : GTile)


noncomputable def F_impl_headColor (p0 : GMachine) (p1 : Int) (p2 : Int) : Option (Int) :=
  some (w64 ((w64 (p0.Symbols * (w64 (p1 + 1)))) + p2))


noncomputable def F_impl_passes (p0 : Int) (p1 : Int) : Option (Int) :=
  (cond (decide (p0 = 1)) (some (w64 (1 + (w64 (2 * p1))))) (some (w64 (2 + (w64 (2 * p1))))))


noncomputable def F_impl_leaving (p0 : GMachine) (p1 : Int) (p2 : Int) (p3 : GRule) : Option (GTile) :=
  bnd (F_impl_headColor p0 p1 p2) fun r7 => (cond (decide (p3.Move = 1)) (bnd (F_impl_passes 1 p3.Next) fun r11 => some (⟨0, r7, r11, p3.Write⟩ : GTile)) (bnd (F_impl_passes (-1) p3.Next) fun r13 => some (⟨r13, r7, 0, p3.Write⟩ : GTile)))


noncomputable def F_impl_coming (p0 : GMachine) (p1 : Int) (p2 : Int) (p3 : Int) : Option (GTile) :=
  bnd (F_impl_headColor p0 p2 p3) fun r3 => (cond (decide (p1 = 1)) (bnd (F_impl_passes 1 p2) fun r7 => some (⟨r7, p3, 0, r3⟩ : GTile)) (bnd (F_impl_passes (-1) p2) fun r9 => some (⟨0, p3, r9, r3⟩ : GTile)))

noncomputable def F_impl_tilesOfMachine_L1 (p0 : GMachine) (s3 : (List GTile) × Int) : Option (((List GTile) × Int) ⊕ Out ((List GTile) × Int) ((List GTile) × Int)) :=
  (cond (decide (s3.2 < p0.Symbols)) (bnd (F_impl_resting s3.2) fun r6 => bnd (app s3.1 ([r6] : List GTile)) fun z9 => some (.inl (z9, (w64 (s3.2 + 1))))) (some (.inr (.brk (s3.1, s3.2)))))

noncomputable def F_impl_tilesOfMachine_L2 (p0 : GMachine) (s12 : (List GTile) × Int) : Option (((List GTile) × Int) ⊕ Out ((List GTile) × Int) ((List GTile) × Int)) :=
  (cond (decide (s12.2 < (p0.Rules.length : Int))) (bnd (idx p0.Rules s12.2) fun y15 => bnd (F_impl_isRule y15) fun r20 => (cond r20 (bnd (nz p0.Symbols) fun u23 => bnd (nz p0.Symbols) fun u25 => bnd (F_impl_leaving p0 (w64 (Int.tdiv s12.2 p0.Symbols)) (Int.tmod s12.2 p0.Symbols) y15) fun r30 => bnd (app s12.1 ([r30] : List GTile)) fun z33 => some (.inl (z33, (w64 (s12.2 + 1))))) (some (.inl (s12.1, (w64 (s12.2 + 1))))))) (some (.inr (.brk (s12.1, s12.2)))))

noncomputable def F_impl_tilesOfMachine_L4 (p0 : GMachine) (s36 : (List GTile) × Int) (s39 : (List GTile) × Int) : Option (((List GTile) × Int) ⊕ Out ((List GTile) × Int) ((List GTile) × Int)) :=
  (cond (decide (s39.2 < p0.Symbols)) (bnd (F_impl_coming p0 1 s36.2 s39.2) fun r45 => bnd (F_impl_coming p0 (-1) s36.2 s39.2) fun r47 => bnd (app s39.1 ([r45, r47] : List GTile)) fun z50 => some (.inl (z50, (w64 (s39.2 + 1))))) (some (.inr (.brk (s39.1, s39.2)))))

noncomputable def F_impl_tilesOfMachine_L3 (p0 : GMachine) (s36 : (List GTile) × Int) : Option (((List GTile) × Int) ⊕ Out ((List GTile) × Int) ((List GTile) × Int)) :=
  (cond (decide (s36.2 < p0.States)) (bnd (run (F_impl_tilesOfMachine_L4 p0 s36) (s36.1, 0)) (Out.elim (fun (s39 : (List GTile) × Int) => some (.inl (s39.1, (w64 (s36.2 + 1))))) (fun (r : (List GTile) × Int) => some (.inr (.ret r))))) (some (.inr (.brk (s36.1, s36.2)))))

noncomputable def F_impl_tilesOfMachine (p0 : GMachine) : Option ((List GTile) × Int) :=
  bnd (run (F_impl_tilesOfMachine_L1 p0) (([] : List GTile), 0)) (Out.elim (fun (s3 : (List GTile) × Int) => bnd (run (F_impl_tilesOfMachine_L2 p0) (s3.1, 0)) (Out.elim (fun (s12 : (List GTile) × Int) => bnd (run (F_impl_tilesOfMachine_L3 p0) (s12.1, 0)) (Out.elim (fun (s36 : (List GTile) × Int) => (cond (decide (300 < (s36.1.length : Int))) (some (([] : (List GTile)), 5)) (some (s36.1, 0)))) (fun (r : (List GTile) × Int) => some r))) (fun (r : (List GTile) × Int) => some r))) (fun (r : (List GTile) × Int) => some r))


noncomputable def F_impl_size_int64 (p0 : (List Int)) : Option (Int) :=
  some (p0.length : Int)


noncomputable def F_impl_configOfRow_1 (p0 : Int) (p1 : GMachine) : Option (Bool) :=
  some (decide (p1.Symbols ≤ p0))

noncomputable def F_slices_IndexFunc_Sint64_int64_L1 (p0 : (List Int)) (p1 : (Int → Option Bool)) (s1 : Int) : Option ((Int) ⊕ Out (Int) Int) :=
  (cond (decide (s1 < (p0.length : Int))) (bnd (idx p0 s1) fun y4 => bnd (p1 y4) fun r8 => (cond r8 (some (.inr (.ret s1))) (some (.inl (w64 (s1 + 1)))))) (some (.inr (.brk s1))))

noncomputable def F_slices_IndexFunc_Sint64_int64 (p0 : (List Int)) (p1 : (Int → Option Bool)) : Option (Int) :=
  bnd (run (F_slices_IndexFunc_Sint64_int64_L1 p0 p1) 0) (Out.elim (fun (s1 : Int) => some (-1)) (fun (r : Int) => some r))


noncomputable def F_impl_configOfRow (p0 : GMachine) (p1 : (List Int)) : Option (GConfig × Int × Int) :=
  bnd (F_slices_IndexFunc_Sint64_int64 p1 (fun x_ => F_impl_configOfRow_1 x_ p0)) fun r3 => bnd ((cond (decide (r3 < 0)) (some (.ret ((⟨0, ([] : (List Int)), ([] : (List Int))⟩ : GConfig), 0, 9))) (bnd (idx p1 r3) fun y8 => (cond (decide ((w64 (p0.Symbols * (w64 (p0.States + 1)))) ≤ y8)) (some (.ret ((⟨0, ([] : (List Int)), ([] : (List Int))⟩ : GConfig), 0, 9))) (some (.brk ()))))) : Option (Out (Unit) (GConfig × Int × Int))) (Out.elim (fun (s5 : Unit) => bnd (F_slices_Clone_Sint64_int64 p1) fun r13 => bnd (idx p1 r3) fun y16 => bnd (nz p0.Symbols) fun u20 => bnd (idx r13 r3) fun y22 => bnd (F_impl_allWithin (r13.set r3.toNat (Int.tmod y16 p0.Symbols)) 0 (w64 (p0.Symbols - 1))) fun r29 => (cond (!r29) (some ((⟨0, ([] : (List Int)), ([] : (List Int))⟩ : GConfig), 0, 9)) (bnd (idx p1 r3) fun y32 => bnd (nz p0.Symbols) fun u36 => bnd (slc (r13.set r3.toNat (Int.tmod y16 p0.Symbols)) 0 r3) fun z38 => bnd (slc (r13.set r3.toNat (Int.tmod y16 p0.Symbols)) r3 ((r13.set r3.toNat (Int.tmod y16 p0.Symbols)).length : Int)) fun z41 => bnd (F_impl_reversed z38) fun r47 => bnd (F_impl_trimmed r47) fun r50 => bnd (F_slices_Clone_Sint64_int64 z41) fun r53 => bnd (F_impl_trimmed r53) fun r56 => some ((⟨(w64 ((w64 (Int.tdiv y32 p0.Symbols)) - 1)), r50, r56⟩ : GConfig), r3, 0)))) (fun (r : GConfig × Int × Int) => some r))


noncomputable def F_impl_ConfigOfRow (p0 : GMachine) (p1 : (List Int)) : Option (GConfig × Int × Int) :=
  bnd (F_impl_ValidMachine p0) fun r3 => (cond (!r3) (some ((⟨0, ([] : (List Int)), ([] : (List Int))⟩ : GConfig), 0, 1)) (bnd (F_impl_size_int64 p1) fun r6 => bnd (F_impl_within r6 1 30) fun r8 => (cond (!r8) (some ((⟨0, ([] : (List Int)), ([] : (List Int))⟩ : GConfig), 0, 2)) (bnd (F_impl_configOfRow p0 p1) fun r11 => some (r11.1, r11.2.1, r11.2.2)))))


noncomputable def F_impl_size_Sint64 (p0 : (List (List Int))) : Option (Int) :=
  some (p0.length : Int)


noncomputable def F_impl_size_impl_Tile (p0 : (List GTile)) : Option (Int) :=
  some (p0.length : Int)


noncomputable def F_impl_fitsAt (p0 : GTile) (p1 : Int) (p2 : Int) (p3 : Bool) : Option (Bool) :=
  (cond (decide (p0.Left = p1)) (cond (decide (p0.Bottom = p2)) (cond (!p3) (some true) (some (decide (p0.Right = 0)))) (some false)) (some false))

noncomputable def F_impl_topsOf_L2 (p0 : (List GTile)) (s7 : (List (List Int)) × (List Int) × Int) (y10 : (List Int)) (s23 : Int × (List Int) × Int) : Option ((Int × (List Int) × Int) ⊕ Out (Int × (List Int) × Int) ((List (List Int)) × Bool)) :=
  (cond (decide (s23.2.2 < (y10.length : Int))) (bnd (idx y10 s23.2.2) fun y26 => bnd (idx p0 y26) fun y30 => bnd (idx s7.2.1 s23.2.2) fun y35 => bnd (F_impl_fitsAt y30 s23.1 y35 (decide (s23.2.2 = (w64 ((y10.length : Int) - 1))))) fun r42 => (cond (!r42) (some (.inr (.ret (([] : (List (List Int))), false)))) (bnd (app s23.2.1 ([y30.Top] : List Int)) fun z49 => some (.inl (y30.Right, z49, (w64 (s23.2.2 + 1))))))) (some (.inr (.brk (s23.1, s23.2.1, s23.2.2)))))

noncomputable def F_impl_topsOf_L1 (p0 : (List GTile)) (p1 : (List Int)) (p2 : (List (List Int))) (s7 : (List (List Int)) × (List Int) × Int) : Option (((List (List Int)) × (List Int) × Int) ⊕ Out ((List (List Int)) × (List Int) × Int) ((List (List Int)) × Bool)) :=
  (cond (decide (s7.2.2 < (p2.length : Int))) (bnd (idx p2 s7.2.2) fun y10 => bnd ((cond (decide ((y10.length : Int) ≠ (p1.length : Int))) (some (.ret (([] : (List (List Int))), false))) (bnd (F_impl_size_impl_Tile p0) fun r17 => bnd (F_impl_allWithin y10 0 (w64 (r17 - 1))) fun r19 => (cond (!r19) (some (.ret (([] : (List (List Int))), false))) (some (.brk ()))))) : Option (Out (Unit) ((List (List Int)) × Bool))) (Out.elim (fun (s14 : Unit) => bnd (run (F_impl_topsOf_L2 p0 s7 y10) (0, ([] : List Int), 0)) (Out.elim (fun (s23 : Int × (List Int) × Int) => bnd (app s7.1 ([s23.2.1] : List (List Int))) fun z53 => some (.inl (z53, s23.2.1, (w64 (s7.2.2 + 1))))) (fun (r : (List (List Int)) × Bool) => some (.inr (.ret r))))) (fun (r : (List (List Int)) × Bool) => some (.inr (.ret r))))) (some (.inr (.brk (s7.1, s7.2.1, s7.2.2)))))

noncomputable def F_impl_topsOf (p0 : (List GTile)) (p1 : (List Int)) (p2 : (List (List Int))) : Option ((List (List Int)) × Bool) :=
  bnd (F_impl_size_Sint64 p2) fun r1 => bnd (F_impl_within r1 1 40) fun r3 => (cond (!r3) (some (([] : (List (List Int))), false)) (bnd (run (F_impl_topsOf_L1 p0 p1 p2) (([] : List (List Int)), p1, 0)) (Out.elim (fun (s7 : (List (List Int)) × (List Int) × Int) => some (s7.1, true)) (fun (r : (List (List Int)) × Bool) => some r))))

noncomputable def F_impl_RunOfTiling_L1 (p0 : GMachine) (r14 : (List (List Int)) × Bool) (s19 : (List GConfig) × Int) : Option (((List GConfig) × Int) ⊕ Out ((List GConfig) × Int) ((List GConfig) × Int)) :=
  (cond (decide (s19.2 < (r14.1.length : Int))) (bnd (idx r14.1 s19.2) fun y22 => bnd (F_impl_configOfRow p0 y22) fun r27 => (cond (decide (r27.2.2 ≠ 0)) (some (.inr (.ret (([] : (List GConfig)), 7)))) (bnd (app s19.1 ([r27.1] : List GConfig)) fun z33 => some (.inl (z33, (w64 (s19.2 + 1))))))) (some (.inr (.brk (s19.1, s19.2)))))

noncomputable def F_impl_RunOfTiling (p0 : GMachine) (p1 : (List Int)) (p2 : (List (List Int))) : Option ((List GConfig) × Int) :=
  bnd (F_impl_ValidMachine p0) fun r2 => (cond (!r2) (some (([] : (List GConfig)), 1)) (bnd (F_impl_tilesOfMachine p0) fun r5 => (cond (decide (r5.2 ≠ 0)) (some (([] : (List GConfig)), r5.2)) (bnd (F_impl_ConfigOfRow p0 p1) fun r9 => (cond (decide (r9.2.2 ≠ 0)) (some (([] : (List GConfig)), r9.2.2)) (bnd (F_impl_topsOf r5.1 p1 p2) fun r14 => (cond (!r14.2) (some (([] : (List GConfig)), 7)) (bnd (run (F_impl_RunOfTiling_L1 p0 r14) (([r9.1] : List GConfig), 0)) (Out.elim (fun (s19 : (List GConfig) × Int) => some (s19.1, 0)) (fun (r : (List GConfig) × Int) => some r))))))))))


noncomputable def F_laws_eqConfig (p0 : GConfig) (p1 : GConfig) : Option (Bool) :=
  (cond (decide (p0.State ≠ p1.State)) (some false) (bnd (F_laws_eqInt64S p0.Left p1.Left) fun r4 => (cond (!r4) (some false) (bnd (F_laws_eqInt64S p0.Right p1.Right) fun r7 => (cond (!r7) (some false) (some true))))))

noncomputable def F_laws_eqConfigS_L1 (p0 : (List GConfig)) (p1 : (List GConfig)) (s2 : Int) : Option ((Int) ⊕ Out (Int) Bool) :=
  (cond (decide (s2 < (p0.length : Int))) (bnd (idx p0 s2) fun y5 => bnd (idx p1 s2) fun y9 => bnd (F_laws_eqConfig y5 y9) fun r16 => (cond (!r16) (some (.inr (.ret false))) (some (.inl (w64 (s2 + 1)))))) (some (.inr (.brk s2))))

noncomputable def F_laws_eqConfigS (p0 : (List GConfig)) (p1 : (List GConfig)) : Option (Bool) :=
  (cond (decide ((p0.length : Int) ≠ (p1.length : Int))) (some false) (bnd (run (F_laws_eqConfigS_L1 p0 p1) 0) (Out.elim (fun (s2 : Int) => some true) (fun (r : Bool) => some r))))


noncomputable def F_laws_eqRule (p0 : GRule) (p1 : GRule) : Option (Bool) :=
  (cond (decide (p0.Write ≠ p1.Write)) (some false) (cond (decide (p0.Move ≠ p1.Move)) (some false) (cond (decide (p0.Next ≠ p1.Next)) (some false) (some true))))

noncomputable def F_laws_eqRuleS_L1 (p0 : (List GRule)) (p1 : (List GRule)) (s2 : Int) : Option ((Int) ⊕ Out (Int) Bool) :=
  (cond (decide (s2 < (p0.length : Int))) (bnd (idx p0 s2) fun y5 => bnd (idx p1 s2) fun y9 => bnd (F_laws_eqRule y5 y9) fun r16 => (cond (!r16) (some (.inr (.ret false))) (some (.inl (w64 (s2 + 1)))))) (some (.inr (.brk s2))))

noncomputable def F_laws_eqRuleS (p0 : (List GRule)) (p1 : (List GRule)) : Option (Bool) :=
  (cond (decide ((p0.length : Int) ≠ (p1.length : Int))) (some false) (bnd (run (F_laws_eqRuleS_L1 p0 p1) 0) (Out.elim (fun (s2 : Int) => some true) (fun (r : Bool) => some r))))


noncomputable def F_laws_eqMachine (p0 : GMachine) (p1 : GMachine) : Option (Bool) :=
  (cond (decide (p0.Symbols ≠ p1.Symbols)) (some false) (cond (decide (p0.States ≠ p1.States)) (some false) (bnd (F_laws_eqRuleS p0.Rules p1.Rules) fun r5 => (cond (!r5) (some false) (some true)))))

noncomputable def F_laws_markRuleS_L1 (s1 : (List GRule) × Int × Int) : Option (((List GRule) × Int × Int) ⊕ Out ((List GRule) × Int × Int) (Int × (List GRule))) :=
  (cond (decide (s1.2.2 < (s1.1.length : Int))) (bnd (idx s1.1 s1.2.2) fun y4 => bnd (idx (s1.1.set s1.2.2.toNat (⟨s1.2.1, y4.Move, y4.Next⟩ : GRule)) s1.2.2) fun y9 => bnd (idx ((s1.1.set s1.2.2.toNat (⟨s1.2.1, y4.Move, y4.Next⟩ : GRule)).set s1.2.2.toNat (⟨y9.Write, (w64 (s1.2.1 + 1)), y9.Next⟩ : GRule)) s1.2.2) fun y11 => some (.inl ((((s1.1.set s1.2.2.toNat (⟨s1.2.1, y4.Move, y4.Next⟩ : GRule)).set s1.2.2.toNat (⟨y9.Write, (w64 (s1.2.1 + 1)), y9.Next⟩ : GRule)).set s1.2.2.toNat (⟨y11.Write, y11.Move, (w64 ((w64 (s1.2.1 + 1)) + 1))⟩ : GRule)), (w64 ((w64 ((w64 (s1.2.1 + 1)) + 1)) + 1)), (w64 (s1.2.2 + 1))))) (some (.inr (.brk (s1.1, s1.2.1, s1.2.2)))))

noncomputable def F_laws_markRuleS (p0 : (List GRule)) (p1 : Int) : Option (Int × (List GRule)) :=
  bnd (run (F_laws_markRuleS_L1) (p0, p1, 0)) (Out.elim (fun (s1 : (List GRule) × Int × Int) => some (s1.2.1, s1.1)) (fun (r : Int × (List GRule)) => some r))

noncomputable def F_laws_markConfigS_L1 (s1 : (List GConfig) × Int × Int) : Option (((List GConfig) × Int × Int) ⊕ Out ((List GConfig) × Int × Int) (Int × (List GConfig))) :=
  (cond (decide (s1.2.2 < (s1.1.length : Int))) (bnd (idx s1.1 s1.2.2) fun y4 => bnd (idx (s1.1.set s1.2.2.toNat (⟨s1.2.1, y4.Left, y4.Right⟩ : GConfig)) s1.2.2) fun y9 => bnd (F_laws_markInt64S y9.Left (w64 (s1.2.1 + 1))) fun r12 => bnd (idx ((s1.1.set s1.2.2.toNat (⟨s1.2.1, y4.Left, y4.Right⟩ : GConfig)).set s1.2.2.toNat (⟨y9.State, r12.2, y9.Right⟩ : GConfig)) s1.2.2) fun y14 => bnd (F_laws_markInt64S y14.Right r12.1) fun r17 => some (.inl ((((s1.1.set s1.2.2.toNat (⟨s1.2.1, y4.Left, y4.Right⟩ : GConfig)).set s1.2.2.toNat (⟨y9.State, r12.2, y9.Right⟩ : GConfig)).set s1.2.2.toNat (⟨y14.State, y14.Left, r17.2⟩ : GConfig)), r17.1, (w64 (s1.2.2 + 1))))) (some (.inr (.brk (s1.1, s1.2.1, s1.2.2)))))

noncomputable def F_laws_markConfigS (p0 : (List GConfig)) (p1 : Int) : Option (Int × (List GConfig)) :=
  bnd (run (F_laws_markConfigS_L1) (p0, p1, 0)) (Out.elim (fun (s1 : (List GConfig) × Int × Int) => some (s1.2.1, s1.1)) (fun (r : Int × (List GConfig)) => some r))

noncomputable def F_laws_heldConfigS_L1 (p0 : (List GConfig)) (s1 : Int × Int) : Option ((Int × Int) ⊕ Out (Int × Int) Int) :=
  (cond (decide (s1.2 < (p0.length : Int))) (bnd (idx p0 s1.2) fun y4 => (cond (decide (y4.State ≠ s1.1)) (some (.inr (.ret (-1)))) (bnd (idx p0 s1.2) fun y10 => bnd (F_laws_heldInt64S y10.Left (w64 (s1.1 + 1))) fun r15 => (cond (decide (r15 < 0)) (some (.inr (.ret (-1)))) (bnd (idx p0 s1.2) fun y18 => bnd (F_laws_heldInt64S y18.Right r15) fun r23 => (cond (decide (r23 < 0)) (some (.inr (.ret (-1)))) (some (.inl (r23, (w64 (s1.2 + 1))))))))))) (some (.inr (.brk (s1.1, s1.2)))))

noncomputable def F_laws_heldConfigS (p0 : (List GConfig)) (p1 : Int) : Option (Int) :=
  bnd (run (F_laws_heldConfigS_L1 p0) (p1, 0)) (Out.elim (fun (s1 : Int × Int) => some s1.1) (fun (r : Int) => some r))


noncomputable def F_laws_FnExactRunOfTiling (p0 : GMachine) (p1 : (List Int)) (p2 : (List (List Int))) : Option (Bool) :=
  (cond (decide (1048576 < (p1.length : Int))) (some true) (bnd (F_laws_szMachine p0 1048576) fun r3 => (cond (decide (r3 < 0)) (some true) (bnd (F_laws_szInt64SS p2 r3) fun r6 => (cond (decide (r6 < 0)) (some true) (bnd (F_laws_toMachine p0) fun r9 => bnd (F_laws_toInt64S p1) fun r12 => bnd (F_laws_toInt64SS p2) fun r15 => bnd (F_spec_RunOfTiling r9 r12 r15) fun r18 => bnd (F_laws_toMachine p0) fun r21 => bnd (F_laws_toInt64S p1) fun r25 => bnd (F_laws_toInt64SS p2) fun r28 => bnd (F_impl_RunOfTiling r21 r25 r28) fun r31 => bnd (bnd (F_laws_eqConfigS r31.1 r18.1) fun r36 => (cond (!r36) (some (.ret false)) (cond (decide (r31.2 ≠ r18.2)) (some (.ret false)) (some (.brk ())))) : Option (Out (Unit) Bool)) (Out.elim (fun (s34 : Unit) => bnd (F_laws_toMachine p0) fun r43 => bnd (F_laws_eqMachine r21 r43) fun r46 => (cond (!r46) (some false) (bnd (F_laws_toInt64S p1) fun r49 => bnd (F_laws_eqInt64S r25 r49) fun r52 => (cond (!r52) (some false) (bnd (F_laws_toInt64SS p2) fun r55 => bnd (F_laws_eqInt64SS r28 r55) fun r58 => (cond (!r58) (some false) (bnd (F_laws_markRuleS r21.Rules 1) fun r63 => bnd (F_laws_markInt64S r25 r63.1) fun r65 => bnd (F_laws_markInt64SS r28 r65.1) fun r67 => bnd ((cond (decide (r67.1 < 0)) (some (.ret false)) (bnd (F_laws_eqConfigS r31.1 r18.1) fun r72 => (cond (!r72) (some (.ret false)) (cond (decide (r31.2 ≠ r18.2)) (some (.ret false)) (some (.brk ())))))) : Option (Out (Unit) Bool)) (Out.elim (fun (s69 : Unit) => bnd (F_laws_markConfigS r31.1 1) fun r76 => bnd (F_laws_heldConfigS r76.2 1) fun r78 => (cond (decide (r78 < 0)) (some false) (cond (decide (r78 ≠ r76.1)) (some false) (bnd (F_laws_toMachine p0) fun r82 => bnd (F_laws_toInt64S p1) fun r85 => bnd (F_laws_toInt64SS p2) fun r88 => bnd (F_impl_RunOfTiling r82 r85 r88) fun r91 => bnd (F_laws_eqConfigS r91.1 r18.1) fun r94 => (cond (!r94) (some false) (cond (decide (r91.2 ≠ r18.2)) (some false) (bnd (F_laws_heldConfigS r76.2 1) fun r98 => (cond (decide (r98 < 0)) (some false) (cond (decide (r98 ≠ r76.1)) (some false) (some true)))))))))) (fun (r : Bool) => some r))))))))) (fun (r : Bool) => some r))))))))

end Go.Fn
