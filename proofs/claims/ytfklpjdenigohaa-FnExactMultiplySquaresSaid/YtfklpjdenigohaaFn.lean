/-
  What each function of the program computes, as a plain Lean function: printed by program off the translation. No condition.
-/
import Derived.Test.YtfklpjdenigohaaTy
namespace Go.Fn
open Go Go.Tc
set_option linter.unusedVariables false

noncomputable def F_laws_szInt64S (p0 : (List Int)) (p1 : Int) : Option (Int) :=
  (cond (decide ((w64 (p1 - (p0.length : Int))) < 0)) (some (-1)) (some (w64 (p1 - (p0.length : Int)))))

noncomputable def F_laws_szInt64SS_L1 (p0 : (List (List Int))) (s2 : Int × Int) : Option ((Int × Int) ⊕ Out (Int × Int) Int) :=
  (cond (decide (s2.2 < (p0.length : Int))) (bnd (idx p0 s2.2) fun y5 => bnd (F_laws_szInt64S y5 s2.1) fun r9 => (cond (decide (r9 < 0)) (some (.inr (.ret (-1)))) (some (.inl (r9, (w64 (s2.2 + 1))))))) (some (.inr (.brk (s2.1, s2.2)))))

noncomputable def F_laws_szInt64SS (p0 : (List (List Int))) (p1 : Int) : Option (Int) :=
  (cond (decide ((w64 (p1 - (p0.length : Int))) < 0)) (some (-1)) (bnd (run (F_laws_szInt64SS_L1 p0) ((w64 (p1 - (p0.length : Int))), 0)) (Out.elim (fun (s2 : Int × Int) => some s2.1) (fun (r : Int) => some r))))

noncomputable def F_laws_toInt64S_L1 (p0 : (List Int)) (s4 : (List Int) × Int) : Option (((List Int) × Int) ⊕ Out ((List Int) × Int) (List Int)) :=
  (cond (decide (s4.2 < (p0.length : Int))) (bnd (idx p0 s4.2) fun y7 => bnd (idx s4.1 s4.2) fun y11 => some (.inl ((s4.1.set s4.2.toNat y7), (w64 (s4.2 + 1))))) (some (.inr (.brk (s4.1, s4.2)))))

noncomputable def F_laws_toInt64S (p0 : (List Int)) : Option ((List Int)) :=
  bnd (mke (p0.length : Int) (0 : Int)) fun z1 => bnd (run (F_laws_toInt64S_L1 p0) (z1, 0)) (Out.elim (fun (s4 : (List Int) × Int) => some s4.1) (fun (r : (List Int)) => some r))

noncomputable def F_laws_toInt64SS_L1 (p0 : (List (List Int))) (s4 : (List (List Int)) × Int) : Option (((List (List Int)) × Int) ⊕ Out ((List (List Int)) × Int) (List (List Int))) :=
  (cond (decide (s4.2 < (p0.length : Int))) (bnd (idx p0 s4.2) fun y7 => bnd (F_laws_toInt64S y7) fun r11 => bnd (idx s4.1 s4.2) fun y14 => some (.inl ((s4.1.set s4.2.toNat r11), (w64 (s4.2 + 1))))) (some (.inr (.brk (s4.1, s4.2)))))

noncomputable def F_laws_toInt64SS (p0 : (List (List Int))) : Option ((List (List Int))) :=
  bnd (mke (p0.length : Int) ([] : (List Int))) fun z1 => bnd (run (F_laws_toInt64SS_L1 p0) (z1, 0)) (Out.elim (fun (s4 : (List (List Int)) × Int) => some s4.1) (fun (r : (List (List Int))) => some r))


noncomputable def F_spec_l00In (p0 : Int) (p1 : Int) (p2 : Int) : Option (Bool) :=
  (cond (decide (p1 ≤ p0)) (some (decide (p0 ≤ p2))) (some false))

noncomputable def F_spec_l02Is_L1 (p0 : (List Int)) (s2 : Int) : Option ((Int) ⊕ Out (Int) Bool) :=
  (cond (decide (s2 < (p0.length : Int))) (bnd (idx p0 s2) fun y5 => bnd (F_spec_l00In y5 0 999999) fun r9 => (cond (!r9) (some (.inr (.ret false))) (some (.inl (w64 (s2 + 1)))))) (some (.inr (.brk s2))))

noncomputable def F_spec_l02Is (p0 : (List Int)) : Option (Bool) :=
  (cond (decide (40 < (p0.length : Int))) (some false) (bnd (run (F_spec_l02Is_L1 p0) 0) (Out.elim (fun (s2 : Int) => (cond (decide ((p0.length : Int) = 0)) (some true) (bnd (idx p0 (w64 ((p0.length : Int) - 1))) fun y13 => some (decide (y13 ≠ 0))))) (fun (r : Bool) => some r))))

noncomputable def F_spec_l33Matrix_L1 (p0 : (List (List Int))) (s1 : Int) : Option ((Int) ⊕ Out (Int) Bool) :=
  (cond (decide (s1 < (p0.length : Int))) (bnd (idx p0 s1) fun y4 => bnd (F_spec_l02Is y4) fun r8 => (cond (!r8) (some (.inr (.ret false))) (some (.inl (w64 (s1 + 1)))))) (some (.inr (.brk s1))))

noncomputable def F_spec_l33Matrix (p0 : (List (List Int))) : Option (Bool) :=
  bnd (run (F_spec_l33Matrix_L1 p0) 0) (Out.elim (fun (s1 : Int) => some (decide ((p0.length : Int) = 9))) (fun (r : Bool) => some r))

noncomputable def F_spec_l02Trim_L1 (p0 : (List Int)) (s1 : Int) : Option ((Int) ⊕ Out (Int) (List Int)) :=
  (cond (decide (0 < s1)) (bnd (idx p0 (w64 (s1 - 1))) fun y4 => (cond (decide (y4 = 0)) (some (.inl (w64 (s1 - 1)))) (some (.inr (.brk s1))))) (some (.inr (.brk s1))))

noncomputable def F_spec_l02Trim (p0 : (List Int)) : Option ((List Int)) :=
  bnd (run (F_spec_l02Trim_L1 p0) (p0.length : Int)) (Out.elim (fun (s1 : Int) => bnd (slc p0 0 s1) fun z9 => some z9) (fun (r : (List Int)) => some r))

noncomputable def F_spec_l02Mul_L2 (p0 : (List Int)) (p1 : (List Int)) (s4 : (List Int) × Int) (s7 : (List Int) × Int × Int) : Option (((List Int) × Int × Int) ⊕ Out ((List Int) × Int × Int) (List Int)) :=
  bnd ((cond (decide (s7.2.2 < (p1.length : Int))) (some (.brk true)) (some (.brk (decide (0 < s7.2.1))))) : Option (Out (Bool) (List Int))) (Out.elim (fun (s9 : Bool) => (cond s9 (bnd (idx s7.1 (w64 (s4.2 + s7.2.2))) fun y13 => (cond (decide (s7.2.2 < (p1.length : Int))) (bnd (idx p0 s4.2) fun y17 => bnd (idx p1 s7.2.2) fun y21 => bnd (idx s7.1 (w64 (s4.2 + s7.2.2))) fun y25 => some (.inl ((s7.1.set (w64 (s4.2 + s7.2.2)).toNat (Int.tmod (w64 ((w64 (y13 + s7.2.1)) + (w64 (y17 * y21)))) 1000000)), (w64 (Int.tdiv (w64 ((w64 (y13 + s7.2.1)) + (w64 (y17 * y21)))) 1000000)), (w64 (s7.2.2 + 1))))) (bnd (idx s7.1 (w64 (s4.2 + s7.2.2))) fun y27 => some (.inl ((s7.1.set (w64 (s4.2 + s7.2.2)).toNat (Int.tmod (w64 (y13 + s7.2.1)) 1000000)), (w64 (Int.tdiv (w64 (y13 + s7.2.1)) 1000000)), (w64 (s7.2.2 + 1))))))) (some (.inr (.brk (s7.1, s7.2.1, s7.2.2)))))) (fun (r : (List Int)) => some (.inr (.ret r))))

noncomputable def F_spec_l02Mul_L1 (p0 : (List Int)) (p1 : (List Int)) (s4 : (List Int) × Int) : Option (((List Int) × Int) ⊕ Out ((List Int) × Int) (List Int)) :=
  (cond (decide (s4.2 < (p0.length : Int))) (bnd (run (F_spec_l02Mul_L2 p0 p1 s4) (s4.1, 0, 0)) (Out.elim (fun (s7 : (List Int) × Int × Int) => some (.inl (s7.1, (w64 (s4.2 + 1))))) (fun (r : (List Int)) => some (.inr (.ret r))))) (some (.inr (.brk (s4.1, s4.2)))))

noncomputable def F_spec_l02Mul (p0 : (List Int)) (p1 : (List Int)) : Option ((List Int)) :=
  bnd (mke (w64 ((w64 ((p0.length : Int) + (p1.length : Int))) + 1)) (0 : Int)) fun z1 => bnd (run (F_spec_l02Mul_L1 p0 p1) (z1, 0)) (Out.elim (fun (s4 : (List Int) × Int) => bnd (F_spec_l02Trim s4.1) fun r29 => some r29) (fun (r : (List Int)) => some r))

noncomputable def F_spec_l02Add_L1 (p0 : (List Int)) (p1 : (List Int)) (s2 : (List Int) × Int × Int) : Option (((List Int) × Int × Int) ⊕ Out ((List Int) × Int × Int) (List Int)) :=
  bnd ((cond (decide (s2.2.2 < (p0.length : Int))) (some (.brk true)) (cond (decide (s2.2.2 < (p1.length : Int))) (some (.brk true)) (some (.brk (decide (0 < s2.2.1)))))) : Option (Out (Bool) (List Int))) (Out.elim (fun (s4 : Bool) => (cond s4 (bnd ((cond (decide (s2.2.2 < (p0.length : Int))) (bnd (idx p0 s2.2.2) fun y12 => some (.brk (w64 (s2.2.1 + y12)))) (some (.brk s2.2.1))) : Option (Out (Int) (List Int))) (Out.elim (fun (s9 : Int) => (cond (decide (s2.2.2 < (p1.length : Int))) (bnd (idx p1 s2.2.2) fun y17 => bnd (app s2.1 ([(Int.tmod (w64 (s9 + y17)) 1000000)] : List Int)) fun z22 => some (.inl (z22, (w64 (Int.tdiv (w64 (s9 + y17)) 1000000)), (w64 (s2.2.2 + 1))))) (bnd (app s2.1 ([(Int.tmod s9 1000000)] : List Int)) fun z26 => some (.inl (z26, (w64 (Int.tdiv s9 1000000)), (w64 (s2.2.2 + 1))))))) (fun (r : (List Int)) => some (.inr (.ret r))))) (some (.inr (.brk (s2.1, s2.2.1, s2.2.2)))))) (fun (r : (List Int)) => some (.inr (.ret r))))

noncomputable def F_spec_l02Add (p0 : (List Int)) (p1 : (List Int)) : Option ((List Int)) :=
  bnd (run (F_spec_l02Add_L1 p0 p1) (([] : List Int), 0, 0)) (Out.elim (fun (s2 : (List Int) × Int × Int) => some s2.1) (fun (r : (List Int)) => some r))

noncomputable def F_spec_l33Multiply_L3 (p0 : (List (List Int))) (p1 : (List (List Int))) (s2 : (List (List Int)) × Int) (s5 : (List (List Int)) × Int) (s9 : (List Int) × Int) : Option (((List Int) × Int) ⊕ Out ((List Int) × Int) (List (List Int))) :=
  (cond (decide (s9.2 < 3)) (bnd (idx p0 (w64 ((w64 (3 * s2.2)) + s9.2))) fun y12 => bnd (idx p1 (w64 ((w64 (3 * s9.2)) + s5.2))) fun y16 => bnd (F_spec_l02Mul y12 y16) fun r23 => bnd (F_spec_l02Add s9.1 r23) fun r26 => bnd (F_spec_l02Trim r26) fun r29 => some (.inl (r29, (w64 (s9.2 + 1))))) (some (.inr (.brk (s9.1, s9.2)))))

noncomputable def F_spec_l33Multiply_L2 (p0 : (List (List Int))) (p1 : (List (List Int))) (s2 : (List (List Int)) × Int) (s5 : (List (List Int)) × Int) : Option (((List (List Int)) × Int) ⊕ Out ((List (List Int)) × Int) (List (List Int))) :=
  (cond (decide (s5.2 < 3)) (bnd (run (F_spec_l33Multiply_L3 p0 p1 s2 s5) (([] : List Int), 0)) (Out.elim (fun (s9 : (List Int) × Int) => bnd (app s5.1 ([s9.1] : List (List Int))) fun z33 => some (.inl (z33, (w64 (s5.2 + 1))))) (fun (r : (List (List Int))) => some (.inr (.ret r))))) (some (.inr (.brk (s5.1, s5.2)))))

noncomputable def F_spec_l33Multiply_L1 (p0 : (List (List Int))) (p1 : (List (List Int))) (s2 : (List (List Int)) × Int) : Option (((List (List Int)) × Int) ⊕ Out ((List (List Int)) × Int) (List (List Int))) :=
  (cond (decide (s2.2 < 3)) (bnd (run (F_spec_l33Multiply_L2 p0 p1 s2) (s2.1, 0)) (Out.elim (fun (s5 : (List (List Int)) × Int) => some (.inl (s5.1, (w64 (s2.2 + 1))))) (fun (r : (List (List Int))) => some (.inr (.ret r))))) (some (.inr (.brk (s2.1, s2.2)))))

noncomputable def F_spec_l33Multiply (p0 : (List (List Int))) (p1 : (List (List Int))) : Option ((List (List Int))) :=
  bnd (run (F_spec_l33Multiply_L1 p0 p1) (([] : List (List Int)), 0)) (Out.elim (fun (s2 : (List (List Int)) × Int) => some s2.1) (fun (r : (List (List Int))) => some r))

noncomputable def F_spec_l33Fits_L1 (p0 : (List (List Int))) (s1 : Int) : Option ((Int) ⊕ Out (Int) Bool) :=
  (cond (decide (s1 < (p0.length : Int))) (bnd (idx p0 s1) fun y4 => (cond (decide (40 < (y4.length : Int))) (some (.inr (.ret false))) (some (.inl (w64 (s1 + 1)))))) (some (.inr (.brk s1))))

noncomputable def F_spec_l33Fits (p0 : (List (List Int))) : Option (Bool) :=
  bnd (run (F_spec_l33Fits_L1 p0) 0) (Out.elim (fun (s1 : Int) => some true) (fun (r : Bool) => some r))


noncomputable def F_spec_MultiplySquares (p0 : (List (List Int))) (p1 : (List (List Int))) : Option ((List (List Int)) × Int) :=
  bnd (F_spec_l33Matrix p0) fun r1 => (cond (!r1) (some (([] : (List (List Int))), 1)) (bnd (F_spec_l33Matrix p1) fun r4 => (cond (!r4) (some (([] : (List (List Int))), 1)) (bnd (F_spec_l33Multiply p0 p1) fun r7 => bnd (F_spec_l33Fits r7) fun r10 => (cond (!r10) (some (([] : (List (List Int))), 5)) (some (r7, 0)))))))

noncomputable def F_slices_IndexFunc_SSint64_Sint64_L1 (p0 : (List (List Int))) (p1 : ((List Int) → Option Bool)) (s1 : Int) : Option ((Int) ⊕ Out (Int) Int) :=
  (cond (decide (s1 < (p0.length : Int))) (bnd (idx p0 s1) fun y4 => bnd (p1 y4) fun r8 => (cond r8 (some (.inr (.ret s1))) (some (.inl (w64 (s1 + 1)))))) (some (.inr (.brk s1))))

noncomputable def F_slices_IndexFunc_SSint64_Sint64 (p0 : (List (List Int))) (p1 : ((List Int) → Option Bool)) : Option (Int) :=
  bnd (run (F_slices_IndexFunc_SSint64_Sint64_L1 p0 p1) 0) (Out.elim (fun (s1 : Int) => some (-1)) (fun (r : Int) => some r))


noncomputable def F_slices_ContainsFunc_SSint64_Sint64 (p0 : (List (List Int))) (p1 : ((List Int) → Option Bool)) : Option (Bool) :=
  bnd (F_slices_IndexFunc_SSint64_Sint64 p0 p1) fun r1 => some (decide (0 ≤ r1))


noncomputable def F_impl_within (p0 : Int) (p1 : Int) (p2 : Int) : Option (Bool) :=
  (cond (decide (p1 ≤ p0)) (some (decide (p0 ≤ p2))) (some false))

noncomputable def F_impl_allWithin_L1 (p0 : (List Int)) (p1 : Int) (p2 : Int) (s1 : Int) : Option ((Int) ⊕ Out (Int) Bool) :=
  (cond (decide (s1 < (p0.length : Int))) (bnd (idx p0 s1) fun y4 => bnd (F_impl_within y4 p1 p2) fun r8 => (cond (!r8) (some (.inr (.ret false))) (some (.inl (w64 (s1 + 1)))))) (some (.inr (.brk s1))))

noncomputable def F_impl_allWithin (p0 : (List Int)) (p1 : Int) (p2 : Int) : Option (Bool) :=
  bnd (run (F_impl_allWithin_L1 p0 p1 p2) 0) (Out.elim (fun (s1 : Int) => some true) (fun (r : Bool) => some r))


noncomputable def F_impl_IsNatural (p0 : (List Int)) : Option (Bool) :=
  (cond (decide ((p0.length : Int) ≤ 40)) (bnd (F_impl_allWithin p0 0 999999) fun r2 => (cond r2 (cond (decide ((p0.length : Int) = 0)) (some true) (bnd (idx p0 (w64 ((p0.length : Int) - 1))) fun y6 => some (decide (y6 ≠ 0)))) (some false))) (some false))


noncomputable def F_impl_naturals_1 (p0 : (List Int)) : Option (Bool) :=
  bnd (F_impl_IsNatural p0) fun r1 => some (!r1)


noncomputable def F_impl_naturals (p0 : (List (List Int))) : Option (Bool) :=
  bnd (F_slices_ContainsFunc_SSint64_Sint64 p0 (fun x_ => F_impl_naturals_1 x_)) fun r1 => some (!r1)


noncomputable def F_impl_isSquare (p0 : (List (List Int))) : Option (Bool) :=
  (cond (decide ((p0.length : Int) = 9)) (bnd (F_impl_naturals p0) fun r2 => some r2) (some false))

noncomputable def F_impl_trimmed_L1 (s1 : (List Int)) : Option (((List Int)) ⊕ Out ((List Int)) (List Int)) :=
  (cond (decide (0 < (s1.length : Int))) (bnd (idx s1 (w64 ((s1.length : Int) - 1))) fun y4 => (cond (decide (y4 = 0)) (bnd (slc s1 0 (w64 ((s1.length : Int) - 1))) fun z9 => some (.inl z9)) (some (.inr (.brk s1))))) (some (.inr (.brk s1))))

noncomputable def F_impl_trimmed (p0 : (List Int)) : Option ((List Int)) :=
  bnd (run (F_impl_trimmed_L1) p0) (Out.elim (fun (s1 : (List Int)) => some s1) (fun (r : (List Int)) => some r))

noncomputable def F_impl_multiply_L2 (p1 : (List Int)) (s4 : (List Int) × Int) (y7 : Int) (s11 : (List Int) × Int × Int) : Option (((List Int) × Int × Int) ⊕ Out ((List Int) × Int × Int) (List Int)) :=
  bnd ((cond (decide (s11.2.2 < (p1.length : Int))) (some (.brk true)) (some (.brk (decide (0 < s11.2.1))))) : Option (Out (Bool) (List Int))) (Out.elim (fun (s13 : Bool) => (cond s13 (bnd (idx s11.1 (w64 (s4.2 + s11.2.2))) fun y17 => (cond (decide (s11.2.2 < (p1.length : Int))) (bnd (idx p1 s11.2.2) fun y21 => bnd (idx s11.1 (w64 (s4.2 + s11.2.2))) fun y25 => some (.inl ((s11.1.set (w64 (s4.2 + s11.2.2)).toNat (Int.tmod (w64 ((w64 (s11.2.1 + y17)) + (w64 (y7 * y21)))) 1000000)), (w64 (Int.tdiv (w64 ((w64 (s11.2.1 + y17)) + (w64 (y7 * y21)))) 1000000)), (w64 (s11.2.2 + 1))))) (bnd (idx s11.1 (w64 (s4.2 + s11.2.2))) fun y27 => some (.inl ((s11.1.set (w64 (s4.2 + s11.2.2)).toNat (Int.tmod (w64 (s11.2.1 + y17)) 1000000)), (w64 (Int.tdiv (w64 (s11.2.1 + y17)) 1000000)), (w64 (s11.2.2 + 1))))))) (some (.inr (.brk (s11.1, s11.2.1, s11.2.2)))))) (fun (r : (List Int)) => some (.inr (.ret r))))

noncomputable def F_impl_multiply_L1 (p0 : (List Int)) (p1 : (List Int)) (s4 : (List Int) × Int) : Option (((List Int) × Int) ⊕ Out ((List Int) × Int) (List Int)) :=
  (cond (decide (s4.2 < (p0.length : Int))) (bnd (idx p0 s4.2) fun y7 => bnd (run (F_impl_multiply_L2 p1 s4 y7) (s4.1, 0, 0)) (Out.elim (fun (s11 : (List Int) × Int × Int) => some (.inl (s11.1, (w64 (s4.2 + 1))))) (fun (r : (List Int)) => some (.inr (.ret r))))) (some (.inr (.brk (s4.1, s4.2)))))

noncomputable def F_impl_multiply (p0 : (List Int)) (p1 : (List Int)) : Option ((List Int)) :=
  bnd (mke (w64 ((p0.length : Int) + (p1.length : Int))) (0 : Int)) fun z1 => bnd (run (F_impl_multiply_L1 p0 p1) (z1, 0)) (Out.elim (fun (s4 : (List Int) × Int) => bnd (F_impl_trimmed s4.1) fun r29 => some r29) (fun (r : (List Int)) => some r))

noncomputable def F_impl_carried_L1 (p0 : (List Int)) (s2 : (List Int) × Int × Int) : Option (((List Int) × Int × Int) ⊕ Out ((List Int) × Int × Int) (List Int)) :=
  bnd ((cond (decide (s2.2.2 < (p0.length : Int))) (some (.brk true)) (some (.brk (decide (0 < s2.2.1))))) : Option (Out (Bool) (List Int))) (Out.elim (fun (s4 : Bool) => (cond s4 (cond (decide (s2.2.2 < (p0.length : Int))) (bnd (idx p0 s2.2.2) fun y9 => bnd (app s2.1 ([(Int.tmod (w64 (s2.2.1 + y9)) 1000000)] : List Int)) fun z14 => some (.inl (z14, (w64 (Int.tdiv (w64 (s2.2.1 + y9)) 1000000)), (w64 (s2.2.2 + 1))))) (bnd (app s2.1 ([(Int.tmod s2.2.1 1000000)] : List Int)) fun z18 => some (.inl (z18, (w64 (Int.tdiv s2.2.1 1000000)), (w64 (s2.2.2 + 1)))))) (some (.inr (.brk (s2.1, s2.2.1, s2.2.2)))))) (fun (r : (List Int)) => some (.inr (.ret r))))

noncomputable def F_impl_carried (p0 : (List Int)) : Option ((List Int)) :=
  bnd (run (F_impl_carried_L1 p0) (([] : List Int), 0, 0)) (Out.elim (fun (s2 : (List Int) × Int × Int) => bnd (F_impl_trimmed s2.1) fun r21 => some r21) (fun (r : (List Int)) => some r))

noncomputable def F_impl_add_L1 (p1 : (List Int)) (s4 : (List Int) × Int) : Option (((List Int) × Int) ⊕ Out ((List Int) × Int) (List Int)) :=
  (cond (decide (s4.2 < (p1.length : Int))) (bnd (idx p1 s4.2) fun y7 => bnd (idx s4.1 s4.2) fun y11 => bnd (idx s4.1 s4.2) fun y14 => some (.inl ((s4.1.set s4.2.toNat (w64 (y11 + y7))), (w64 (s4.2 + 1))))) (some (.inr (.brk (s4.1, s4.2)))))

noncomputable def F_impl_add (p0 : (List Int)) (p1 : (List Int)) : Option ((List Int)) :=
  bnd (mke (if (p1.length : Int) > (p0.length : Int) then (p1.length : Int) else (p0.length : Int)) (0 : Int)) fun z1 => bnd (run (F_impl_add_L1 p1) ((cpy z1 p0), 0)) (Out.elim (fun (s4 : (List Int) × Int) => bnd (F_impl_carried s4.1) fun r16 => some r16) (fun (r : (List Int)) => some r))


noncomputable def F_impl_checkedSquare (p0 : (List (List Int))) : Option ((List (List Int)) × Int) :=
  bnd (F_impl_isSquare p0) fun r1 => (cond (!r1) (some (([] : (List (List Int))), 5)) (some (p0, 0)))

noncomputable def F_impl_productOf_L3 (p0 : (List (List Int))) (p1 : (List (List Int))) (s2 : (List (List Int)) × Int) (s5 : (List (List Int)) × Int) (s9 : (List Int) × Int) : Option (((List Int) × Int) ⊕ Out ((List Int) × Int) ((List (List Int)) × Int)) :=
  (cond (decide (s9.2 < 3)) (bnd (idx p0 (w64 ((w64 (3 * s2.2)) + s9.2))) fun y12 => bnd (idx p1 (w64 ((w64 (3 * s9.2)) + s5.2))) fun y16 => bnd (F_impl_multiply y12 y16) fun r23 => bnd (F_impl_add s9.1 r23) fun r26 => some (.inl (r26, (w64 (s9.2 + 1))))) (some (.inr (.brk (s9.1, s9.2)))))

noncomputable def F_impl_productOf_L2 (p0 : (List (List Int))) (p1 : (List (List Int))) (s2 : (List (List Int)) × Int) (s5 : (List (List Int)) × Int) : Option (((List (List Int)) × Int) ⊕ Out ((List (List Int)) × Int) ((List (List Int)) × Int)) :=
  (cond (decide (s5.2 < 3)) (bnd (run (F_impl_productOf_L3 p0 p1 s2 s5) (([] : List Int), 0)) (Out.elim (fun (s9 : (List Int) × Int) => bnd (app s5.1 ([s9.1] : List (List Int))) fun z30 => some (.inl (z30, (w64 (s5.2 + 1))))) (fun (r : (List (List Int)) × Int) => some (.inr (.ret r))))) (some (.inr (.brk (s5.1, s5.2)))))

noncomputable def F_impl_productOf_L1 (p0 : (List (List Int))) (p1 : (List (List Int))) (s2 : (List (List Int)) × Int) : Option (((List (List Int)) × Int) ⊕ Out ((List (List Int)) × Int) ((List (List Int)) × Int)) :=
  (cond (decide (s2.2 < 3)) (bnd (run (F_impl_productOf_L2 p0 p1 s2) (s2.1, 0)) (Out.elim (fun (s5 : (List (List Int)) × Int) => some (.inl (s5.1, (w64 (s2.2 + 1))))) (fun (r : (List (List Int)) × Int) => some (.inr (.ret r))))) (some (.inr (.brk (s2.1, s2.2)))))

noncomputable def F_impl_productOf (p0 : (List (List Int))) (p1 : (List (List Int))) : Option ((List (List Int)) × Int) :=
  bnd (run (F_impl_productOf_L1 p0 p1) (([] : List (List Int)), 0)) (Out.elim (fun (s2 : (List (List Int)) × Int) => bnd (F_impl_checkedSquare s2.1) fun r33 => some (r33.1, r33.2)) (fun (r : (List (List Int)) × Int) => some r))


noncomputable def F_impl_MultiplySquares (p0 : (List (List Int))) (p1 : (List (List Int))) : Option ((List (List Int)) × Int) :=
  bnd (F_impl_isSquare p0) fun r1 => (cond (!r1) (some (([] : (List (List Int))), 1)) (bnd (F_impl_isSquare p1) fun r4 => (cond (!r4) (some (([] : (List (List Int))), 1)) (bnd (F_impl_productOf p0 p1) fun r7 => some (r7.1, r7.2)))))

noncomputable def F_laws_eqInt64S_L1 (p0 : (List Int)) (p1 : (List Int)) (s2 : Int) : Option ((Int) ⊕ Out (Int) Bool) :=
  (cond (decide (s2 < (p0.length : Int))) (bnd (idx p0 s2) fun y5 => bnd (idx p1 s2) fun y9 => (cond (decide (y5 ≠ y9)) (some (.inr (.ret false))) (some (.inl (w64 (s2 + 1)))))) (some (.inr (.brk s2))))

noncomputable def F_laws_eqInt64S (p0 : (List Int)) (p1 : (List Int)) : Option (Bool) :=
  (cond (decide ((p0.length : Int) ≠ (p1.length : Int))) (some false) (bnd (run (F_laws_eqInt64S_L1 p0 p1) 0) (Out.elim (fun (s2 : Int) => some true) (fun (r : Bool) => some r))))

noncomputable def F_laws_eqInt64SS_L1 (p0 : (List (List Int))) (p1 : (List (List Int))) (s2 : Int) : Option ((Int) ⊕ Out (Int) Bool) :=
  (cond (decide (s2 < (p0.length : Int))) (bnd (idx p0 s2) fun y5 => bnd (idx p1 s2) fun y9 => bnd (F_laws_eqInt64S y5 y9) fun r16 => (cond (!r16) (some (.inr (.ret false))) (some (.inl (w64 (s2 + 1)))))) (some (.inr (.brk s2))))

noncomputable def F_laws_eqInt64SS (p0 : (List (List Int))) (p1 : (List (List Int))) : Option (Bool) :=
  (cond (decide ((p0.length : Int) ≠ (p1.length : Int))) (some false) (bnd (run (F_laws_eqInt64SS_L1 p0 p1) 0) (Out.elim (fun (s2 : Int) => some true) (fun (r : Bool) => some r))))

noncomputable def F_laws_markInt64S_L1 (s1 : (List Int) × Int × Int) : Option (((List Int) × Int × Int) ⊕ Out ((List Int) × Int × Int) (Int × (List Int))) :=
  (cond (decide (s1.2.2 < (s1.1.length : Int))) (bnd (idx s1.1 s1.2.2) fun y4 => some (.inl ((s1.1.set s1.2.2.toNat s1.2.1), (w64 (s1.2.1 + 1)), (w64 (s1.2.2 + 1))))) (some (.inr (.brk (s1.1, s1.2.1, s1.2.2)))))

noncomputable def F_laws_markInt64S (p0 : (List Int)) (p1 : Int) : Option (Int × (List Int)) :=
  bnd (run (F_laws_markInt64S_L1) (p0, p1, 0)) (Out.elim (fun (s1 : (List Int) × Int × Int) => some (s1.2.1, s1.1)) (fun (r : Int × (List Int)) => some r))

noncomputable def F_laws_markInt64SS_L1 (s1 : (List (List Int)) × Int × Int) : Option (((List (List Int)) × Int × Int) ⊕ Out ((List (List Int)) × Int × Int) (Int × (List (List Int)))) :=
  (cond (decide (s1.2.2 < (s1.1.length : Int))) (bnd (idx s1.1 s1.2.2) fun y4 => bnd (F_laws_markInt64S y4 s1.2.1) fun r10 => some (.inl ((s1.1.set s1.2.2.toNat r10.2), r10.1, (w64 (s1.2.2 + 1))))) (some (.inr (.brk (s1.1, s1.2.1, s1.2.2)))))

noncomputable def F_laws_markInt64SS (p0 : (List (List Int))) (p1 : Int) : Option (Int × (List (List Int))) :=
  bnd (run (F_laws_markInt64SS_L1) (p0, p1, 0)) (Out.elim (fun (s1 : (List (List Int)) × Int × Int) => some (s1.2.1, s1.1)) (fun (r : Int × (List (List Int))) => some r))

noncomputable def F_laws_heldInt64S_L1 (p0 : (List Int)) (s1 : Int × Int) : Option ((Int × Int) ⊕ Out (Int × Int) Int) :=
  (cond (decide (s1.2 < (p0.length : Int))) (bnd (idx p0 s1.2) fun y4 => (cond (decide (y4 ≠ s1.1)) (some (.inr (.ret (-1)))) (some (.inl ((w64 (s1.1 + 1)), (w64 (s1.2 + 1))))))) (some (.inr (.brk (s1.1, s1.2)))))

noncomputable def F_laws_heldInt64S (p0 : (List Int)) (p1 : Int) : Option (Int) :=
  bnd (run (F_laws_heldInt64S_L1 p0) (p1, 0)) (Out.elim (fun (s1 : Int × Int) => some s1.1) (fun (r : Int) => some r))

noncomputable def F_laws_heldInt64SS_L1 (p0 : (List (List Int))) (s1 : Int × Int) : Option ((Int × Int) ⊕ Out (Int × Int) Int) :=
  (cond (decide (s1.2 < (p0.length : Int))) (bnd (idx p0 s1.2) fun y4 => bnd (F_laws_heldInt64S y4 s1.1) fun r8 => (cond (decide (r8 < 0)) (some (.inr (.ret (-1)))) (some (.inl (r8, (w64 (s1.2 + 1))))))) (some (.inr (.brk (s1.1, s1.2)))))

noncomputable def F_laws_heldInt64SS (p0 : (List (List Int))) (p1 : Int) : Option (Int) :=
  bnd (run (F_laws_heldInt64SS_L1 p0) (p1, 0)) (Out.elim (fun (s1 : Int × Int) => some s1.1) (fun (r : Int) => some r))


noncomputable def F_laws_FnExactMultiplySquares (p0 : (List (List Int))) (p1 : (List (List Int))) : Option (Bool) :=
  bnd (F_laws_szInt64SS p0 1048576) fun r1 => (cond (decide (r1 < 0)) (some true) (bnd (F_laws_szInt64SS p1 r1) fun r4 => (cond (decide (r4 < 0)) (some true) (bnd (F_laws_toInt64SS p0) fun r7 => bnd (F_laws_toInt64SS p1) fun r10 => bnd (F_spec_MultiplySquares r7 r10) fun r13 => bnd (F_laws_toInt64SS p0) fun r16 => bnd (F_laws_toInt64SS p1) fun r19 => bnd (F_impl_MultiplySquares r16 r19) fun r22 => bnd (bnd (F_laws_eqInt64SS r22.1 r13.1) fun r27 => (cond (!r27) (some (.ret false)) (cond (decide (r22.2 ≠ r13.2)) (some (.ret false)) (some (.brk ())))) : Option (Out (Unit) Bool)) (Out.elim (fun (s25 : Unit) => bnd (F_laws_toInt64SS p0) fun r31 => bnd (F_laws_eqInt64SS r16 r31) fun r34 => (cond (!r34) (some false) (bnd (F_laws_toInt64SS p1) fun r37 => bnd (F_laws_eqInt64SS r19 r37) fun r40 => (cond (!r40) (some false) (bnd (F_laws_markInt64SS r16 1) fun r43 => bnd (F_laws_markInt64SS r19 r43.1) fun r45 => bnd ((cond (decide (r45.1 < 0)) (some (.ret false)) (bnd (F_laws_eqInt64SS r22.1 r13.1) fun r50 => (cond (!r50) (some (.ret false)) (cond (decide (r22.2 ≠ r13.2)) (some (.ret false)) (some (.brk ())))))) : Option (Out (Unit) Bool)) (Out.elim (fun (s47 : Unit) => bnd (F_laws_markInt64SS r22.1 1) fun r54 => bnd (F_laws_heldInt64SS r54.2 1) fun r56 => (cond (decide (r56 < 0)) (some false) (cond (decide (r56 ≠ r54.1)) (some false) (bnd (F_laws_toInt64SS p0) fun r60 => bnd (F_laws_toInt64SS p1) fun r63 => bnd (F_impl_MultiplySquares r60 r63) fun r66 => bnd (F_laws_eqInt64SS r66.1 r13.1) fun r69 => (cond (!r69) (some false) (cond (decide (r66.2 ≠ r13.2)) (some false) (bnd (F_laws_heldInt64SS r54.2 1) fun r73 => (cond (decide (r73 < 0)) (some false) (cond (decide (r73 ≠ r54.1)) (some false) (some true)))))))))) (fun (r : Bool) => some r))))))) (fun (r : Bool) => some r))))))


noncomputable def F_laws_szRuleS (p0 : (List GRule)) (p1 : Int) : Option (Int) :=
  (cond (decide ((w64 (p1 - (p0.length : Int))) < 0)) (some (-1)) (some (w64 (p1 - (p0.length : Int)))))


noncomputable def F_laws_szMachine (p0 : GMachine) (p1 : Int) : Option (Int) :=
  bnd (F_laws_szRuleS p0.Rules p1) fun r2 => (cond (decide (r2 < 0)) (some (-1)) (some r2))


noncomputable def F_laws_toRule (p0 : GRule) : Option (GRule) :=
  some p0

noncomputable def F_laws_toRuleS_L1 (p0 : (List GRule)) (s4 : (List GRule) × Int) : Option (((List GRule) × Int) ⊕ Out ((List GRule) × Int) (List GRule)) :=
  (cond (decide (s4.2 < (p0.length : Int))) (bnd (idx p0 s4.2) fun y7 => bnd (F_laws_toRule y7) fun r11 => bnd (idx s4.1 s4.2) fun y13 => some (.inl ((s4.1.set s4.2.toNat r11), (w64 (s4.2 + 1))))) (some (.inr (.brk (s4.1, s4.2)))))

noncomputable def F_laws_toRuleS (p0 : (List GRule)) : Option ((List GRule)) :=
  bnd (mke (p0.length : Int) (⟨(0 : Int), (0 : Int), (0 : Int)⟩ : GRule)) fun z1 => bnd (run (F_laws_toRuleS_L1 p0) (z1, 0)) (Out.elim (fun (s4 : (List GRule) × Int) => some s4.1) (fun (r : (List GRule)) => some r))


noncomputable def F_laws_toMachine (p0 : GMachine) : Option (GMachine) :=
  bnd (F_laws_toRuleS p0.Rules) fun r4 => some (⟨p0.Symbols, p0.States, r4⟩ : GMachine)


noncomputable def F_spec_l05None : Option (GRule) :=
  some (⟨0, 0, (-1)⟩ : GRule)


noncomputable def F_spec_l05Rule (p0 : GRule) (p1 : Int) (p2 : Int) : Option (Bool) :=
  bnd F_spec_l05None fun r5 => (cond (decide (p0 = r5)) (some true) (bnd (F_spec_l00In p0.Write 0 (w64 (p1 - 1))) fun r8 => (cond r8 (cond (decide (p0.Move = 1)) (bnd (F_spec_l00In p0.Next 0 (w64 (p2 - 1))) fun r12 => some r12) (cond (decide (p0.Move = (-1))) (bnd (F_spec_l00In p0.Next 0 (w64 (p2 - 1))) fun r15 => some r15) (some false))) (some false))))

noncomputable def F_spec_l05Is_L1 (p0 : GMachine) (s31 : Int) : Option ((Int) ⊕ Out (Int) Bool) :=
  (cond (decide (s31 < (p0.Rules.length : Int))) (bnd (idx p0.Rules s31) fun y38 => bnd (F_spec_l05Rule y38 p0.Symbols p0.States) fun r49 => (cond (!r49) (some (.inr (.ret false))) (some (.inl (w64 (s31 + 1)))))) (some (.inr (.brk s31))))

noncomputable def F_spec_l05Is (p0 : GMachine) : Option (Bool) :=
  bnd (bnd (F_spec_l00In p0.Symbols 2 6) fun r8 => (cond (!r8) (some (.ret false)) (bnd (F_spec_l00In p0.States 1 1000) fun r15 => (cond (!r15) (some (.ret false)) (cond (decide ((p0.Rules.length : Int) ≠ (w64 (p0.Symbols * p0.States)))) (some (.ret false)) (some (.brk ())))))) : Option (Out (Unit) Bool)) (Out.elim (fun (s1 : Unit) => bnd (run (F_spec_l05Is_L1 p0) 0) (Out.elim (fun (s31 : Int) => some true) (fun (r : Bool) => some r))) (fun (r : Bool) => some r))

noncomputable def F_spec_l03Reverse_L1 (p0 : (List Int)) (s2 : (List Int) × Int) : Option (((List Int) × Int) ⊕ Out ((List Int) × Int) (List Int)) :=
  (cond (decide (0 ≤ s2.2)) (bnd (idx p0 s2.2) fun y5 => bnd (app s2.1 ([y5] : List Int)) fun z10 => some (.inl (z10, (w64 (s2.2 - 1))))) (some (.inr (.brk (s2.1, s2.2)))))

noncomputable def F_spec_l03Reverse (p0 : (List Int)) : Option ((List Int)) :=
  bnd (run (F_spec_l03Reverse_L1 p0) (([] : List Int), (w64 ((p0.length : Int) - 1)))) (Out.elim (fun (s2 : (List Int) × Int) => some s2.1) (fun (r : (List Int)) => some r))


noncomputable def F_spec_l00Own (p0 : (List Int)) : Option ((List Int)) :=
  bnd (app ([] : List Int) p0) fun z2 => some z2

noncomputable def F_spec_l05Trim_L1 (p0 : (List Int)) (s1 : Int) : Option ((Int) ⊕ Out (Int) (List Int)) :=
  (cond (decide (0 < s1)) (bnd (idx p0 (w64 (s1 - 1))) fun y4 => (cond (decide (y4 = 0)) (some (.inl (w64 (s1 - 1)))) (some (.inr (.brk s1))))) (some (.inr (.brk s1))))

noncomputable def F_spec_l05Trim (p0 : (List Int)) : Option ((List Int)) :=
  bnd (run (F_spec_l05Trim_L1 p0) (p0.length : Int)) (Out.elim (fun (s1 : Int) => bnd (slc p0 0 s1) fun z9 => bnd (F_spec_l00Own z9) fun r12 => some r12) (fun (r : (List Int)) => some r))

noncomputable def F_spec_l33Config_L1 (p0 : GMachine) (p1 : (List Int)) (s3 : Int × (List Int) × Int × Int) : Option ((Int × (List Int) × Int × Int) ⊕ Out (Int × (List Int) × Int × Int) (GConfig × Int × Bool)) :=
  (cond (decide (s3.2.2.2 < (p1.length : Int))) (bnd (idx p1 s3.2.2.2) fun y6 => bnd (F_spec_l00In y6 0 (w64 (p0.Symbols - 1))) fun r15 => (cond r15 (bnd (idx p1 s3.2.2.2) fun y18 => bnd (app s3.2.1 ([y18] : List Int)) fun z23 => some (.inl (s3.1, z23, s3.2.2.1, (w64 (s3.2.2.2 + 1))))) (bnd ((cond (decide (0 ≤ s3.1)) (some (.ret ((⟨0, ([] : (List Int)), ([] : (List Int))⟩ : GConfig), 0, false))) (bnd (idx p1 s3.2.2.2) fun y29 => bnd (F_spec_l00In y29 p0.Symbols (w64 ((w64 (p0.Symbols * (w64 (p0.States + 1)))) - 1))) fun r42 => (cond (!r42) (some (.ret ((⟨0, ([] : (List Int)), ([] : (List Int))⟩ : GConfig), 0, false))) (some (.brk ()))))) : Option (Out (Unit) (GConfig × Int × Bool))) (Out.elim (fun (s26 : Unit) => bnd (idx p1 s3.2.2.2) fun y45 => bnd (nz p0.Symbols) fun u51 => bnd (idx p1 s3.2.2.2) fun y53 => bnd (nz p0.Symbols) fun u59 => bnd (app s3.2.1 ([(Int.tmod y53 p0.Symbols)] : List Int)) fun z65 => some (.inl (s3.2.2.2, z65, (w64 ((w64 (Int.tdiv y45 p0.Symbols)) - 1)), (w64 (s3.2.2.2 + 1))))) (fun (r : GConfig × Int × Bool) => some (.inr (.ret r))))))) (some (.inr (.brk (s3.1, s3.2.1, s3.2.2.1, s3.2.2.2)))))

noncomputable def F_spec_l33Config (p0 : GMachine) (p1 : (List Int)) : Option (GConfig × Int × Bool) :=
  bnd (run (F_spec_l33Config_L1 p0 p1) ((-1), ([] : List Int), 0, 0)) (Out.elim (fun (s3 : Int × (List Int) × Int × Int) => (cond (decide (s3.1 < 0)) (some ((⟨0, ([] : (List Int)), ([] : (List Int))⟩ : GConfig), 0, false)) (bnd (slc s3.2.1 0 s3.1) fun z69 => bnd (slc s3.2.1 s3.1 (s3.2.1.length : Int)) fun z72 => bnd (F_spec_l03Reverse z69) fun r78 => bnd (F_spec_l05Trim r78) fun r81 => bnd (F_spec_l05Trim z72) fun r84 => some ((⟨s3.2.2.1, r81, r84⟩ : GConfig), s3.1, true)))) (fun (r : GConfig × Int × Bool) => some r))


noncomputable def F_spec_l33Decode (p0 : GMachine) (p1 : (List Int)) : Option (GConfig × Int × Int) :=
  bnd ((cond (decide ((p1.length : Int) < 1)) (some (.ret ((⟨0, ([] : (List Int)), ([] : (List Int))⟩ : GConfig), 0, 2))) (cond (decide (30 < (p1.length : Int))) (some (.ret ((⟨0, ([] : (List Int)), ([] : (List Int))⟩ : GConfig), 0, 2))) (some (.brk ())))) : Option (Out (Unit) (GConfig × Int × Int))) (Out.elim (fun (s2 : Unit) => bnd (F_spec_l33Config p0 p1) fun r6 => (cond (!r6.2.2) (some ((⟨0, ([] : (List Int)), ([] : (List Int))⟩ : GConfig), 0, 9)) (some (r6.1, r6.2.1, 0)))) (fun (r : GConfig × Int × Int) => some r))


noncomputable def F_spec_ConfigOfRow (p0 : GMachine) (p1 : (List Int)) : Option (GConfig × Int × Int) :=
  bnd (F_spec_l05Is p0) fun r3 => (cond (!r3) (some ((⟨0, ([] : (List Int)), ([] : (List Int))⟩ : GConfig), 0, 1)) (bnd (F_spec_l33Decode p0 p1) fun r6 => some (r6.1, r6.2.1, r6.2.2)))


noncomputable def F_impl_size_impl_Rule (p0 : (List GRule)) : Option (Int) :=
  some (p0.length : Int)


noncomputable def F_impl_noRule : Option (GRule) :=
  some (⟨0, 0, (-1)⟩ : GRule)


noncomputable def F_impl_isRule (p0 : GRule) : Option (Bool) :=
  bnd F_impl_noRule fun r5 => some (!(decide (p0 = r5)))


noncomputable def F_impl_validRule (p0 : GMachine) (p1 : GRule) : Option (Bool) :=
  bnd (F_impl_isRule p1) fun r3 => (cond (!r3) (some true) (bnd (F_impl_within p1.Write 0 (w64 (p0.Symbols - 1))) fun r6 => (cond r6 (cond (decide (p1.Move = (-1))) (bnd (F_impl_within p1.Next 0 (w64 (p0.States - 1))) fun r10 => some r10) (cond (decide (p1.Move = 1)) (bnd (F_impl_within p1.Next 0 (w64 (p0.States - 1))) fun r13 => some r13) (some false))) (some false))))


noncomputable def F_impl_ValidMachine_1 (p0 : GRule) (p1 : GMachine) : Option (Bool) :=
  bnd (F_impl_validRule p1 p0) fun r3 => some (!r3)

noncomputable def F_slices_IndexFunc_Simpl_Rule_impl_Rule_L1 (p0 : (List GRule)) (p1 : (GRule → Option Bool)) (s1 : Int) : Option ((Int) ⊕ Out (Int) Int) :=
  (cond (decide (s1 < (p0.length : Int))) (bnd (idx p0 s1) fun y4 => bnd (p1 y4) fun r8 => (cond r8 (some (.inr (.ret s1))) (some (.inl (w64 (s1 + 1)))))) (some (.inr (.brk s1))))

noncomputable def F_slices_IndexFunc_Simpl_Rule_impl_Rule (p0 : (List GRule)) (p1 : (GRule → Option Bool)) : Option (Int) :=
  bnd (run (F_slices_IndexFunc_Simpl_Rule_impl_Rule_L1 p0 p1) 0) (Out.elim (fun (s1 : Int) => some (-1)) (fun (r : Int) => some r))


noncomputable def F_slices_ContainsFunc_Simpl_Rule_impl_Rule (p0 : (List GRule)) (p1 : (GRule → Option Bool)) : Option (Bool) :=
  bnd (F_slices_IndexFunc_Simpl_Rule_impl_Rule p0 p1) fun r1 => some (decide (0 ≤ r1))


noncomputable def F_impl_ValidMachine (p0 : GMachine) : Option (Bool) :=
  bnd (F_impl_within p0.Symbols 2 6) fun r5 => (cond (!r5) (some false) (bnd (F_impl_within p0.States 1 1000) fun r8 => (cond (!r8) (some false) (bnd (F_impl_size_impl_Rule p0.Rules) fun r11 => (cond (decide (r11 ≠ (w64 (p0.States * p0.Symbols)))) (some false) (bnd (F_slices_ContainsFunc_Simpl_Rule_impl_Rule p0.Rules (fun x_ => F_impl_ValidMachine_1 x_ p0)) fun r14 => some (!r14)))))))


noncomputable def F_impl_size_int64 (p0 : (List Int)) : Option (Int) :=
  some (p0.length : Int)


noncomputable def F_impl_configOfRow_1 (p0 : Int) (p1 : GMachine) : Option (Bool) :=
  some (decide (p1.Symbols ≤ p0))

noncomputable def F_slices_IndexFunc_Sint64_int64_L1 (p0 : (List Int)) (p1 : (Int → Option Bool)) (s1 : Int) : Option ((Int) ⊕ Out (Int) Int) :=
  (cond (decide (s1 < (p0.length : Int))) (bnd (idx p0 s1) fun y4 => bnd (p1 y4) fun r8 => (cond r8 (some (.inr (.ret s1))) (some (.inl (w64 (s1 + 1)))))) (some (.inr (.brk s1))))

noncomputable def F_slices_IndexFunc_Sint64_int64 (p0 : (List Int)) (p1 : (Int → Option Bool)) : Option (Int) :=
  bnd (run (F_slices_IndexFunc_Sint64_int64_L1 p0 p1) 0) (Out.elim (fun (s1 : Int) => some (-1)) (fun (r : Int) => some r))


noncomputable def F_slices_Clone_Sint64_int64 (p0 : (List Int)) : Option ((List Int)) :=
  bnd (app ([] : List Int) p0) fun z3 => some z3

noncomputable def F_impl_reversed_L1 (s5 : (List Int) × Int × Int) : Option (((List Int) × Int × Int) ⊕ Out ((List Int) × Int × Int) (Option ((List Int)))) :=
  (cond (decide (s5.2.1 < s5.2.2)) (bnd (idx s5.1 s5.2.2) fun y8 => bnd (idx s5.1 s5.2.1) fun y12 => bnd (idx s5.1 s5.2.1) fun y19 => bnd (idx (s5.1.set s5.2.1.toNat y8) s5.2.2) fun y21 => some (.inl (((s5.1.set s5.2.1.toNat y8).set s5.2.2.toNat y12), (w64 (s5.2.1 + 1)), (w64 (s5.2.2 - 1))))) (some (.inr (.brk (s5.1, s5.2.1, s5.2.2)))))

noncomputable def F_impl_reversed (p0 : (List Int)) : Option ((List Int)) :=
  bnd (F_slices_Clone_Sint64_int64 p0) fun r1 => bnd (run (F_impl_reversed_L1) (r1, 0, (w64 ((r1.length : Int) - 1)))) (Out.elim (fun (s5 : (List Int) × Int × Int) => some s5.1) (fun (r : Option ((List Int))) => r))


noncomputable def F_impl_configOfRow (p0 : GMachine) (p1 : (List Int)) : Option (GConfig × Int × Int) :=
  bnd (F_slices_IndexFunc_Sint64_int64 p1 (fun x_ => F_impl_configOfRow_1 x_ p0)) fun r3 => bnd ((cond (decide (r3 < 0)) (some (.ret ((⟨0, ([] : (List Int)), ([] : (List Int))⟩ : GConfig), 0, 9))) (bnd (idx p1 r3) fun y8 => (cond (decide ((w64 (p0.Symbols * (w64 (p0.States + 1)))) ≤ y8)) (some (.ret ((⟨0, ([] : (List Int)), ([] : (List Int))⟩ : GConfig), 0, 9))) (some (.brk ()))))) : Option (Out (Unit) (GConfig × Int × Int))) (Out.elim (fun (s5 : Unit) => bnd (F_slices_Clone_Sint64_int64 p1) fun r13 => bnd (idx p1 r3) fun y16 => bnd (nz p0.Symbols) fun u20 => bnd (idx r13 r3) fun y22 => bnd (F_impl_allWithin (r13.set r3.toNat (Int.tmod y16 p0.Symbols)) 0 (w64 (p0.Symbols - 1))) fun r29 => (cond (!r29) (some ((⟨0, ([] : (List Int)), ([] : (List Int))⟩ : GConfig), 0, 9)) (bnd (idx p1 r3) fun y32 => bnd (nz p0.Symbols) fun u36 => bnd (slc (r13.set r3.toNat (Int.tmod y16 p0.Symbols)) 0 r3) fun z38 => bnd (slc (r13.set r3.toNat (Int.tmod y16 p0.Symbols)) r3 ((r13.set r3.toNat (Int.tmod y16 p0.Symbols)).length : Int)) fun z41 => bnd (F_impl_reversed z38) fun r47 => bnd (F_impl_trimmed r47) fun r50 => bnd (F_slices_Clone_Sint64_int64 z41) fun r53 => bnd (F_impl_trimmed r53) fun r56 => some ((⟨(w64 ((w64 (Int.tdiv y32 p0.Symbols)) - 1)), r50, r56⟩ : GConfig), r3, 0)))) (fun (r : GConfig × Int × Int) => some r))


noncomputable def F_impl_ConfigOfRow (p0 : GMachine) (p1 : (List Int)) : Option (GConfig × Int × Int) :=
  bnd (F_impl_ValidMachine p0) fun r3 => (cond (!r3) (some ((⟨0, ([] : (List Int)), ([] : (List Int))⟩ : GConfig), 0, 1)) (bnd (F_impl_size_int64 p1) fun r6 => bnd (F_impl_within r6 1 30) fun r8 => (cond (!r8) (some ((⟨0, ([] : (List Int)), ([] : (List Int))⟩ : GConfig), 0, 2)) (bnd (F_impl_configOfRow p0 p1) fun r11 => some (r11.1, r11.2.1, r11.2.2)))))


noncomputable def F_laws_eqConfig (p0 : GConfig) (p1 : GConfig) : Option (Bool) :=
  (cond (decide (p0.State ≠ p1.State)) (some false) (bnd (F_laws_eqInt64S p0.Left p1.Left) fun r4 => (cond (!r4) (some false) (bnd (F_laws_eqInt64S p0.Right p1.Right) fun r7 => (cond (!r7) (some false) (some true))))))


noncomputable def F_laws_eqRule (p0 : GRule) (p1 : GRule) : Option (Bool) :=
  (cond (decide (p0.Write ≠ p1.Write)) (some false) (cond (decide (p0.Move ≠ p1.Move)) (some false) (cond (decide (p0.Next ≠ p1.Next)) (some false) (some true))))

noncomputable def F_laws_eqRuleS_L1 (p0 : (List GRule)) (p1 : (List GRule)) (s2 : Int) : Option ((Int) ⊕ Out (Int) Bool) :=
  (cond (decide (s2 < (p0.length : Int))) (bnd (idx p0 s2) fun y5 => bnd (idx p1 s2) fun y9 => bnd (F_laws_eqRule y5 y9) fun r16 => (cond (!r16) (some (.inr (.ret false))) (some (.inl (w64 (s2 + 1)))))) (some (.inr (.brk s2))))

noncomputable def F_laws_eqRuleS (p0 : (List GRule)) (p1 : (List GRule)) : Option (Bool) :=
  (cond (decide ((p0.length : Int) ≠ (p1.length : Int))) (some false) (bnd (run (F_laws_eqRuleS_L1 p0 p1) 0) (Out.elim (fun (s2 : Int) => some true) (fun (r : Bool) => some r))))


noncomputable def F_laws_eqMachine (p0 : GMachine) (p1 : GMachine) : Option (Bool) :=
  (cond (decide (p0.Symbols ≠ p1.Symbols)) (some false) (cond (decide (p0.States ≠ p1.States)) (some false) (bnd (F_laws_eqRuleS p0.Rules p1.Rules) fun r5 => (cond (!r5) (some false) (some true)))))

noncomputable def F_laws_markRuleS_L1 (s1 : (List GRule) × Int × Int) : Option (((List GRule) × Int × Int) ⊕ Out ((List GRule) × Int × Int) (Int × (List GRule))) :=
  (cond (decide (s1.2.2 < (s1.1.length : Int))) (bnd (idx s1.1 s1.2.2) fun y4 => bnd (idx (s1.1.set s1.2.2.toNat (⟨s1.2.1, y4.Move, y4.Next⟩ : GRule)) s1.2.2) fun y9 => bnd (idx ((s1.1.set s1.2.2.toNat (⟨s1.2.1, y4.Move, y4.Next⟩ : GRule)).set s1.2.2.toNat (⟨y9.Write, (w64 (s1.2.1 + 1)), y9.Next⟩ : GRule)) s1.2.2) fun y11 => some (.inl ((((s1.1.set s1.2.2.toNat (⟨s1.2.1, y4.Move, y4.Next⟩ : GRule)).set s1.2.2.toNat (⟨y9.Write, (w64 (s1.2.1 + 1)), y9.Next⟩ : GRule)).set s1.2.2.toNat (⟨y11.Write, y11.Move, (w64 ((w64 (s1.2.1 + 1)) + 1))⟩ : GRule)), (w64 ((w64 ((w64 (s1.2.1 + 1)) + 1)) + 1)), (w64 (s1.2.2 + 1))))) (some (.inr (.brk (s1.1, s1.2.1, s1.2.2)))))

noncomputable def F_laws_markRuleS (p0 : (List GRule)) (p1 : Int) : Option (Int × (List GRule)) :=
  bnd (run (F_laws_markRuleS_L1) (p0, p1, 0)) (Out.elim (fun (s1 : (List GRule) × Int × Int) => some (s1.2.1, s1.1)) (fun (r : Int × (List GRule)) => some r))


noncomputable def F_laws_heldConfig (p0 : GConfig) (p1 : Int) : Option (Int) :=
  bnd (F_laws_heldInt64S p0.Left p1) fun r2 => (cond (decide (r2 < 0)) (some (-1)) (bnd (F_laws_heldInt64S p0.Right r2) fun r5 => (cond (decide (r5 < 0)) (some (-1)) (some r5))))


noncomputable def F_laws_FnExactConfigOfRow (p0 : GMachine) (p1 : (List Int)) : Option (Bool) :=
  (cond (decide (1048576 < (p1.length : Int))) (some true) (bnd (F_laws_szMachine p0 1048576) fun r3 => (cond (decide (r3 < 0)) (some true) (bnd (F_laws_toMachine p0) fun r6 => bnd (F_laws_toInt64S p1) fun r9 => bnd (F_spec_ConfigOfRow r6 r9) fun r12 => bnd (F_laws_toMachine p0) fun r16 => bnd (F_laws_toInt64S p1) fun r20 => bnd (F_impl_ConfigOfRow r16 r20) fun r23 => bnd (bnd (F_laws_eqConfig r23.1 r12.1) fun r29 => (cond (!r29) (some (.ret false)) (cond (decide (r23.2.1 ≠ r12.2.1)) (some (.ret false)) (cond (decide (r23.2.2 ≠ r12.2.2)) (some (.ret false)) (some (.brk ()))))) : Option (Out (Unit) Bool)) (Out.elim (fun (s27 : Unit) => bnd (F_laws_toMachine p0) fun r37 => bnd (F_laws_eqMachine r16 r37) fun r40 => (cond (!r40) (some false) (bnd (F_laws_toInt64S p1) fun r43 => bnd (F_laws_eqInt64S r20 r43) fun r46 => (cond (!r46) (some false) (bnd (F_laws_markRuleS r16.Rules 1) fun r51 => bnd (F_laws_markInt64S r20 r51.1) fun r53 => bnd ((cond (decide (r53.1 < 0)) (some (.ret false)) (bnd (F_laws_eqConfig r23.1 r12.1) fun r58 => (cond (!r58) (some (.ret false)) (cond (decide (r23.2.1 ≠ r12.2.1)) (some (.ret false)) (cond (decide (r23.2.2 ≠ r12.2.2)) (some (.ret false)) (some (.brk ()))))))) : Option (Out (Unit) Bool)) (Out.elim (fun (s55 : Unit) => bnd (F_laws_markInt64S r23.1.Left 1) fun r65 => bnd (F_laws_markInt64S r23.1.Right r65.1) fun r67 => bnd (F_laws_heldConfig (⟨r23.1.State, r65.2, r67.2⟩ : GConfig) 1) fun r69 => (cond (decide (r69 < 0)) (some false) (cond (decide (r69 ≠ r67.1)) (some false) (bnd (F_laws_toMachine p0) fun r73 => bnd (F_laws_toInt64S p1) fun r76 => bnd (F_impl_ConfigOfRow r73 r76) fun r79 => bnd (F_laws_eqConfig r79.1 r12.1) fun r83 => (cond (!r83) (some false) (cond (decide (r79.2.1 ≠ r12.2.1)) (some false) (cond (decide (r79.2.2 ≠ r12.2.2)) (some false) (bnd (F_laws_heldConfig (⟨r23.1.State, r65.2, r67.2⟩ : GConfig) 1) fun r88 => (cond (decide (r88 < 0)) (some false) (cond (decide (r88 ≠ r67.1)) (some false) (some true))))))))))) (fun (r : Bool) => some r))))))) (fun (r : Bool) => some r))))))


noncomputable def F_laws_szRewrite (p0 : GRewrite) (p1 : Int) : Option (Int) :=
  bnd (F_laws_szInt64S p0.From p1) fun r2 => (cond (decide (r2 < 0)) (some (-1)) (bnd (F_laws_szInt64S p0.To r2) fun r5 => (cond (decide (r5 < 0)) (some (-1)) (some r5))))

noncomputable def F_laws_szRewriteS_L1 (p0 : (List GRewrite)) (s2 : Int × Int) : Option ((Int × Int) ⊕ Out (Int × Int) Int) :=
  (cond (decide (s2.2 < (p0.length : Int))) (bnd (idx p0 s2.2) fun y5 => bnd (F_laws_szRewrite y5 s2.1) fun r9 => (cond (decide (r9 < 0)) (some (.inr (.ret (-1)))) (some (.inl (r9, (w64 (s2.2 + 1))))))) (some (.inr (.brk (s2.1, s2.2)))))

noncomputable def F_laws_szRewriteS (p0 : (List GRewrite)) (p1 : Int) : Option (Int) :=
  (cond (decide ((w64 (p1 - (p0.length : Int))) < 0)) (some (-1)) (bnd (run (F_laws_szRewriteS_L1 p0) ((w64 (p1 - (p0.length : Int))), 0)) (Out.elim (fun (s2 : Int × Int) => some s2.1) (fun (r : Int) => some r))))


noncomputable def F_laws_toRewrite (p0 : GRewrite) : Option (GRewrite) :=
  bnd (F_laws_toInt64S p0.From) fun r4 => bnd (F_laws_toInt64S p0.To) fun r7 => some (⟨r4, r7⟩ : GRewrite)

noncomputable def F_laws_toRewriteS_L1 (p0 : (List GRewrite)) (s4 : (List GRewrite) × Int) : Option (((List GRewrite) × Int) ⊕ Out ((List GRewrite) × Int) (List GRewrite)) :=
  (cond (decide (s4.2 < (p0.length : Int))) (bnd (idx p0 s4.2) fun y7 => bnd (F_laws_toRewrite y7) fun r11 => bnd (idx s4.1 s4.2) fun y14 => some (.inl ((s4.1.set s4.2.toNat r11), (w64 (s4.2 + 1))))) (some (.inr (.brk (s4.1, s4.2)))))

noncomputable def F_laws_toRewriteS (p0 : (List GRewrite)) : Option ((List GRewrite)) :=
  bnd (mke (p0.length : Int) (⟨([] : (List Int)), ([] : (List Int))⟩ : GRewrite)) fun z1 => bnd (run (F_laws_toRewriteS_L1 p0) (z1, 0)) (Out.elim (fun (s4 : (List GRewrite) × Int) => some s4.1) (fun (r : (List GRewrite)) => some r))

noncomputable def F_spec_l03Is_L1 (p0 : (List Int)) (s1 : Int) : Option ((Int) ⊕ Out (Int) Bool) :=
  (cond (decide (s1 < (p0.length : Int))) (bnd (idx p0 s1) fun y4 => bnd (F_spec_l00In y4 0 9) fun r8 => (cond (!r8) (some (.inr (.ret false))) (some (.inl (w64 (s1 + 1)))))) (some (.inr (.brk s1))))

noncomputable def F_spec_l03Is (p0 : (List Int)) : Option (Bool) :=
  bnd (run (F_spec_l03Is_L1 p0) 0) (Out.elim (fun (s1 : Int) => some (decide ((p0.length : Int) ≤ 400))) (fun (r : Bool) => some r))

noncomputable def F_spec_l10Is_L1 (p0 : (List GRewrite)) (s5 : Int) : Option ((Int) ⊕ Out (Int) Bool) :=
  (cond (decide (s5 < (p0.length : Int))) (bnd (idx p0 s5) fun y8 => bnd (F_spec_l03Is y8.From) fun r13 => (cond (!r13) (some (.inr (.ret false))) (bnd (idx p0 s5) fun y16 => bnd (F_spec_l03Is y16.To) fun r21 => (cond (!r21) (some (.inr (.ret false))) (bnd (idx p0 s5) fun y24 => (cond (decide ((y24.From.length : Int) = 0)) (some (.inr (.ret false))) (some (.inl (w64 (s5 + 1)))))))))) (some (.inr (.brk s5))))

noncomputable def F_spec_l10Is (p0 : (List GRewrite)) : Option (Bool) :=
  bnd ((cond (decide ((p0.length : Int) < 1)) (some (.ret false)) (cond (decide (60 < (p0.length : Int))) (some (.ret false)) (some (.brk ())))) : Option (Out (Unit) Bool)) (Out.elim (fun (s1 : Unit) => bnd (run (F_spec_l10Is_L1 p0) 0) (Out.elim (fun (s5 : Int) => some true) (fun (r : Bool) => some r))) (fun (r : Bool) => some r))


noncomputable def F_spec_l32Ready (p0 : (List GRewrite)) (p1 : (List Int)) (p2 : (List Int)) : Option (Bool) :=
  bnd (F_spec_l10Is p0) fun r1 => (cond r1 (bnd (F_spec_l03Is p1) fun r4 => (cond r4 (bnd (F_spec_l03Is p2) fun r7 => some r7) (some false))) (some false))

noncomputable def F_spec_l06Row_L1 (p0 : (List Int)) (p2 : Int) (p3 : Int) (s2 : Int) : Option ((Int) ⊕ Out (Int) Bool) :=
  (cond (decide (s2 < (p0.length : Int))) (bnd (idx p0 s2) fun y5 => bnd (F_spec_l00In y5 p2 p3) fun r9 => (cond (!r9) (some (.inr (.ret false))) (some (.inl (w64 (s2 + 1)))))) (some (.inr (.brk s2))))

noncomputable def F_spec_l06Row (p0 : (List Int)) (p1 : Int) (p2 : Int) (p3 : Int) : Option (Bool) :=
  (cond (decide ((p0.length : Int) ≠ p1)) (some false) (bnd (run (F_spec_l06Row_L1 p0 p2 p3) 0) (Out.elim (fun (s2 : Int) => some true) (fun (r : Bool) => some r))))

noncomputable def F_spec_l32Least_L1 (p0 : (List GDomino)) (p1 : Int) (s1 : Int) : Option ((Int) ⊕ Out (Int) Bool) :=
  (cond (decide (s1 < (p0.length : Int))) (bnd (idx p0 s1) fun y4 => bnd (idx p0 s1) fun y9 => bnd (F_spec_l06Row y4.Top (y9.Top.length : Int) 0 p1) fun r17 => (cond (!r17) (some (.inr (.ret false))) (bnd (idx p0 s1) fun y20 => bnd (idx p0 s1) fun y28 => bnd (F_spec_l06Row y20.Bottom (y28.Bottom.length : Int) 0 p1) fun r36 => (cond (!r36) (some (.inr (.ret false))) (some (.inl (w64 (s1 + 1)))))))) (some (.inr (.brk s1))))

noncomputable def F_spec_l32Least (p0 : (List GDomino)) (p1 : Int) : Option (Bool) :=
  bnd (run (F_spec_l32Least_L1 p0 p1) 0) (Out.elim (fun (s1 : Int) => some true) (fun (r : Bool) => some r))

noncomputable def F_spec_l32Is_L1 (p0 : (List GDomino)) (s5 : Int) : Option ((Int) ⊕ Out (Int) Bool) :=
  (cond (decide (s5 < (p0.length : Int))) (bnd (idx p0 s5) fun y8 => bnd (F_spec_l03Is y8.Top) fun r16 => (cond (!r16) (some (.inr (.ret false))) (bnd (idx p0 s5) fun y19 => bnd (F_spec_l03Is y19.Bottom) fun r27 => (cond (!r27) (some (.inr (.ret false))) (bnd (idx p0 s5) fun y30 => bnd (idx p0 s5) fun y38 => (cond (decide ((w64 ((y30.Top.length : Int) + (y38.Bottom.length : Int))) = 0)) (some (.inr (.ret false))) (some (.inl (w64 (s5 + 1)))))))))) (some (.inr (.brk s5))))

noncomputable def F_spec_l32Is (p0 : (List GDomino)) : Option (Bool) :=
  bnd ((cond (decide ((p0.length : Int) < 1)) (some (.ret false)) (cond (decide (80 < (p0.length : Int))) (some (.ret false)) (some (.brk ())))) : Option (Out (Unit) Bool)) (Out.elim (fun (s1 : Unit) => bnd (run (F_spec_l32Is_L1 p0) 0) (Out.elim (fun (s5 : Int) => some true) (fun (r : Bool) => some r))) (fun (r : Bool) => some r))

noncomputable def F_spec_l32Rules_L1 (s11 : (List GDomino) × Int) : Option (((List GDomino) × Int) ⊕ Out ((List GDomino) × Int) ((List GDomino) × Int)) :=
  (cond (decide (s11.2 ≤ 5)) (bnd (app s11.1 ([(⟨([s11.2] : List Int), ([s11.2] : List Int)⟩ : GDomino)] : List GDomino)) fun z17 => some (.inl (z17, (w64 (s11.2 + 1))))) (some (.inr (.brk (s11.1, s11.2)))))

noncomputable def F_spec_l32Rules_L2 (p0 : (List GRewrite)) (s26 : (List GDomino) × Int) : Option (((List GDomino) × Int) ⊕ Out ((List GDomino) × Int) ((List GDomino) × Int)) :=
  (cond (decide (s26.2 < (p0.length : Int))) (bnd (idx p0 s26.2) fun y29 => bnd (idx p0 s26.2) fun y34 => bnd (F_spec_l00Own y29.From) fun r42 => bnd (F_spec_l00Own y34.To) fun r45 => bnd (app s26.1 ([(⟨r42, r45⟩ : GDomino)] : List GDomino)) fun z49 => some (.inl (z49, (w64 (s26.2 + 1))))) (some (.inr (.brk (s26.1, s26.2)))))

noncomputable def F_spec_l32Rules (p0 : (List GRewrite)) (p1 : (List Int)) (p2 : (List Int)) : Option ((List GDomino) × Int) :=
  bnd (app ([6] : List Int) p1) fun z3 => bnd (app z3 ([6] : List Int)) fun z7 => bnd (run (F_spec_l32Rules_L1) (([(⟨([6] : List Int), z7⟩ : GDomino)] : List GDomino), 0)) (Out.elim (fun (s11 : (List GDomino) × Int) => bnd (app s11.1 ([(⟨([6] : List Int), ([6] : List Int)⟩ : GDomino)] : List GDomino)) fun z23 => bnd (run (F_spec_l32Rules_L2 p0) (z23, 0)) (Out.elim (fun (s26 : (List GDomino) × Int) => bnd (bnd (slc s26.1 8 (s26.1.length : Int)) fun z54 => bnd (F_spec_l32Least z54 5) fun r57 => (cond (!r57) (some (.ret (([] : (List GDomino)), 2))) (bnd (F_spec_l06Row p1 (p1.length : Int) 0 5) fun r60 => (cond (!r60) (some (.ret (([] : (List GDomino)), 2))) (bnd (F_spec_l06Row p2 (p2.length : Int) 0 5) fun r63 => (cond (!r63) (some (.ret (([] : (List GDomino)), 2))) (some (.brk ()))))))) : Option (Out (Unit) ((List GDomino) × Int))) (Out.elim (fun (s52 : Unit) => bnd (F_spec_l00Own p2) fun r66 => bnd (app r66 ([6, 7] : List Int)) fun z70 => bnd (app s26.1 ([(⟨z70, ([7] : List Int)⟩ : GDomino)] : List GDomino)) fun z75 => bnd (F_spec_l32Is z75) fun r78 => (cond (!r78) (some (([] : (List GDomino)), 5)) (some (z75, 0)))) (fun (r : (List GDomino) × Int) => some r))) (fun (r : (List GDomino) × Int) => some r))) (fun (r : (List GDomino) × Int) => some r))


noncomputable def F_spec_RewritesToDominoes (p0 : (List GRewrite)) (p1 : (List Int)) (p2 : (List Int)) : Option ((List GDomino) × Int) :=
  bnd (F_spec_l32Ready p0 p1 p2) fun r1 => (cond (!r1) (some (([] : (List GDomino)), 1)) (bnd (F_spec_l32Rules p0 p1 p2) fun r4 => some (r4.1, r4.2)))


noncomputable def F_impl_size_impl_Rewrite (p0 : (List GRewrite)) : Option (Int) :=
  some (p0.length : Int)

noncomputable def F_slices_IndexFunc_Simpl_Rewrite_impl_Rewrite_L1 (p0 : (List GRewrite)) (p1 : (GRewrite → Option Bool)) (s1 : Int) : Option ((Int) ⊕ Out (Int) Int) :=
  (cond (decide (s1 < (p0.length : Int))) (bnd (idx p0 s1) fun y4 => bnd (p1 y4) fun r8 => (cond r8 (some (.inr (.ret s1))) (some (.inl (w64 (s1 + 1)))))) (some (.inr (.brk s1))))

noncomputable def F_slices_IndexFunc_Simpl_Rewrite_impl_Rewrite (p0 : (List GRewrite)) (p1 : (GRewrite → Option Bool)) : Option (Int) :=
  bnd (run (F_slices_IndexFunc_Simpl_Rewrite_impl_Rewrite_L1 p0 p1) 0) (Out.elim (fun (s1 : Int) => some (-1)) (fun (r : Int) => some r))


noncomputable def F_slices_ContainsFunc_Simpl_Rewrite_impl_Rewrite (p0 : (List GRewrite)) (p1 : (GRewrite → Option Bool)) : Option (Bool) :=
  bnd (F_slices_IndexFunc_Simpl_Rewrite_impl_Rewrite p0 p1) fun r1 => some (decide (0 ≤ r1))


noncomputable def F_impl_isLetters (p0 : (List Int)) : Option (Bool) :=
  bnd (F_impl_allWithin p0 0 9) fun r1 => some r1


noncomputable def F_impl_IsWord (p0 : (List Int)) : Option (Bool) :=
  (cond (decide ((p0.length : Int) ≤ 400)) (bnd (F_impl_isLetters p0) fun r2 => some r2) (some false))


noncomputable def F_impl_areWords_1 (p0 : (List Int)) : Option (Bool) :=
  bnd (F_impl_IsWord p0) fun r1 => some (!r1)


noncomputable def F_impl_areWords (p0 : (List (List Int))) : Option (Bool) :=
  bnd (F_slices_ContainsFunc_SSint64_Sint64 p0 (fun x_ => F_impl_areWords_1 x_)) fun r1 => some (!r1)


noncomputable def F_impl_ValidRewrites_1 (p0 : GRewrite) : Option (Bool) :=
  bnd (F_impl_areWords ([p0.From, p0.To] : List (List Int))) fun r3 => (cond (!r3) (some true) (some (decide ((p0.From.length : Int) = 0))))


noncomputable def F_impl_ValidRewrites (p0 : (List GRewrite)) : Option (Bool) :=
  bnd (F_impl_size_impl_Rewrite p0) fun r1 => bnd (F_impl_within r1 1 60) fun r3 => (cond r3 (bnd (F_slices_ContainsFunc_Simpl_Rewrite_impl_Rewrite p0 (fun x_ => F_impl_ValidRewrites_1 x_)) fun r6 => some (!r6)) (some false))

noncomputable def F_slices_Concat_Sint64_int64_L1 (p0 : (List (List Int))) (s1 : Int × Int) : Option ((Int × Int) ⊕ Out (Int × Int) (List Int)) :=
  (cond (decide (s1.2 < (p0.length : Int))) (bnd (idx p0 s1.2) fun y4 => (cond (decide ((w64 (s1.1 + (y4.length : Int))) < 0)) none (some (.inl ((w64 (s1.1 + (y4.length : Int))), (w64 (s1.2 + 1))))))) (some (.inr (.brk (s1.1, s1.2)))))

noncomputable def F_slices_Concat_Sint64_int64_L2 (p0 : (List (List Int))) (s20 : (List Int) × Int) : Option (((List Int) × Int) ⊕ Out ((List Int) × Int) (List Int)) :=
  (cond (decide (s20.2 < (p0.length : Int))) (bnd (idx p0 s20.2) fun y23 => bnd (app s20.1 y23) fun z27 => some (.inl (z27, (w64 (s20.2 + 1))))) (some (.inr (.brk (s20.1, s20.2)))))

noncomputable def F_slices_Concat_Sint64_int64_L3 (p0 : (List (List Int))) (s30 : (List Int) × Int) : Option (((List Int) × Int) ⊕ Out ((List Int) × Int) (List Int)) :=
  (cond (decide (s30.2 < (p0.length : Int))) (bnd (idx p0 s30.2) fun y33 => bnd (app s30.1 y33) fun z37 => some (.inl (z37, (w64 (s30.2 + 1))))) (some (.inr (.brk (s30.1, s30.2)))))

noncomputable def F_slices_Concat_Sint64_int64 (p0 : (List (List Int))) : Option ((List Int)) :=
  bnd (run (F_slices_Concat_Sint64_int64_L1 p0) (0, 0)) (Out.elim (fun (s1 : Int × Int) => bnd ((cond (decide (s1.1 < 0)) none (some (.brk ()))) : Option (Out (Unit) (Option ((List Int))))) (Out.elim (fun (s10 : Unit) => (cond (decide (0 < (w64 (s1.1 - (w64 (((0 : Nat) : Int) - ((0 : Nat) : Int))))))) (bnd (mke (w64 (s1.1 - (w64 (((0 : Nat) : Int) - ((0 : Nat) : Int))))) (0 : Int)) fun z14 => bnd (slc z14 0 ((0 : Nat) : Int)) fun z17 => bnd (run (F_slices_Concat_Sint64_int64_L2 p0) (z17, 0)) (Out.elim (fun (s20 : (List Int) × Int) => some s20.1) (fun (r : (List Int)) => some r))) (bnd (run (F_slices_Concat_Sint64_int64_L3 p0) (([] : (List Int)), 0)) (Out.elim (fun (s30 : (List Int) × Int) => some s30.1) (fun (r : (List Int)) => some r))))) (fun (r : Option ((List Int))) => r))) (fun (r : (List Int)) => some r))


noncomputable def F_impl_joined (p0 : (List (List Int))) : Option ((List Int)) :=
  bnd (F_slices_Concat_Sint64_int64 p0) fun r1 => some r1


noncomputable def F_impl_size_impl_Domino (p0 : (List GDomino)) : Option (Int) :=
  some (p0.length : Int)

noncomputable def F_slices_IndexFunc_Simpl_Domino_impl_Domino_L1 (p0 : (List GDomino)) (p1 : (GDomino → Option Bool)) (s1 : Int) : Option ((Int) ⊕ Out (Int) Int) :=
  (cond (decide (s1 < (p0.length : Int))) (bnd (idx p0 s1) fun y4 => bnd (p1 y4) fun r8 => (cond r8 (some (.inr (.ret s1))) (some (.inl (w64 (s1 + 1)))))) (some (.inr (.brk s1))))

noncomputable def F_slices_IndexFunc_Simpl_Domino_impl_Domino (p0 : (List GDomino)) (p1 : (GDomino → Option Bool)) : Option (Int) :=
  bnd (run (F_slices_IndexFunc_Simpl_Domino_impl_Domino_L1 p0 p1) 0) (Out.elim (fun (s1 : Int) => some (-1)) (fun (r : Int) => some r))


noncomputable def F_slices_ContainsFunc_Simpl_Domino_impl_Domino (p0 : (List GDomino)) (p1 : (GDomino → Option Bool)) : Option (Bool) :=
  bnd (F_slices_IndexFunc_Simpl_Domino_impl_Domino p0 p1) fun r1 => some (decide (0 ≤ r1))


noncomputable def F_impl_validDomino (p0 : GDomino) : Option (Bool) :=
  bnd (F_impl_areWords ([p0.Top, p0.Bottom] : List (List Int))) fun r3 => (cond r3 (some (decide (0 < (w64 ((p0.Top.length : Int) + (p0.Bottom.length : Int)))))) (some false))


noncomputable def F_impl_ValidDominoes_1 (p0 : GDomino) : Option (Bool) :=
  bnd (F_impl_validDomino p0) fun r2 => some (!r2)


noncomputable def F_impl_ValidDominoes (p0 : (List GDomino)) : Option (Bool) :=
  bnd (F_impl_size_impl_Domino p0) fun r1 => bnd (F_impl_within r1 1 80) fun r3 => (cond r3 (bnd (F_slices_ContainsFunc_Simpl_Domino_impl_Domino p0 (fun x_ => F_impl_ValidDominoes_1 x_)) fun r6 => some (!r6)) (some false))

noncomputable def F_impl_rewritesToDominoes_L1 (s7 : (List GDomino) × Int) : Option (((List GDomino) × Int) ⊕ Out ((List GDomino) × Int) ((List GDomino) × Int)) :=
  (cond (decide (s7.2 < 6)) (bnd (app s7.1 ([(⟨([s7.2] : List Int), ([s7.2] : List Int)⟩ : GDomino)] : List GDomino)) fun z13 => some (.inl (z13, (w64 (s7.2 + 1))))) (some (.inr (.brk (s7.1, s7.2)))))

noncomputable def F_impl_rewritesToDominoes_L2 (p0 : (List GRewrite)) (s32 : (List GDomino) × Bool × Int) : Option (((List GDomino) × Bool × Int) ⊕ Out ((List GDomino) × Bool × Int) ((List GDomino) × Int)) :=
  (cond (decide (s32.2.2 < (p0.length : Int))) (bnd (idx p0 s32.2.2) fun y35 => (cond s32.2.1 (bnd (F_impl_joined ([y35.From, y35.To] : List (List Int))) fun r42 => bnd (F_impl_allWithin r42 0 5) fun r45 => bnd (F_slices_Clone_Sint64_int64 y35.From) fun r50 => bnd (F_slices_Clone_Sint64_int64 y35.To) fun r53 => bnd (app s32.1 ([(⟨r50, r53⟩ : GDomino)] : List GDomino)) fun z57 => some (.inl (z57, r45, (w64 (s32.2.2 + 1))))) (bnd (F_slices_Clone_Sint64_int64 y35.From) fun r63 => bnd (F_slices_Clone_Sint64_int64 y35.To) fun r66 => bnd (app s32.1 ([(⟨r63, r66⟩ : GDomino)] : List GDomino)) fun z70 => some (.inl (z70, false, (w64 (s32.2.2 + 1))))))) (some (.inr (.brk (s32.1, s32.2.1, s32.2.2)))))

noncomputable def F_impl_rewritesToDominoes (p0 : (List GRewrite)) (p1 : (List Int)) (p2 : (List Int)) : Option ((List GDomino) × Int) :=
  bnd (F_impl_joined ([([6] : List Int), p1, ([6] : List Int)] : List (List Int))) fun r3 => bnd (run (F_impl_rewritesToDominoes_L1) (([(⟨([6] : List Int), r3⟩ : GDomino)] : List GDomino), 0)) (Out.elim (fun (s7 : (List GDomino) × Int) => bnd (F_slices_Clone_Sint64_int64 ([6] : List Int)) fun r16 => bnd (F_slices_Clone_Sint64_int64 ([6] : List Int)) fun r19 => bnd (app s7.1 ([(⟨r16, r19⟩ : GDomino)] : List GDomino)) fun z23 => bnd (F_impl_joined ([p1, p2] : List (List Int))) fun r27 => bnd (F_impl_allWithin r27 0 5) fun r30 => bnd (run (F_impl_rewritesToDominoes_L2 p0) (z23, r30, 0)) (Out.elim (fun (s32 : (List GDomino) × Bool × Int) => bnd (F_impl_joined ([p2, ([6, 7] : List Int)] : List (List Int))) fun r75 => bnd (app s32.1 ([(⟨r75, ([7] : List Int)⟩ : GDomino)] : List GDomino)) fun z80 => (cond (!s32.2.1) (some (([] : (List GDomino)), 2)) (bnd (F_impl_ValidDominoes z80) fun r84 => (cond (!r84) (some (([] : (List GDomino)), 5)) (some (z80, 0)))))) (fun (r : (List GDomino) × Int) => some r))) (fun (r : (List GDomino) × Int) => some r))


noncomputable def F_impl_RewritesToDominoes (p0 : (List GRewrite)) (p1 : (List Int)) (p2 : (List Int)) : Option ((List GDomino) × Int) :=
  bnd (F_impl_ValidRewrites p0) fun r1 => (cond (!r1) (some (([] : (List GDomino)), 1)) (bnd (F_impl_areWords ([p1, p2] : List (List Int))) fun r5 => (cond (!r5) (some (([] : (List GDomino)), 1)) (bnd (F_impl_rewritesToDominoes p0 p1 p2) fun r8 => some (r8.1, r8.2)))))


noncomputable def F_laws_eqDomino (p0 : GDomino) (p1 : GDomino) : Option (Bool) :=
  bnd (F_laws_eqInt64S p0.Top p1.Top) fun r3 => (cond (!r3) (some false) (bnd (F_laws_eqInt64S p0.Bottom p1.Bottom) fun r6 => (cond (!r6) (some false) (some true))))

noncomputable def F_laws_eqDominoS_L1 (p0 : (List GDomino)) (p1 : (List GDomino)) (s2 : Int) : Option ((Int) ⊕ Out (Int) Bool) :=
  (cond (decide (s2 < (p0.length : Int))) (bnd (idx p0 s2) fun y5 => bnd (idx p1 s2) fun y9 => bnd (F_laws_eqDomino y5 y9) fun r16 => (cond (!r16) (some (.inr (.ret false))) (some (.inl (w64 (s2 + 1)))))) (some (.inr (.brk s2))))

noncomputable def F_laws_eqDominoS (p0 : (List GDomino)) (p1 : (List GDomino)) : Option (Bool) :=
  (cond (decide ((p0.length : Int) ≠ (p1.length : Int))) (some false) (bnd (run (F_laws_eqDominoS_L1 p0 p1) 0) (Out.elim (fun (s2 : Int) => some true) (fun (r : Bool) => some r))))


noncomputable def F_laws_eqRewrite (p0 : GRewrite) (p1 : GRewrite) : Option (Bool) :=
  bnd (F_laws_eqInt64S p0.From p1.From) fun r3 => (cond (!r3) (some false) (bnd (F_laws_eqInt64S p0.To p1.To) fun r6 => (cond (!r6) (some false) (some true))))

noncomputable def F_laws_eqRewriteS_L1 (p0 : (List GRewrite)) (p1 : (List GRewrite)) (s2 : Int) : Option ((Int) ⊕ Out (Int) Bool) :=
  (cond (decide (s2 < (p0.length : Int))) (bnd (idx p0 s2) fun y5 => bnd (idx p1 s2) fun y9 => bnd (F_laws_eqRewrite y5 y9) fun r16 => (cond (!r16) (some (.inr (.ret false))) (some (.inl (w64 (s2 + 1)))))) (some (.inr (.brk s2))))

noncomputable def F_laws_eqRewriteS (p0 : (List GRewrite)) (p1 : (List GRewrite)) : Option (Bool) :=
  (cond (decide ((p0.length : Int) ≠ (p1.length : Int))) (some false) (bnd (run (F_laws_eqRewriteS_L1 p0 p1) 0) (Out.elim (fun (s2 : Int) => some true) (fun (r : Bool) => some r))))

noncomputable def F_laws_markRewriteS_L1 (s1 : (List GRewrite) × Int × Int) : Option (((List GRewrite) × Int × Int) ⊕ Out ((List GRewrite) × Int × Int) (Int × (List GRewrite))) :=
  (cond (decide (s1.2.2 < (s1.1.length : Int))) (bnd (idx s1.1 s1.2.2) fun y4 => bnd (F_laws_markInt64S y4.From s1.2.1) fun r10 => bnd (idx (s1.1.set s1.2.2.toNat (⟨r10.2, y4.To⟩ : GRewrite)) s1.2.2) fun y12 => bnd (F_laws_markInt64S y12.To r10.1) fun r15 => some (.inl (((s1.1.set s1.2.2.toNat (⟨r10.2, y4.To⟩ : GRewrite)).set s1.2.2.toNat (⟨y12.From, r15.2⟩ : GRewrite)), r15.1, (w64 (s1.2.2 + 1))))) (some (.inr (.brk (s1.1, s1.2.1, s1.2.2)))))

noncomputable def F_laws_markRewriteS (p0 : (List GRewrite)) (p1 : Int) : Option (Int × (List GRewrite)) :=
  bnd (run (F_laws_markRewriteS_L1) (p0, p1, 0)) (Out.elim (fun (s1 : (List GRewrite) × Int × Int) => some (s1.2.1, s1.1)) (fun (r : Int × (List GRewrite)) => some r))

noncomputable def F_laws_markDominoS_L1 (s1 : (List GDomino) × Int × Int) : Option (((List GDomino) × Int × Int) ⊕ Out ((List GDomino) × Int × Int) (Int × (List GDomino))) :=
  (cond (decide (s1.2.2 < (s1.1.length : Int))) (bnd (idx s1.1 s1.2.2) fun y4 => bnd (F_laws_markInt64S y4.Top s1.2.1) fun r10 => bnd (idx (s1.1.set s1.2.2.toNat (⟨r10.2, y4.Bottom⟩ : GDomino)) s1.2.2) fun y12 => bnd (F_laws_markInt64S y12.Bottom r10.1) fun r15 => some (.inl (((s1.1.set s1.2.2.toNat (⟨r10.2, y4.Bottom⟩ : GDomino)).set s1.2.2.toNat (⟨y12.Top, r15.2⟩ : GDomino)), r15.1, (w64 (s1.2.2 + 1))))) (some (.inr (.brk (s1.1, s1.2.1, s1.2.2)))))

noncomputable def F_laws_markDominoS (p0 : (List GDomino)) (p1 : Int) : Option (Int × (List GDomino)) :=
  bnd (run (F_laws_markDominoS_L1) (p0, p1, 0)) (Out.elim (fun (s1 : (List GDomino) × Int × Int) => some (s1.2.1, s1.1)) (fun (r : Int × (List GDomino)) => some r))

noncomputable def F_laws_heldDominoS_L1 (p0 : (List GDomino)) (s1 : Int × Int) : Option ((Int × Int) ⊕ Out (Int × Int) Int) :=
  (cond (decide (s1.2 < (p0.length : Int))) (bnd (idx p0 s1.2) fun y4 => bnd (F_laws_heldInt64S y4.Top s1.1) fun r9 => (cond (decide (r9 < 0)) (some (.inr (.ret (-1)))) (bnd (idx p0 s1.2) fun y12 => bnd (F_laws_heldInt64S y12.Bottom r9) fun r17 => (cond (decide (r17 < 0)) (some (.inr (.ret (-1)))) (some (.inl (r17, (w64 (s1.2 + 1))))))))) (some (.inr (.brk (s1.1, s1.2)))))

noncomputable def F_laws_heldDominoS (p0 : (List GDomino)) (p1 : Int) : Option (Int) :=
  bnd (run (F_laws_heldDominoS_L1 p0) (p1, 0)) (Out.elim (fun (s1 : Int × Int) => some s1.1) (fun (r : Int) => some r))


noncomputable def F_laws_FnExactRewritesToDominoes (p0 : (List GRewrite)) (p1 : (List Int)) (p2 : (List Int)) : Option (Bool) :=
  (cond (decide (1048576 < (p1.length : Int))) (some true) (cond (decide (1048576 < (p2.length : Int))) (some true) (bnd (F_laws_szRewriteS p0 1048576) fun r3 => (cond (decide (r3 < 0)) (some true) (bnd (F_laws_toRewriteS p0) fun r6 => bnd (F_laws_toInt64S p1) fun r9 => bnd (F_laws_toInt64S p2) fun r12 => bnd (F_spec_RewritesToDominoes r6 r9 r12) fun r15 => bnd (F_laws_toRewriteS p0) fun r18 => bnd (F_laws_toInt64S p1) fun r21 => bnd (F_laws_toInt64S p2) fun r24 => bnd (F_impl_RewritesToDominoes r18 r21 r24) fun r27 => bnd (bnd (F_laws_eqDominoS r27.1 r15.1) fun r32 => (cond (!r32) (some (.ret false)) (cond (decide (r27.2 ≠ r15.2)) (some (.ret false)) (some (.brk ())))) : Option (Out (Unit) Bool)) (Out.elim (fun (s30 : Unit) => bnd (F_laws_toRewriteS p0) fun r36 => bnd (F_laws_eqRewriteS r18 r36) fun r39 => (cond (!r39) (some false) (bnd (F_laws_toInt64S p1) fun r42 => bnd (F_laws_eqInt64S r21 r42) fun r45 => (cond (!r45) (some false) (bnd (F_laws_toInt64S p2) fun r48 => bnd (F_laws_eqInt64S r24 r48) fun r51 => (cond (!r51) (some false) (bnd (F_laws_markRewriteS r18 1) fun r54 => bnd (F_laws_markInt64S r21 r54.1) fun r56 => bnd (F_laws_markInt64S r24 r56.1) fun r58 => bnd ((cond (decide (r58.1 < 0)) (some (.ret false)) (bnd (F_laws_eqDominoS r27.1 r15.1) fun r63 => (cond (!r63) (some (.ret false)) (cond (decide (r27.2 ≠ r15.2)) (some (.ret false)) (some (.brk ())))))) : Option (Out (Unit) Bool)) (Out.elim (fun (s60 : Unit) => bnd (F_laws_markDominoS r27.1 1) fun r67 => bnd (F_laws_heldDominoS r67.2 1) fun r69 => (cond (decide (r69 < 0)) (some false) (cond (decide (r69 ≠ r67.1)) (some false) (bnd (F_laws_toRewriteS p0) fun r73 => bnd (F_laws_toInt64S p1) fun r76 => bnd (F_laws_toInt64S p2) fun r79 => bnd (F_impl_RewritesToDominoes r73 r76 r79) fun r82 => bnd (F_laws_eqDominoS r82.1 r15.1) fun r85 => (cond (!r85) (some false) (cond (decide (r82.2 ≠ r15.2)) (some false) (bnd (F_laws_heldDominoS r67.2 1) fun r89 => (cond (decide (r89 < 0)) (some false) (cond (decide (r89 ≠ r67.1)) (some false) (some true)))))))))) (fun (r : Bool) => some r))))))))) (fun (r : Bool) => some r)))))))


noncomputable def F_laws_szConfig (p0 : GConfig) (p1 : Int) : Option (Int) :=
  bnd (F_laws_szInt64S p0.Left p1) fun r2 => (cond (decide (r2 < 0)) (some (-1)) (bnd (F_laws_szInt64S p0.Right r2) fun r5 => (cond (decide (r5 < 0)) (some (-1)) (some r5))))


noncomputable def F_laws_toConfig (p0 : GConfig) : Option (GConfig) :=
  bnd (F_laws_toInt64S p0.Left) fun r4 => bnd (F_laws_toInt64S p0.Right) fun r7 => some (⟨p0.State, r4, r7⟩ : GConfig)

noncomputable def F_spec_l05Cells_L1 (p0 : GMachine) (p1 : (List Int)) (s1 : Int) : Option ((Int) ⊕ Out (Int) Bool) :=
  (cond (decide (s1 < (p1.length : Int))) (bnd (idx p1 s1) fun y4 => bnd (F_spec_l00In y4 0 (w64 (p0.Symbols - 1))) fun r13 => (cond (!r13) (some (.inr (.ret false))) (some (.inl (w64 (s1 + 1)))))) (some (.inr (.brk s1))))

noncomputable def F_spec_l05Cells (p0 : GMachine) (p1 : (List Int)) : Option (Bool) :=
  bnd (run (F_spec_l05Cells_L1 p0 p1) 0) (Out.elim (fun (s1 : Int) => (cond (decide ((p1.length : Int) ≤ 200)) (cond (decide ((p1.length : Int) = 0)) (some true) (bnd (idx p1 (w64 ((p1.length : Int) - 1))) fun y18 => some (decide (y18 ≠ 0)))) (some false))) (fun (r : Bool) => some r))


noncomputable def F_spec_l05Good (p0 : GMachine) (p1 : GConfig) : Option (Bool) :=
  bnd (F_spec_l00In p1.State 0 (w64 (p0.States - 1))) fun r8 => (cond r8 (bnd (F_spec_l05Cells p0 p1.Left) fun r15 => (cond r15 (bnd (F_spec_l05Cells p0 p1.Right) fun r22 => some r22) (some false))) (some false))


noncomputable def F_spec_l16Border (p0 : GMachine) : Option (Int) :=
  some (w64 (p0.Symbols + p0.States))


noncomputable def F_spec_l16Word (p0 : GMachine) (p1 : GConfig) : Option ((List Int)) :=
  bnd (F_spec_l16Border p0) fun r1 => bnd (F_spec_l03Reverse p1.Left) fun r6 => bnd (app ([r1] : List Int) r6) fun z9 => bnd (app z9 ([(w64 (p0.Symbols + p1.State))] : List Int)) fun z20 => bnd (app z20 p1.Right) fun z25 => bnd (F_spec_l16Border p0) fun r28 => bnd (app z25 ([r28] : List Int)) fun z31 => some z31


noncomputable def F_spec_l32Eraser (p0 : GMachine) : Option (Int) :=
  bnd (F_spec_l16Border p0) fun r1 => some (w64 (r1 + 1))


noncomputable def F_spec_l32Target (p0 : GMachine) : Option ((List Int)) :=
  bnd (F_spec_l16Border p0) fun r1 => bnd (F_spec_l32Eraser p0) fun r3 => bnd (F_spec_l16Border p0) fun r5 => some ([r1, r3, r5] : List Int)


noncomputable def F_spec_HaltWords (p0 : GMachine) (p1 : GConfig) : Option ((List Int) × (List Int) × Int) :=
  bnd (bnd (F_spec_l05Is p0) fun r5 => (cond (!r5) (some (.ret (([] : (List Int)), ([] : (List Int)), 1))) (bnd (F_spec_l05Good p0 p1) fun r8 => (cond (!r8) (some (.ret (([] : (List Int)), ([] : (List Int)), 1))) (some (.brk ()))))) : Option (Out (Unit) ((List Int) × (List Int) × Int))) (Out.elim (fun (s3 : Unit) => bnd (F_spec_l16Word p0 p1) fun r11 => bnd (F_spec_l32Eraser p0) fun r14 => (cond (decide (5 < r14)) (some (([] : (List Int)), ([] : (List Int)), 5)) (cond (decide (400 < (r11.length : Int))) (some (([] : (List Int)), ([] : (List Int)), 5)) (bnd (F_spec_l32Target p0) fun r18 => some (r11, r18, 0))))) (fun (r : (List Int) × (List Int) × Int) => some r))


noncomputable def F_impl_validSide (p0 : (List Int)) (p1 : Int) (p2 : Int) : Option (Bool) :=
  bnd (F_impl_size_int64 p0) fun r1 => (cond (decide (r1 ≤ p2)) (bnd (F_impl_allWithin p0 0 (w64 (p1 - 1))) fun r4 => (cond r4 (cond (decide ((p0.length : Int) = 0)) (some true) (bnd (idx p0 (w64 ((p0.length : Int) - 1))) fun y8 => some (decide (y8 ≠ 0)))) (some false))) (some false))


noncomputable def F_impl_configOf (p0 : GMachine) (p1 : GConfig) : Option (Bool) :=
  bnd (F_impl_within p1.State 0 (w64 (p0.States - 1))) fun r3 => (cond r3 (bnd (F_impl_validSide p1.Left p0.Symbols 200) fun r6 => (cond r6 (bnd (F_impl_validSide p1.Right p0.Symbols 200) fun r9 => some r9) (some false))) (some false))


noncomputable def F_impl_ValidConfig (p0 : GMachine) (p1 : GConfig) : Option (Bool) :=
  bnd (F_impl_ValidMachine p0) fun r3 => (cond r3 (bnd (F_impl_configOf p0 p1) fun r6 => some r6) (some false))


noncomputable def F_impl_alphabetOf (p0 : GMachine) : Option (Galphabet × Int) :=
  (cond (decide (9 < (w64 (p0.Symbols + p0.States)))) (some ((⟨0, 0⟩ : Galphabet), 5)) (some ((⟨p0.Symbols, (w64 (p0.Symbols + p0.States))⟩ : Galphabet), 0)))


noncomputable def F_impl_eraserOf (p0 : GMachine) : Option (Galphabet × Int × Int) :=
  bnd (F_impl_alphabetOf p0) fun r3 => (cond (decide (r3.2 ≠ 0)) (some ((⟨0, 0⟩ : Galphabet), 0, 5)) (cond (decide (5 < (w64 (r3.1.border + 1)))) (some ((⟨0, 0⟩ : Galphabet), 0, 5)) (some (r3.1, (w64 (r3.1.border + 1)), 0))))


noncomputable def F_impl_alphabet_wordOfConfig (p0 : Galphabet) (p1 : GConfig) : Option ((List Int)) :=
  bnd (F_impl_reversed p1.Left) fun r6 => bnd (F_impl_joined ([([p0.border] : List Int), r6, ([(w64 (p0.state + p1.State))] : List Int), p1.Right, ([p0.border] : List Int)] : List (List Int))) fun r13 => some r13


noncomputable def F_impl_fitting (p0 : (List Int)) : Option ((List Int) × Int) :=
  (cond (decide (400 < (p0.length : Int))) (some (([] : (List Int)), 5)) (some (p0, 0)))


noncomputable def F_impl_haltWords (p0 : GMachine) (p1 : GConfig) : Option ((List Int) × (List Int) × Int) :=
  bnd (F_impl_eraserOf p0) fun r3 => (cond (decide (r3.2.2 ≠ 0)) (some (([] : (List Int)), ([] : (List Int)), r3.2.2)) (bnd (F_impl_alphabet_wordOfConfig r3.1 p1) fun r7 => bnd (F_impl_fitting r7) fun r10 => (cond (decide (r10.2 ≠ 0)) (some (([] : (List Int)), ([] : (List Int)), r10.2)) (some (r10.1, ([r3.1.border, r3.2.1, r3.1.border] : List Int), 0)))))


noncomputable def F_impl_HaltWords (p0 : GMachine) (p1 : GConfig) : Option ((List Int) × (List Int) × Int) :=
  bnd (F_impl_ValidConfig p0 p1) fun r3 => (cond (!r3) (some (([] : (List Int)), ([] : (List Int)), 1)) (bnd (F_impl_haltWords p0 p1) fun r6 => some (r6.1, r6.2.1, r6.2.2)))


noncomputable def F_laws_FnExactHaltWords (p0 : GMachine) (p1 : GConfig) : Option (Bool) :=
  bnd (F_laws_szMachine p0 1048576) fun r3 => (cond (decide (r3 < 0)) (some true) (bnd (F_laws_szConfig p1 r3) fun r6 => (cond (decide (r6 < 0)) (some true) (bnd (F_laws_toMachine p0) fun r12 => bnd (F_laws_toConfig p1) fun r15 => bnd (F_spec_HaltWords r12 r15) fun r18 => bnd (F_laws_toMachine p0) fun r21 => bnd (F_laws_toConfig p1) fun r25 => bnd (F_impl_HaltWords r21 r25) fun r29 => bnd (bnd (F_laws_eqInt64S r29.1 r18.1) fun r34 => (cond (!r34) (some (.ret false)) (bnd (F_laws_eqInt64S r29.2.1 r18.2.1) fun r37 => (cond (!r37) (some (.ret false)) (cond (decide (r29.2.2 ≠ r18.2.2)) (some (.ret false)) (some (.brk ())))))) : Option (Out (Unit) Bool)) (Out.elim (fun (s32 : Unit) => bnd (F_laws_toMachine p0) fun r44 => bnd (F_laws_eqMachine r21 r44) fun r47 => (cond (!r47) (some false) (bnd (F_laws_toConfig p1) fun r53 => bnd (F_laws_eqConfig r25 r53) fun r56 => (cond (!r56) (some false) (bnd (F_laws_markRuleS r21.Rules 1) fun r61 => bnd (F_laws_markInt64S r25.Left r61.1) fun r65 => bnd (F_laws_markInt64S r25.Right r65.1) fun r67 => bnd ((cond (decide (r67.1 < 0)) (some (.ret false)) (bnd (F_laws_eqInt64S r29.1 r18.1) fun r72 => (cond (!r72) (some (.ret false)) (bnd (F_laws_eqInt64S r29.2.1 r18.2.1) fun r75 => (cond (!r75) (some (.ret false)) (cond (decide (r29.2.2 ≠ r18.2.2)) (some (.ret false)) (some (.brk ())))))))) : Option (Out (Unit) Bool)) (Out.elim (fun (s69 : Unit) => bnd (F_laws_markInt64S r29.1 1) fun r79 => bnd (F_laws_markInt64S r29.2.1 r79.1) fun r81 => bnd (F_laws_heldInt64S r79.2 1) fun r83 => (cond (decide (r83 < 0)) (some false) (bnd (F_laws_heldInt64S r81.2 r83) fun r86 => (cond (decide (r86 < 0)) (some false) (cond (decide (r86 ≠ r81.1)) (some false) (bnd (F_laws_toMachine p0) fun r93 => bnd (F_laws_toConfig p1) fun r96 => bnd (F_impl_HaltWords r93 r96) fun r99 => bnd (bnd (F_laws_eqInt64S r99.1 r18.1) fun r104 => (cond (!r104) (some (.ret false)) (bnd (F_laws_eqInt64S r99.2.1 r18.2.1) fun r107 => (cond (!r107) (some (.ret false)) (cond (decide (r99.2.2 ≠ r18.2.2)) (some (.ret false)) (some (.brk ())))))) : Option (Out (Unit) Bool)) (Out.elim (fun (s102 : Unit) => bnd (F_laws_heldInt64S r79.2 1) fun r111 => (cond (decide (r111 < 0)) (some false) (bnd (F_laws_heldInt64S r81.2 r111) fun r114 => (cond (decide (r114 < 0)) (some false) (cond (decide (r114 ≠ r81.1)) (some false) (some true)))))) (fun (r : Bool) => some r)))))))) (fun (r : Bool) => some r))))))) (fun (r : Bool) => some r))))))


noncomputable def F_spec_l16Fits (p0 : GMachine) : Option (Bool) :=
  bnd (F_spec_l16Border p0) fun r1 => some (decide (r1 ≤ 9))

noncomputable def F_spec_l16Rules_L2 (p0 : GMachine) (s4 : (List GRewrite) × Int) (y11 : GRule) (s50 : (List GRewrite) × Int) : Option (((List GRewrite) × Int) ⊕ Out ((List GRewrite) × Int) ((List GRewrite) × Bool)) :=
  (cond (decide (s50.2 < p0.Symbols)) (bnd (app s50.1 ([(⟨([s50.2, (w64 (p0.Symbols + (w64 (Int.tdiv s4.2 p0.Symbols)))), (Int.tmod s4.2 p0.Symbols)] : List Int), ([(w64 (p0.Symbols + y11.Next)), s50.2, y11.Write] : List Int)⟩ : GRewrite)] : List GRewrite)) fun z58 => some (.inl (z58, (w64 (s50.2 + 1))))) (some (.inr (.brk (s50.1, s50.2)))))

noncomputable def F_spec_l16Rules_L3 (p0 : GMachine) (r2 : Int) (s4 : (List GRewrite) × Int) (y11 : GRule) (s68 : (List GRewrite) × Int) : Option (((List GRewrite) × Int) ⊕ Out ((List GRewrite) × Int) ((List GRewrite) × Bool)) :=
  (cond (decide (s68.2 < p0.Symbols)) (bnd (app s68.1 ([(⟨([s68.2, (w64 (p0.Symbols + (w64 (Int.tdiv s4.2 p0.Symbols)))), r2] : List Int), ([(w64 (p0.Symbols + y11.Next)), s68.2, y11.Write, r2] : List Int)⟩ : GRewrite)] : List GRewrite)) fun z76 => some (.inl (z76, (w64 (s68.2 + 1))))) (some (.inr (.brk (s68.1, s68.2)))))

noncomputable def F_spec_l16Rules_L1 (p0 : GMachine) (r2 : Int) (s4 : (List GRewrite) × Int) : Option (((List GRewrite) × Int) ⊕ Out ((List GRewrite) × Int) ((List GRewrite) × Bool)) :=
  (cond (decide (s4.2 < (p0.Rules.length : Int))) (bnd (idx p0.Rules s4.2) fun y11 => bnd F_spec_l05None fun r19 => (cond (decide (y11 = r19)) (some (.inl (s4.1, (w64 (s4.2 + 1))))) (bnd (nz p0.Symbols) fun u26 => bnd (nz p0.Symbols) fun u30 => (cond (decide (y11.Move = 1)) (bnd (app s4.1 ([(⟨([(w64 (p0.Symbols + (w64 (Int.tdiv s4.2 p0.Symbols)))), (Int.tmod s4.2 p0.Symbols)] : List Int), ([y11.Write, (w64 (p0.Symbols + y11.Next))] : List Int)⟩ : GRewrite)] : List GRewrite)) fun z38 => bnd ((cond (decide ((Int.tmod s4.2 p0.Symbols) = 0)) (bnd (app z38 ([(⟨([(w64 (p0.Symbols + (w64 (Int.tdiv s4.2 p0.Symbols)))), r2] : List Int), ([y11.Write, (w64 (p0.Symbols + y11.Next)), r2] : List Int)⟩ : GRewrite)] : List GRewrite)) fun z47 => some (.brk z47)) (some (.brk z38))) : Option (Out ((List GRewrite)) ((List GRewrite) × Bool))) (Out.elim (fun (s41 : (List GRewrite)) => some (.inl (s41, (w64 (s4.2 + 1))))) (fun (r : (List GRewrite) × Bool) => some (.inr (.ret r))))) (bnd (run (F_spec_l16Rules_L2 p0 s4 y11) (s4.1, 0)) (Out.elim (fun (s50 : (List GRewrite) × Int) => bnd (app s50.1 ([(⟨([r2, (w64 (p0.Symbols + (w64 (Int.tdiv s4.2 p0.Symbols)))), (Int.tmod s4.2 p0.Symbols)] : List Int), ([r2, (w64 (p0.Symbols + y11.Next)), 0, y11.Write] : List Int)⟩ : GRewrite)] : List GRewrite)) fun z64 => (cond (decide ((Int.tmod s4.2 p0.Symbols) = 0)) (bnd (run (F_spec_l16Rules_L3 p0 r2 s4 y11) (z64, 0)) (Out.elim (fun (s68 : (List GRewrite) × Int) => bnd (app s68.1 ([(⟨([r2, (w64 (p0.Symbols + (w64 (Int.tdiv s4.2 p0.Symbols)))), r2] : List Int), ([r2, (w64 (p0.Symbols + y11.Next)), 0, y11.Write, r2] : List Int)⟩ : GRewrite)] : List GRewrite)) fun z82 => some (.inl (z82, (w64 (s4.2 + 1))))) (fun (r : (List GRewrite) × Bool) => some (.inr (.ret r))))) (some (.inl (z64, (w64 (s4.2 + 1))))))) (fun (r : (List GRewrite) × Bool) => some (.inr (.ret r))))))))) (some (.inr (.brk (s4.1, s4.2)))))

noncomputable def F_spec_l16Rules (p0 : GMachine) : Option ((List GRewrite) × Bool) :=
  bnd (F_spec_l16Border p0) fun r2 => bnd (run (F_spec_l16Rules_L1 p0 r2) (([] : List GRewrite), 0)) (Out.elim (fun (s4 : (List GRewrite) × Int) => (cond (decide (0 < (s4.1.length : Int))) (cond (decide ((s4.1.length : Int) ≤ 60)) (bnd (F_spec_l16Fits p0) fun r87 => some (s4.1, r87)) (some (s4.1, false))) (some (s4.1, false)))) (fun (r : (List GRewrite) × Bool) => some r))

noncomputable def F_spec_l32Halt_L1 (p0 : GMachine) (r7 : Int) (s9 : (List GRewrite) × Int) : Option (((List GRewrite) × Int) ⊕ Out ((List GRewrite) × Int) ((List GRewrite) × Int × Bool)) :=
  (cond (decide (s9.2 < (p0.Rules.length : Int))) (bnd (idx p0.Rules s9.2) fun y16 => bnd F_spec_l05None fun r23 => (cond (!(decide (y16 = r23))) (some (.inl (s9.1, (w64 (s9.2 + 1))))) (bnd (nz p0.Symbols) fun u30 => bnd (nz p0.Symbols) fun u34 => bnd (app s9.1 ([(⟨([(w64 (p0.Symbols + (w64 (Int.tdiv s9.2 p0.Symbols)))), (Int.tmod s9.2 p0.Symbols)] : List Int), ([r7] : List Int)⟩ : GRewrite)] : List GRewrite)) fun z39 => bnd (nz p0.Symbols) fun u44 => (cond (decide ((Int.tmod s9.2 p0.Symbols) = 0)) (bnd (F_spec_l16Border p0) fun r47 => bnd (F_spec_l16Border p0) fun r50 => bnd (app z39 ([(⟨([(w64 (p0.Symbols + (w64 (Int.tdiv s9.2 p0.Symbols)))), r47] : List Int), ([r7, r50] : List Int)⟩ : GRewrite)] : List GRewrite)) fun z54 => some (.inl (z54, (w64 (s9.2 + 1))))) (some (.inl (z39, (w64 (s9.2 + 1))))))))) (some (.inr (.brk (s9.1, s9.2)))))

noncomputable def F_spec_l32Halt_L2 (p0 : GMachine) (r7 : Int) (s57 : (List GRewrite) × Int) : Option (((List GRewrite) × Int) ⊕ Out ((List GRewrite) × Int) ((List GRewrite) × Int × Bool)) :=
  (cond (decide (s57.2 < p0.Symbols)) (bnd (app s57.1 ([(⟨([r7, s57.2] : List Int), ([r7] : List Int)⟩ : GRewrite), (⟨([s57.2, r7] : List Int), ([r7] : List Int)⟩ : GRewrite)] : List GRewrite)) fun z67 => some (.inl (z67, (w64 (s57.2 + 1))))) (some (.inr (.brk (s57.1, s57.2)))))

noncomputable def F_spec_l32Halt (p0 : GMachine) : Option ((List GRewrite) × Int × Bool) :=
  bnd (F_spec_l32Eraser p0) fun r1 => (cond (decide (5 < r1)) (some (([] : (List GRewrite)), 0, false)) (bnd (F_spec_l16Rules p0) fun r4 => bnd (F_spec_l32Eraser p0) fun r7 => bnd (run (F_spec_l32Halt_L1 p0 r7) (r4.1, 0)) (Out.elim (fun (s9 : (List GRewrite) × Int) => bnd (run (F_spec_l32Halt_L2 p0 r7) (s9.1, 0)) (Out.elim (fun (s57 : (List GRewrite) × Int) => some (s57.1, (r4.1.length : Int), (decide ((s57.1.length : Int) ≤ 60)))) (fun (r : (List GRewrite) × Int × Bool) => some r))) (fun (r : (List GRewrite) × Int × Bool) => some r))))


noncomputable def F_spec_HaltRewrites (p0 : GMachine) : Option ((List GRewrite) × Int) :=
  bnd (F_spec_l05Is p0) fun r2 => (cond (!r2) (some (([] : (List GRewrite)), 1)) (bnd (F_spec_l32Halt p0) fun r5 => (cond (!r5.2.2) (some (([] : (List GRewrite)), 5)) (some (r5.1, 0)))))

noncomputable def F_impl_alphabet_rewritesOf_L1 (p0 : Galphabet) (p1 : GMachine) (p2 : Int) (p3 : Int) (p4 : GRule) (s24 : (List GRewrite) × Int) : Option (((List GRewrite) × Int) ⊕ Out ((List GRewrite) × Int) (List GRewrite)) :=
  (cond (decide (s24.2 < p1.Symbols)) (bnd (app s24.1 ([(⟨([s24.2, (w64 (p0.state + p2)), p3] : List Int), ([(w64 (p0.state + p4.Next)), s24.2, p4.Write] : List Int)⟩ : GRewrite)] : List GRewrite)) fun z31 => some (.inl (z31, (w64 (s24.2 + 1))))) (some (.inr (.brk (s24.1, s24.2)))))

noncomputable def F_impl_alphabet_rewritesOf_L2 (p0 : Galphabet) (p1 : GMachine) (p2 : Int) (p4 : GRule) (s42 : (List GRewrite) × Int) : Option (((List GRewrite) × Int) ⊕ Out ((List GRewrite) × Int) (List GRewrite)) :=
  (cond (decide (s42.2 < p1.Symbols)) (bnd (app s42.1 ([(⟨([s42.2, (w64 (p0.state + p2)), p0.border] : List Int), ([(w64 (p0.state + p4.Next)), s42.2, p4.Write, p0.border] : List Int)⟩ : GRewrite)] : List GRewrite)) fun z49 => some (.inl (z49, (w64 (s42.2 + 1))))) (some (.inr (.brk (s42.1, s42.2)))))

noncomputable def F_impl_alphabet_rewritesOf (p0 : Galphabet) (p1 : GMachine) (p2 : Int) (p3 : Int) (p4 : GRule) : Option ((List GRewrite)) :=
  (cond (decide (p4.Move = 1)) (bnd (app ([] : List GRewrite) ([(⟨([(w64 (p0.state + p2)), p3] : List Int), ([p4.Write, (w64 (p0.state + p4.Next))] : List Int)⟩ : GRewrite)] : List GRewrite)) fun z11 => bnd ((cond (decide (p3 = 0)) (bnd (app z11 ([(⟨([(w64 (p0.state + p2)), p0.border] : List Int), ([p4.Write, (w64 (p0.state + p4.Next)), p0.border] : List Int)⟩ : GRewrite)] : List GRewrite)) fun z21 => some (.brk z21)) (some (.brk z11))) : Option (Out ((List GRewrite)) (List GRewrite))) (Out.elim (fun (s14 : (List GRewrite)) => some s14) (fun (r : (List GRewrite)) => some r))) (bnd (run (F_impl_alphabet_rewritesOf_L1 p0 p1 p2 p3 p4) (([] : List GRewrite), 0)) (Out.elim (fun (s24 : (List GRewrite) × Int) => bnd (app s24.1 ([(⟨([p0.border, (w64 (p0.state + p2)), p3] : List Int), ([p0.border, (w64 (p0.state + p4.Next)), 0, p4.Write] : List Int)⟩ : GRewrite)] : List GRewrite)) fun z38 => (cond (decide (p3 = 0)) (bnd (run (F_impl_alphabet_rewritesOf_L2 p0 p1 p2 p4) (z38, 0)) (Out.elim (fun (s42 : (List GRewrite) × Int) => bnd (app s42.1 ([(⟨([p0.border, (w64 (p0.state + p2)), p0.border] : List Int), ([p0.border, (w64 (p0.state + p4.Next)), 0, p4.Write, p0.border] : List Int)⟩ : GRewrite)] : List GRewrite)) fun z56 => some z56) (fun (r : (List GRewrite)) => some r))) (some z38))) (fun (r : (List GRewrite)) => some r))))

noncomputable def F_impl_alphabet_machineRewrites_L1 (p0 : Galphabet) (p1 : GMachine) (s4 : (List GRewrite) × Int) : Option (((List GRewrite) × Int) ⊕ Out ((List GRewrite) × Int) (List GRewrite)) :=
  (cond (decide (s4.2 < (p1.Rules.length : Int))) (bnd (idx p1.Rules s4.2) fun y7 => bnd (F_impl_isRule y7) fun r12 => (cond r12 (bnd (nz p1.Symbols) fun u15 => bnd (nz p1.Symbols) fun u17 => bnd (F_impl_alphabet_rewritesOf p0 p1 (w64 (Int.tdiv s4.2 p1.Symbols)) (Int.tmod s4.2 p1.Symbols) y7) fun r22 => bnd (app s4.1 r22) fun z25 => some (.inl (z25, (w64 (s4.2 + 1))))) (some (.inl (s4.1, (w64 (s4.2 + 1))))))) (some (.inr (.brk (s4.1, s4.2)))))

noncomputable def F_impl_alphabet_machineRewrites (p0 : Galphabet) (p1 : GMachine) : Option ((List GRewrite)) :=
  bnd (run (F_impl_alphabet_machineRewrites_L1 p0 p1) (([] : List GRewrite), 0)) (Out.elim (fun (s4 : (List GRewrite) × Int) => some s4.1) (fun (r : (List GRewrite)) => some r))

noncomputable def F_impl_freeRules_L1 (p0 : GMachine) (s3 : (List Int) × Int) : Option (((List Int) × Int) ⊕ Out ((List Int) × Int) (List Int)) :=
  (cond (decide (s3.2 < (p0.Rules.length : Int))) (bnd (idx p0.Rules s3.2) fun y6 => bnd (F_impl_isRule y6) fun r11 => (cond (!r11) (bnd (app s3.1 ([s3.2] : List Int)) fun z15 => some (.inl (z15, (w64 (s3.2 + 1))))) (some (.inl (s3.1, (w64 (s3.2 + 1))))))) (some (.inr (.brk (s3.1, s3.2)))))

noncomputable def F_impl_freeRules (p0 : GMachine) : Option ((List Int)) :=
  bnd (run (F_impl_freeRules_L1 p0) (([] : List Int), 0)) (Out.elim (fun (s3 : (List Int) × Int) => some s3.1) (fun (r : (List Int)) => some r))

noncomputable def F_impl_haltRewrites_L1 (p0 : GMachine) (r2 : Galphabet × Int × Int) (r10 : (List Int)) (s13 : (List GRewrite) × Int) : Option (((List GRewrite) × Int) ⊕ Out ((List GRewrite) × Int) ((List GRewrite) × Int × Int)) :=
  (cond (decide (s13.2 < (r10.length : Int))) (bnd (idx r10 s13.2) fun y16 => bnd (nz p0.Symbols) fun u21 => bnd (nz p0.Symbols) fun u23 => bnd (app s13.1 ([(⟨([(w64 (r2.1.state + (w64 (Int.tdiv y16 p0.Symbols)))), (Int.tmod y16 p0.Symbols)] : List Int), ([r2.2.1] : List Int)⟩ : GRewrite)] : List GRewrite)) fun z29 => (cond (decide ((Int.tmod y16 p0.Symbols) = 0)) (bnd (app z29 ([(⟨([(w64 (r2.1.state + (w64 (Int.tdiv y16 p0.Symbols)))), r2.1.border] : List Int), ([r2.2.1, r2.1.border] : List Int)⟩ : GRewrite)] : List GRewrite)) fun z37 => some (.inl (z37, (w64 (s13.2 + 1))))) (some (.inl (z29, (w64 (s13.2 + 1))))))) (some (.inr (.brk (s13.1, s13.2)))))

noncomputable def F_impl_haltRewrites_L2 (p0 : GMachine) (r2 : Galphabet × Int × Int) (s40 : (List GRewrite) × Int) : Option (((List GRewrite) × Int) ⊕ Out ((List GRewrite) × Int) ((List GRewrite) × Int × Int)) :=
  (cond (decide (s40.2 < p0.Symbols)) (bnd (app s40.1 ([(⟨([r2.2.1, s40.2] : List Int), ([r2.2.1] : List Int)⟩ : GRewrite)] : List GRewrite)) fun z47 => bnd (app z47 ([(⟨([s40.2, r2.2.1] : List Int), ([r2.2.1] : List Int)⟩ : GRewrite)] : List GRewrite)) fun z54 => some (.inl (z54, (w64 (s40.2 + 1))))) (some (.inr (.brk (s40.1, s40.2)))))

noncomputable def F_impl_haltRewrites (p0 : GMachine) : Option ((List GRewrite) × Int × Int) :=
  bnd (F_impl_eraserOf p0) fun r2 => (cond (decide (r2.2.2 ≠ 0)) (some (([] : (List GRewrite)), 0, r2.2.2)) (bnd (F_impl_alphabet_machineRewrites r2.1 p0) fun r6 => bnd (F_impl_freeRules p0) fun r10 => bnd (run (F_impl_haltRewrites_L1 p0 r2 r10) (r6, 0)) (Out.elim (fun (s13 : (List GRewrite) × Int) => bnd (run (F_impl_haltRewrites_L2 p0 r2) (s13.1, 0)) (Out.elim (fun (s40 : (List GRewrite) × Int) => (cond (decide (60 < (s40.1.length : Int))) (some (([] : (List GRewrite)), 0, 5)) (some (s40.1, (r6.length : Int), 0)))) (fun (r : (List GRewrite) × Int × Int) => some r))) (fun (r : (List GRewrite) × Int × Int) => some r))))


noncomputable def F_impl_HaltRewrites (p0 : GMachine) : Option ((List GRewrite) × Int) :=
  bnd (F_impl_ValidMachine p0) fun r2 => (cond (!r2) (some (([] : (List GRewrite)), 1)) (bnd (F_impl_haltRewrites p0) fun r5 => some (r5.1, r5.2.2)))

noncomputable def F_laws_heldRewriteS_L1 (p0 : (List GRewrite)) (s1 : Int × Int) : Option ((Int × Int) ⊕ Out (Int × Int) Int) :=
  (cond (decide (s1.2 < (p0.length : Int))) (bnd (idx p0 s1.2) fun y4 => bnd (F_laws_heldInt64S y4.From s1.1) fun r9 => (cond (decide (r9 < 0)) (some (.inr (.ret (-1)))) (bnd (idx p0 s1.2) fun y12 => bnd (F_laws_heldInt64S y12.To r9) fun r17 => (cond (decide (r17 < 0)) (some (.inr (.ret (-1)))) (some (.inl (r17, (w64 (s1.2 + 1))))))))) (some (.inr (.brk (s1.1, s1.2)))))

noncomputable def F_laws_heldRewriteS (p0 : (List GRewrite)) (p1 : Int) : Option (Int) :=
  bnd (run (F_laws_heldRewriteS_L1 p0) (p1, 0)) (Out.elim (fun (s1 : Int × Int) => some s1.1) (fun (r : Int) => some r))


noncomputable def F_laws_FnExactHaltRewrites (p0 : GMachine) : Option (Bool) :=
  bnd (F_laws_szMachine p0 1048576) fun r2 => (cond (decide (r2 < 0)) (some true) (bnd (F_laws_toMachine p0) fun r5 => bnd (F_spec_HaltRewrites r5) fun r8 => bnd (F_laws_toMachine p0) fun r11 => bnd (F_impl_HaltRewrites r11) fun r15 => bnd (bnd (F_laws_eqRewriteS r15.1 r8.1) fun r20 => (cond (!r20) (some (.ret false)) (cond (decide (r15.2 ≠ r8.2)) (some (.ret false)) (some (.brk ())))) : Option (Out (Unit) Bool)) (Out.elim (fun (s18 : Unit) => bnd (F_laws_toMachine p0) fun r27 => bnd (F_laws_eqMachine r11 r27) fun r30 => (cond (!r30) (some false) (bnd (F_laws_markRuleS r11.Rules 1) fun r35 => bnd ((cond (decide (r35.1 < 0)) (some (.ret false)) (bnd (F_laws_eqRewriteS r15.1 r8.1) fun r40 => (cond (!r40) (some (.ret false)) (cond (decide (r15.2 ≠ r8.2)) (some (.ret false)) (some (.brk ())))))) : Option (Out (Unit) Bool)) (Out.elim (fun (s37 : Unit) => bnd (F_laws_markRewriteS r15.1 1) fun r44 => bnd (F_laws_heldRewriteS r44.2 1) fun r46 => (cond (decide (r46 < 0)) (some false) (cond (decide (r46 ≠ r44.1)) (some false) (bnd (F_laws_toMachine p0) fun r50 => bnd (F_impl_HaltRewrites r50) fun r53 => bnd (F_laws_eqRewriteS r53.1 r8.1) fun r56 => (cond (!r56) (some false) (cond (decide (r53.2 ≠ r8.2)) (some false) (bnd (F_laws_heldRewriteS r44.2 1) fun r60 => (cond (decide (r60 < 0)) (some false) (cond (decide (r60 ≠ r44.1)) (some false) (some true)))))))))) (fun (r : Bool) => some r))))) (fun (r : Bool) => some r))))


noncomputable def F_spec_l33Place (p0 : Int) (p1 : Int) : Option (Bool) :=
  bnd (F_spec_l00In p0 1 30) fun r1 => (cond r1 (bnd (F_spec_l00In p1 0 (w64 (p0 - 1))) fun r4 => some r4) (some false))


noncomputable def F_spec_l13Cell (p0 : (List Int)) (p1 : Int) : Option (Int) :=
  (cond (decide (p1 < (p0.length : Int))) (bnd (idx p0 p1) fun y2 => some y2) (some 0))


noncomputable def F_spec_l33Head (p0 : GMachine) (p1 : Int) (p2 : Int) : Option (Int) :=
  some (w64 ((w64 (p0.Symbols * (w64 (p1 + 1)))) + p2))

noncomputable def F_spec_l33Colors_L1 (p1 : GConfig) (p2 : Int) (p3 : Int) (s2 : (List Int) × Int) : Option (((List Int) × Int) ⊕ Out ((List Int) × Int) ((List Int) × Bool)) :=
  (cond (decide (s2.2 < p2)) (cond (decide (s2.2 < p3)) (bnd (F_spec_l13Cell p1.Left (w64 ((w64 (p3 - 1)) - s2.2))) fun r8 => bnd (app s2.1 ([r8] : List Int)) fun z11 => some (.inl (z11, (w64 (s2.2 + 1))))) (bnd (F_spec_l13Cell p1.Right (w64 (s2.2 - p3))) fun r16 => bnd (app s2.1 ([r16] : List Int)) fun z19 => some (.inl (z19, (w64 (s2.2 + 1)))))) (some (.inr (.brk (s2.1, s2.2)))))

noncomputable def F_spec_l33Colors (p0 : GMachine) (p1 : GConfig) (p2 : Int) (p3 : Int) : Option ((List Int) × Bool) :=
  bnd (run (F_spec_l33Colors_L1 p1 p2 p3) (([] : List Int), 0)) (Out.elim (fun (s2 : (List Int) × Int) => bnd (idx s2.1 p3) fun y24 => bnd (F_spec_l33Head p0 p1.State y24) fun r32 => bnd (idx s2.1 p3) fun y34 => (cond (decide ((p1.Left.length : Int) ≤ p3)) (some ((s2.1.set p3.toNat r32), (decide ((p1.Right.length : Int) ≤ (w64 (p2 - p3)))))) (some ((s2.1.set p3.toNat r32), false)))) (fun (r : (List Int) × Bool) => some r))


noncomputable def F_spec_l33Start (p0 : GMachine) (p1 : GConfig) (p2 : Int) (p3 : Int) : Option ((List Int) × Int) :=
  bnd (F_spec_l33Colors p0 p1 p2 p3) fun r1 => (cond (!r1.2) (some (([] : (List Int)), 5)) (some (r1.1, 0)))


noncomputable def F_spec_RowOfConfig (p0 : GMachine) (p1 : GConfig) (p2 : Int) (p3 : Int) : Option ((List Int) × Int) :=
  bnd (F_spec_l05Is p0) fun r3 => (cond (!r3) (some (([] : (List Int)), 1)) (bnd (F_spec_l05Good p0 p1) fun r6 => (cond (!r6) (some (([] : (List Int)), 1)) (bnd (F_spec_l33Place p2 p3) fun r9 => (cond (!r9) (some (([] : (List Int)), 2)) (bnd (F_spec_l33Start p0 p1 p2 p3) fun r12 => some (r12.1, r12.2)))))))


noncomputable def F_impl_rowCode (p0 : Int) (p1 : Int) : Option (Int) :=
  bnd (F_impl_within p0 1 30) fun r1 => (cond (!r1) (some 2) (bnd (F_impl_within p1 0 (w64 (p0 - 1))) fun r4 => (cond (!r4) (some 2) (some 0))))


noncomputable def F_impl_symbolAt (p0 : (List Int)) (p1 : Int) : Option (Int) :=
  (cond (decide ((p0.length : Int) ≤ p1)) (some 0) (bnd (idx p0 p1) fun y2 => some y2))

noncomputable def F_impl_cellsFrom_L1 (p0 : (List Int)) (p1 : Int) (p2 : Int) (s2 : (List Int) × Int) : Option (((List Int) × Int) ⊕ Out ((List Int) × Int) (List Int)) :=
  (cond (decide (s2.2 < p2)) (bnd (F_impl_symbolAt p0 (w64 (p1 + s2.2))) fun r5 => bnd (app s2.1 ([r5] : List Int)) fun z8 => some (.inl (z8, (w64 (s2.2 + 1))))) (some (.inr (.brk (s2.1, s2.2)))))

noncomputable def F_impl_cellsFrom (p0 : (List Int)) (p1 : Int) (p2 : Int) : Option ((List Int)) :=
  bnd (run (F_impl_cellsFrom_L1 p0 p1 p2) (([] : List Int), 0)) (Out.elim (fun (s2 : (List Int) × Int) => some s2.1) (fun (r : (List Int)) => some r))


noncomputable def F_impl_cellsOfRow (p0 : GConfig) (p1 : Int) (p2 : Int) : Option ((List Int) × Int) :=
  bnd (bnd (F_impl_size_int64 p0.Left) fun r4 => (cond (decide (p2 < r4)) (some (.ret (([] : (List Int)), 5))) (bnd (F_impl_size_int64 p0.Right) fun r7 => (cond (decide ((w64 (p1 - p2)) < r7)) (some (.ret (([] : (List Int)), 5))) (some (.brk ()))))) : Option (Out (Unit) ((List Int) × Int))) (Out.elim (fun (s2 : Unit) => bnd (F_impl_cellsFrom p0.Left 0 p2) fun r13 => bnd (F_impl_reversed r13) fun r16 => bnd (F_impl_cellsFrom p0.Right 0 (w64 (p1 - p2))) fun r19 => bnd (F_impl_joined ([r16, r19] : List (List Int))) fun r23 => some (r23, 0)) (fun (r : (List Int) × Int) => some r))


noncomputable def F_impl_headColor (p0 : GMachine) (p1 : Int) (p2 : Int) : Option (Int) :=
  some (w64 ((w64 (p0.Symbols * (w64 (p1 + 1)))) + p2))


noncomputable def F_impl_RowOfConfig (p0 : GMachine) (p1 : GConfig) (p2 : Int) (p3 : Int) : Option ((List Int) × Int) :=
  bnd (F_impl_ValidConfig p0 p1) fun r3 => (cond (!r3) (some (([] : (List Int)), 1)) (bnd (F_impl_rowCode p2 p3) fun r6 => (cond (decide (r6 ≠ 0)) (some (([] : (List Int)), r6)) (bnd (F_impl_cellsOfRow p1 p2 p3) fun r9 => (cond (decide (r9.2 ≠ 0)) (some (([] : (List Int)), r9.2)) (bnd (idx r9.1 p3) fun y13 => bnd (F_impl_headColor p0 p1.State y13) fun r21 => bnd (idx r9.1 p3) fun y23 => some ((r9.1.set p3.toNat r21), 0)))))))


noncomputable def F_laws_FnExactRowOfConfig (p0 : GMachine) (p1 : GConfig) (p2 : Int) (p3 : Int) : Option (Bool) :=
  bnd (F_laws_szMachine p0 1048576) fun r3 => (cond (decide (r3 < 0)) (some true) (bnd (F_laws_szConfig p1 r3) fun r6 => (cond (decide (r6 < 0)) (some true) (bnd (F_laws_toMachine p0) fun r12 => bnd (F_laws_toConfig p1) fun r15 => bnd (F_spec_RowOfConfig r12 r15 p2 p3) fun r18 => bnd (F_laws_toMachine p0) fun r21 => bnd (F_laws_toConfig p1) fun r25 => bnd (F_impl_RowOfConfig r21 r25 p2 p3) fun r29 => bnd (bnd (F_laws_eqInt64S r29.1 r18.1) fun r34 => (cond (!r34) (some (.ret false)) (cond (decide (r29.2 ≠ r18.2)) (some (.ret false)) (some (.brk ())))) : Option (Out (Unit) Bool)) (Out.elim (fun (s32 : Unit) => bnd (F_laws_toMachine p0) fun r41 => bnd (F_laws_eqMachine r21 r41) fun r44 => (cond (!r44) (some false) (bnd (F_laws_toConfig p1) fun r50 => bnd (F_laws_eqConfig r25 r50) fun r53 => (cond (!r53) (some false) (bnd (F_laws_markRuleS r21.Rules 1) fun r58 => bnd (F_laws_markInt64S r25.Left r58.1) fun r62 => bnd (F_laws_markInt64S r25.Right r62.1) fun r64 => bnd ((cond (decide (r64.1 < 0)) (some (.ret false)) (bnd (F_laws_eqInt64S r29.1 r18.1) fun r69 => (cond (!r69) (some (.ret false)) (cond (decide (r29.2 ≠ r18.2)) (some (.ret false)) (some (.brk ())))))) : Option (Out (Unit) Bool)) (Out.elim (fun (s66 : Unit) => bnd (F_laws_markInt64S r29.1 1) fun r73 => bnd (F_laws_heldInt64S r73.2 1) fun r75 => (cond (decide (r75 < 0)) (some false) (cond (decide (r75 ≠ r73.1)) (some false) (bnd (F_laws_toMachine p0) fun r82 => bnd (F_laws_toConfig p1) fun r85 => bnd (F_impl_RowOfConfig r82 r85 p2 p3) fun r88 => bnd (F_laws_eqInt64S r88.1 r18.1) fun r91 => (cond (!r91) (some false) (cond (decide (r88.2 ≠ r18.2)) (some false) (bnd (F_laws_heldInt64S r73.2 1) fun r95 => (cond (decide (r95 < 0)) (some false) (cond (decide (r95 ≠ r73.1)) (some false) (some true)))))))))) (fun (r : Bool) => some r))))))) (fun (r : Bool) => some r))))))


noncomputable def F_laws_szDomino (p0 : GDomino) (p1 : Int) : Option (Int) :=
  bnd (F_laws_szInt64S p0.Top p1) fun r2 => (cond (decide (r2 < 0)) (some (-1)) (bnd (F_laws_szInt64S p0.Bottom r2) fun r5 => (cond (decide (r5 < 0)) (some (-1)) (some r5))))

noncomputable def F_laws_szDominoS_L1 (p0 : (List GDomino)) (s2 : Int × Int) : Option ((Int × Int) ⊕ Out (Int × Int) Int) :=
  (cond (decide (s2.2 < (p0.length : Int))) (bnd (idx p0 s2.2) fun y5 => bnd (F_laws_szDomino y5 s2.1) fun r9 => (cond (decide (r9 < 0)) (some (.inr (.ret (-1)))) (some (.inl (r9, (w64 (s2.2 + 1))))))) (some (.inr (.brk (s2.1, s2.2)))))

noncomputable def F_laws_szDominoS (p0 : (List GDomino)) (p1 : Int) : Option (Int) :=
  (cond (decide ((w64 (p1 - (p0.length : Int))) < 0)) (some (-1)) (bnd (run (F_laws_szDominoS_L1 p0) ((w64 (p1 - (p0.length : Int))), 0)) (Out.elim (fun (s2 : Int × Int) => some s2.1) (fun (r : Int) => some r))))


noncomputable def F_laws_toDomino (p0 : GDomino) : Option (GDomino) :=
  bnd (F_laws_toInt64S p0.Top) fun r4 => bnd (F_laws_toInt64S p0.Bottom) fun r7 => some (⟨r4, r7⟩ : GDomino)

noncomputable def F_laws_toDominoS_L1 (p0 : (List GDomino)) (s4 : (List GDomino) × Int) : Option (((List GDomino) × Int) ⊕ Out ((List GDomino) × Int) (List GDomino)) :=
  (cond (decide (s4.2 < (p0.length : Int))) (bnd (idx p0 s4.2) fun y7 => bnd (F_laws_toDomino y7) fun r11 => bnd (idx s4.1 s4.2) fun y14 => some (.inl ((s4.1.set s4.2.toNat r11), (w64 (s4.2 + 1))))) (some (.inr (.brk (s4.1, s4.2)))))

noncomputable def F_laws_toDominoS (p0 : (List GDomino)) : Option ((List GDomino)) :=
  bnd (mke (p0.length : Int) (⟨([] : (List Int)), ([] : (List Int))⟩ : GDomino)) fun z1 => bnd (run (F_laws_toDominoS_L1 p0) (z1, 0)) (Out.elim (fun (s4 : (List GDomino) × Int) => some s4.1) (fun (r : (List GDomino)) => some r))

noncomputable def F_spec_l32Gap_L1 (p0 : (List GDomino)) (s1 : Int) : Option ((Int) ⊕ Out (Int) Bool) :=
  (cond (decide (s1 < (p0.length : Int))) (bnd (idx p0 s1) fun y4 => (cond (decide ((y4.Top.length : Int) = 0)) (some (.inr (.ret true))) (bnd (idx p0 s1) fun y10 => (cond (decide ((y10.Bottom.length : Int) = 0)) (some (.inr (.ret true))) (some (.inl (w64 (s1 + 1)))))))) (some (.inr (.brk s1))))

noncomputable def F_spec_l32Gap (p0 : (List GDomino)) : Option (Bool) :=
  bnd (run (F_spec_l32Gap_L1 p0) 0) (Out.elim (fun (s1 : Int) => some false) (fun (r : Bool) => some r))

noncomputable def F_spec_l32Starred_L1 (p0 : (List Int)) (p1 : Bool) (s2 : (List Int) × Int) : Option (((List Int) × Int) ⊕ Out ((List Int) × Int) (List Int)) :=
  (cond (decide (s2.2 < (p0.length : Int))) (cond p1 (bnd (idx p0 s2.2) fun y6 => bnd (app s2.1 ([y6, 9] : List Int)) fun z11 => some (.inl (z11, (w64 (s2.2 + 1))))) (bnd (idx p0 s2.2) fun y14 => bnd (app s2.1 ([9, y14] : List Int)) fun z19 => some (.inl (z19, (w64 (s2.2 + 1)))))) (some (.inr (.brk (s2.1, s2.2)))))

noncomputable def F_spec_l32Starred (p0 : (List Int)) (p1 : Bool) : Option ((List Int)) :=
  bnd (run (F_spec_l32Starred_L1 p0 p1) (([] : List Int), 0)) (Out.elim (fun (s2 : (List Int) × Int) => some s2.1) (fun (r : (List Int)) => some r))

noncomputable def F_spec_l32Plain_L1 (p0 : (List GDomino)) (s44 : (List GDomino) × Int) : Option (((List GDomino) × Int) ⊕ Out ((List GDomino) × Int) ((List GDomino) × Int)) :=
  (cond (decide (s44.2 < (p0.length : Int))) (bnd (idx p0 s44.2) fun y47 => bnd (idx p0 s44.2) fun y52 => bnd (F_spec_l32Starred y47.Top true) fun r60 => bnd (F_spec_l32Starred y52.Bottom false) fun r63 => bnd (app s44.1 ([(⟨r60, r63⟩ : GDomino)] : List GDomino)) fun z67 => some (.inl (z67, (w64 (s44.2 + 1))))) (some (.inr (.brk (s44.1, s44.2)))))

noncomputable def F_spec_l32Plain (p0 : (List GDomino)) : Option ((List GDomino) × Int) :=
  bnd (bnd (F_spec_l32Least p0 7) fun r3 => (cond (!r3) (some (.ret (([] : (List GDomino)), 2))) (bnd (F_spec_l32Gap p0) fun r6 => (cond r6 (some (.ret (([] : (List GDomino)), 2))) (some (.brk ()))))) : Option (Out (Unit) ((List GDomino) × Int))) (Out.elim (fun (s1 : Unit) => bnd (bnd (idx p0 0) fun y11 => bnd (idx p0 0) fun y16 => bnd (F_spec_l32Starred y11.Top true) fun r24 => bnd (app ([9] : List Int) r24) fun z28 => bnd (F_spec_l32Starred y16.Bottom false) fun r31 => some (.brk ([(⟨z28, r31⟩ : GDomino)] : List GDomino)) : Option (Out ((List GDomino)) ((List GDomino) × Int))) (Out.elim (fun (s9 : (List GDomino)) => bnd (run (F_spec_l32Plain_L1 p0) (s9, 0)) (Out.elim (fun (s44 : (List GDomino) × Int) => bnd (app s44.1 ([(⟨([8] : List Int), ([9, 8] : List Int)⟩ : GDomino)] : List GDomino)) fun z73 => bnd (F_spec_l32Is z73) fun r76 => (cond (!r76) (some (([] : (List GDomino)), 5)) (some (z73, 0)))) (fun (r : (List GDomino) × Int) => some r))) (fun (r : (List GDomino) × Int) => some r))) (fun (r : (List GDomino) × Int) => some r))

noncomputable def F_spec_l00Same_L1 (p0 : (List Int)) (p1 : (List Int)) (s2 : Int) : Option ((Int) ⊕ Out (Int) Bool) :=
  (cond (decide (s2 < (p0.length : Int))) (bnd (idx p0 s2) fun y5 => bnd (idx p1 s2) fun y9 => (cond (decide (y5 ≠ y9)) (some (.inr (.ret false))) (some (.inl (w64 (s2 + 1)))))) (some (.inr (.brk s2))))

noncomputable def F_spec_l00Same (p0 : (List Int)) (p1 : (List Int)) : Option (Bool) :=
  (cond (decide ((p0.length : Int) ≠ (p1.length : Int))) (some false) (bnd (run (F_spec_l00Same_L1 p0 p1) 0) (Out.elim (fun (s2 : Int) => some true) (fun (r : Bool) => some r))))

noncomputable def F_spec_l32Match_L1 (p0 : (List GDomino)) (p1 : (List Int)) (s10 : (List Int) × (List Int) × Int) : Option (((List Int) × (List Int) × Int) ⊕ Out ((List Int) × (List Int) × Int) ((List Int) × Int)) :=
  (cond (decide (s10.2.2 < (p1.length : Int))) (bnd (idx p1 s10.2.2) fun y13 => bnd (idx p0 y13) fun y17 => bnd (app s10.1 y17.Top) fun z22 => bnd (idx p1 s10.2.2) fun y25 => bnd (idx p0 y25) fun y29 => bnd (app s10.2.1 y29.Bottom) fun z34 => some (.inl (z22, z34, (w64 (s10.2.2 + 1))))) (some (.inr (.brk (s10.1, s10.2.1, s10.2.2)))))

noncomputable def F_spec_l32Match (p0 : (List GDomino)) (p1 : (List Int)) : Option ((List Int) × Int) :=
  bnd ((cond (decide ((p1.length : Int) < 1)) (some (.ret (([] : (List Int)), 2))) (cond (decide (400 < (p1.length : Int))) (some (.ret (([] : (List Int)), 2))) (bnd (F_spec_l06Row p1 (p1.length : Int) 0 (w64 ((p0.length : Int) - 1))) fun r5 => (cond (!r5) (some (.ret (([] : (List Int)), 2))) (some (.brk ())))))) : Option (Out (Unit) ((List Int) × Int))) (Out.elim (fun (s1 : Unit) => bnd (run (F_spec_l32Match_L1 p0 p1) (([] : List Int), ([] : List Int), 0)) (Out.elim (fun (s10 : (List Int) × (List Int) × Int) => (cond (decide (4000 < (s10.1.length : Int))) (some (([] : (List Int)), 5)) (cond (decide (4000 < (s10.2.1.length : Int))) (some (([] : (List Int)), 5)) (bnd (F_spec_l00Same s10.1 s10.2.1) fun r39 => (cond (!r39) (some (([] : (List Int)), 6)) (some (s10.1, 0))))))) (fun (r : (List Int) × Int) => some r))) (fun (r : (List Int) × Int) => some r))

noncomputable def F_spec_ModifiedMatch_L1 (p0 : (List GDomino)) (p1 : (List Int)) (s13 : (List Int) × Int) : Option (((List Int) × Int) ⊕ Out ((List Int) × Int) ((List Int) × Int)) :=
  (cond (decide (s13.2 < (p1.length : Int))) (bnd (idx p1 s13.2) fun y16 => (cond (decide (y16 ≠ (w64 ((p0.length : Int) + 1)))) (bnd (idx p1 s13.2) fun y21 => bnd (app s13.1 ([(w64 (y21 - 1))] : List Int)) fun z26 => some (.inl (z26, (w64 (s13.2 + 1))))) (some (.inr (.brk (s13.1, s13.2)))))) (some (.inr (.brk (s13.1, s13.2)))))

noncomputable def F_spec_ModifiedMatch (p0 : (List GDomino)) (p1 : (List Int)) : Option ((List Int) × Int) :=
  bnd (F_spec_l32Is p0) fun r1 => (cond (!r1) (some (([] : (List Int)), 1)) (bnd (F_spec_l32Plain p0) fun r4 => (cond (decide (r4.2 ≠ 0)) (some (([] : (List Int)), r4.2)) (bnd (F_spec_l32Match r4.1 p1) fun r8 => (cond (decide (r8.2 ≠ 0)) (some (([] : (List Int)), r8.2)) (bnd (run (F_spec_ModifiedMatch_L1 p0 p1) (([0] : List Int), 1)) (Out.elim (fun (s13 : (List Int) × Int) => some (s13.1, 0)) (fun (r : (List Int) × Int) => some r))))))))

noncomputable def F_impl_spread_L1 (p0 : (List Int)) (p1 : Bool) (s2 : (List Int) × Int) : Option (((List Int) × Int) ⊕ Out ((List Int) × Int) (List Int)) :=
  (cond (decide (s2.2 < (p0.length : Int))) (bnd (idx p0 s2.2) fun y5 => (cond p1 (bnd (app s2.1 ([y5, 9] : List Int)) fun z11 => some (.inl (z11, (w64 (s2.2 + 1))))) (bnd (app s2.1 ([9, y5] : List Int)) fun z15 => some (.inl (z15, (w64 (s2.2 + 1))))))) (some (.inr (.brk (s2.1, s2.2)))))

noncomputable def F_impl_spread (p0 : (List Int)) (p1 : Bool) : Option ((List Int)) :=
  bnd (run (F_impl_spread_L1 p0 p1) (([] : List Int), 0)) (Out.elim (fun (s2 : (List Int) × Int) => some s2.1) (fun (r : (List Int)) => some r))

noncomputable def F_impl_plainDominoes_L1 (p0 : (List GDomino)) (s2 : (List GDomino) × Int) : Option (((List GDomino) × Int) ⊕ Out ((List GDomino) × Int) ((List GDomino) × Int)) :=
  (cond (decide (s2.2 < (p0.length : Int))) (bnd (idx p0 s2.2) fun y5 => bnd ((cond (decide ((y5.Top.length : Int) = 0)) (some (.ret (([] : (List GDomino)), 2))) (cond (decide ((y5.Bottom.length : Int) = 0)) (some (.ret (([] : (List GDomino)), 2))) (bnd (F_impl_joined ([y5.Top, y5.Bottom] : List (List Int))) fun r15 => bnd (F_impl_allWithin r15 0 7) fun r18 => (cond (!r18) (some (.ret (([] : (List GDomino)), 2))) (some (.brk ())))))) : Option (Out (Unit) ((List GDomino) × Int))) (Out.elim (fun (s10 : Unit) => (cond (decide (s2.2 = 0)) (bnd (F_impl_spread y5.Top true) fun r25 => bnd (F_impl_joined ([([9] : List Int), r25] : List (List Int))) fun r30 => bnd (F_impl_spread y5.Bottom false) fun r33 => bnd (app s2.1 ([(⟨r30, r33⟩ : GDomino)] : List GDomino)) fun z37 => bnd (F_impl_spread y5.Top true) fun r43 => bnd (F_impl_spread y5.Bottom false) fun r46 => bnd (app z37 ([(⟨r43, r46⟩ : GDomino)] : List GDomino)) fun z50 => some (.inl (z50, (w64 (s2.2 + 1))))) (bnd (F_impl_spread y5.Top true) fun r82 => bnd (F_impl_spread y5.Bottom false) fun r85 => bnd (app s2.1 ([(⟨r82, r85⟩ : GDomino)] : List GDomino)) fun z89 => some (.inl (z89, (w64 (s2.2 + 1))))))) (fun (r : (List GDomino) × Int) => some (.inr (.ret r))))) (some (.inr (.brk (s2.1, s2.2)))))

noncomputable def F_impl_plainDominoes (p0 : (List GDomino)) : Option ((List GDomino) × Int) :=
  bnd (run (F_impl_plainDominoes_L1 p0) (([] : List GDomino), 0)) (Out.elim (fun (s2 : (List GDomino) × Int) => bnd (app s2.1 ([(⟨([8] : List Int), ([9, 8] : List Int)⟩ : GDomino)] : List GDomino)) fun z95 => bnd (F_impl_ValidDominoes z95) fun r98 => (cond (!r98) (some (([] : (List GDomino)), 5)) (some (z95, 0)))) (fun (r : (List GDomino) × Int) => some r))


noncomputable def F_impl_PlainDominoes (p0 : (List GDomino)) : Option ((List GDomino) × Int) :=
  bnd (F_impl_ValidDominoes p0) fun r1 => (cond (!r1) (some (([] : (List GDomino)), 1)) (bnd (F_impl_plainDominoes p0) fun r4 => some (r4.1, r4.2)))


noncomputable def F_impl_matchRange (p0 : (List GDomino)) (p1 : (List Int)) : Option (Bool) :=
  bnd (F_impl_size_int64 p1) fun r1 => bnd (F_impl_within r1 1 400) fun r3 => (cond r3 (bnd (F_impl_size_impl_Domino p0) fun r6 => bnd (F_impl_allWithin p1 0 (w64 (r6 - 1))) fun r8 => some r8) (some false))

noncomputable def F_slices_Equal_Sint64_int64_L1 (p0 : (List Int)) (p1 : (List Int)) (s2 : Int) : Option ((Int) ⊕ Out (Int) Bool) :=
  (cond (decide (s2 < (p0.length : Int))) (bnd (idx p0 s2) fun y5 => bnd (idx p1 s2) fun y9 => (cond (decide (y5 ≠ y9)) (some (.inr (.ret false))) (some (.inl (w64 (s2 + 1)))))) (some (.inr (.brk s2))))

noncomputable def F_slices_Equal_Sint64_int64 (p0 : (List Int)) (p1 : (List Int)) : Option (Bool) :=
  (cond (decide ((p0.length : Int) ≠ (p1.length : Int))) (some false) (bnd (run (F_slices_Equal_Sint64_int64_L1 p0 p1) 0) (Out.elim (fun (s2 : Int) => some true) (fun (r : Bool) => some r))))

noncomputable def F_impl_matchWord_L1 (p0 : (List GDomino)) (p1 : (List Int)) (s6 : (List Int) × (List Int) × Int) : Option (((List Int) × (List Int) × Int) ⊕ Out ((List Int) × (List Int) × Int) ((List Int) × Int)) :=
  (cond (decide (s6.2.2 < (p1.length : Int))) (bnd (idx p1 s6.2.2) fun y9 => bnd (idx p0 y9) fun y13 => bnd (idx p0 y9) fun y18 => bnd (app s6.1 y13.Top) fun z26 => bnd (app s6.2.1 y18.Bottom) fun z29 => some (.inl (z26, z29, (w64 (s6.2.2 + 1))))) (some (.inr (.brk (s6.1, s6.2.1, s6.2.2)))))

noncomputable def F_impl_matchWord (p0 : (List GDomino)) (p1 : (List Int)) : Option ((List Int) × Int) :=
  bnd (F_impl_matchRange p0 p1) fun r1 => (cond (!r1) (some (([] : (List Int)), 2)) (bnd (run (F_impl_matchWord_L1 p0 p1) (([] : List Int), ([] : List Int), 0)) (Out.elim (fun (s6 : (List Int) × (List Int) × Int) => (cond (decide (4000 < (s6.1.length : Int))) (some (([] : (List Int)), 5)) (cond (decide (4000 < (s6.2.1.length : Int))) (some (([] : (List Int)), 5)) (bnd (F_slices_Equal_Sint64_int64 s6.1 s6.2.1) fun r34 => (cond (!r34) (some (([] : (List Int)), 6)) (some (s6.1, 0))))))) (fun (r : (List Int) × Int) => some r))))

noncomputable def F_slices_Index_Sint64_int64_L1 (p0 : (List Int)) (p1 : Int) (s1 : Int) : Option ((Int) ⊕ Out (Int) Int) :=
  (cond (decide (s1 < (p0.length : Int))) (bnd (idx p0 s1) fun y4 => (cond (decide (p1 = y4)) (some (.inr (.ret s1))) (some (.inl (w64 (s1 + 1)))))) (some (.inr (.brk s1))))

noncomputable def F_slices_Index_Sint64_int64 (p0 : (List Int)) (p1 : Int) : Option (Int) :=
  bnd (run (F_slices_Index_Sint64_int64_L1 p0 p1) 0) (Out.elim (fun (s1 : Int) => some (-1)) (fun (r : Int) => some r))

noncomputable def F_impl_moved_L1 (p0 : (List Int)) (p1 : Int) (s2 : (List Int) × Int) : Option (((List Int) × Int) ⊕ Out ((List Int) × Int) (List Int)) :=
  (cond (decide (s2.2 < (p0.length : Int))) (bnd (idx p0 s2.2) fun y5 => bnd (app s2.1 ([(w64 (y5 + p1))] : List Int)) fun z10 => some (.inl (z10, (w64 (s2.2 + 1))))) (some (.inr (.brk (s2.1, s2.2)))))

noncomputable def F_impl_moved (p0 : (List Int)) (p1 : Int) : Option ((List Int)) :=
  bnd (run (F_impl_moved_L1 p0 p1) (([] : List Int), 0)) (Out.elim (fun (s2 : (List Int) × Int) => some s2.1) (fun (r : (List Int)) => some r))


noncomputable def F_impl_shortMatch (p0 : (List Int)) : Option ((List Int) × Int) :=
  (cond (decide (400 < (p0.length : Int))) (some (([] : (List Int)), 5)) (some (p0, 0)))


noncomputable def F_impl_ModifiedMatch (p0 : (List GDomino)) (p1 : (List Int)) : Option ((List Int) × Int) :=
  bnd (F_impl_PlainDominoes p0) fun r1 => (cond (decide (r1.2 ≠ 0)) (some (([] : (List Int)), r1.2)) (bnd (F_impl_matchWord r1.1 p1) fun r5 => (cond (decide (r5.2 ≠ 0)) (some (([] : (List Int)), r5.2)) (bnd (F_impl_size_impl_Domino r1.1) fun r9 => bnd (F_slices_Index_Sint64_int64 p1 (w64 (r9 - 1))) fun r11 => bnd (slc p1 1 r11) fun z14 => bnd (F_impl_moved z14 (-1)) fun r17 => bnd (F_impl_joined ([([0] : List Int), r17] : List (List Int))) fun r21 => bnd (F_impl_shortMatch r21) fun r24 => some (r24.1, r24.2)))))


noncomputable def F_laws_FnExactModifiedMatch (p0 : (List GDomino)) (p1 : (List Int)) : Option (Bool) :=
  (cond (decide (1048576 < (p1.length : Int))) (some true) (bnd (F_laws_szDominoS p0 1048576) fun r2 => (cond (decide (r2 < 0)) (some true) (bnd (F_laws_toDominoS p0) fun r5 => bnd (F_laws_toInt64S p1) fun r8 => bnd (F_spec_ModifiedMatch r5 r8) fun r11 => bnd (F_laws_toDominoS p0) fun r14 => bnd (F_laws_toInt64S p1) fun r17 => bnd (F_impl_ModifiedMatch r14 r17) fun r20 => bnd (bnd (F_laws_eqInt64S r20.1 r11.1) fun r25 => (cond (!r25) (some (.ret false)) (cond (decide (r20.2 ≠ r11.2)) (some (.ret false)) (some (.brk ())))) : Option (Out (Unit) Bool)) (Out.elim (fun (s23 : Unit) => bnd (F_laws_toDominoS p0) fun r29 => bnd (F_laws_eqDominoS r14 r29) fun r32 => (cond (!r32) (some false) (bnd (F_laws_toInt64S p1) fun r35 => bnd (F_laws_eqInt64S r17 r35) fun r38 => (cond (!r38) (some false) (bnd (F_laws_markDominoS r14 1) fun r41 => bnd (F_laws_markInt64S r17 r41.1) fun r43 => bnd ((cond (decide (r43.1 < 0)) (some (.ret false)) (bnd (F_laws_eqInt64S r20.1 r11.1) fun r48 => (cond (!r48) (some (.ret false)) (cond (decide (r20.2 ≠ r11.2)) (some (.ret false)) (some (.brk ())))))) : Option (Out (Unit) Bool)) (Out.elim (fun (s45 : Unit) => bnd (F_laws_markInt64S r20.1 1) fun r52 => bnd (F_laws_heldInt64S r52.2 1) fun r54 => (cond (decide (r54 < 0)) (some false) (cond (decide (r54 ≠ r52.1)) (some false) (bnd (F_laws_toDominoS p0) fun r58 => bnd (F_laws_toInt64S p1) fun r61 => bnd (F_impl_ModifiedMatch r58 r61) fun r64 => bnd (F_laws_eqInt64S r64.1 r11.1) fun r67 => (cond (!r67) (some false) (cond (decide (r64.2 ≠ r11.2)) (some false) (bnd (F_laws_heldInt64S r52.2 1) fun r71 => (cond (decide (r71 < 0)) (some false) (cond (decide (r71 ≠ r52.1)) (some false) (some true)))))))))) (fun (r : Bool) => some r))))))) (fun (r : Bool) => some r))))))

noncomputable def F_spec_PlainMatch_L1 (p1 : (List Int)) (s18 : (List Int) × Int) : Option (((List Int) × Int) ⊕ Out ((List Int) × Int) ((List Int) × Int)) :=
  (cond (decide (s18.2 < (p1.length : Int))) (bnd (idx p1 s18.2) fun y21 => bnd (app s18.1 ([(w64 (y21 + 1))] : List Int)) fun z26 => some (.inl (z26, (w64 (s18.2 + 1))))) (some (.inr (.brk (s18.1, s18.2)))))

noncomputable def F_spec_PlainMatch (p0 : (List GDomino)) (p1 : (List Int)) : Option ((List Int) × Int) :=
  bnd (F_spec_l32Is p0) fun r1 => (cond (!r1) (some (([] : (List Int)), 1)) (bnd (F_spec_l32Plain p0) fun r4 => (cond (decide (r4.2 ≠ 0)) (some (([] : (List Int)), r4.2)) (bnd (F_spec_l32Match p0 p1) fun r8 => (cond (decide (r8.2 ≠ 0)) (some (([] : (List Int)), r8.2)) (bnd (idx p1 0) fun y12 => (cond (decide (y12 ≠ 0)) (some (([] : (List Int)), 7)) (bnd (run (F_spec_PlainMatch_L1 p1) (([0] : List Int), 1)) (Out.elim (fun (s18 : (List Int) × Int) => bnd (app s18.1 ([(w64 ((p0.length : Int) + 1))] : List Int)) fun z30 => (cond (decide (400 < (z30.length : Int))) (some (([] : (List Int)), 5)) (some (z30, 0)))) (fun (r : (List Int) × Int) => some r))))))))))


noncomputable def F_impl_PlainMatch (p0 : (List GDomino)) (p1 : (List Int)) : Option ((List Int) × Int) :=
  bnd (F_impl_PlainDominoes p0) fun r1 => (cond (decide (r1.2 ≠ 0)) (some (([] : (List Int)), r1.2)) (bnd (F_impl_matchWord p0 p1) fun r5 => (cond (decide (r5.2 ≠ 0)) (some (([] : (List Int)), r5.2)) (bnd (idx p1 0) fun y9 => (cond (decide (y9 ≠ 0)) (some (([] : (List Int)), 7)) (bnd (slc p1 1 (p1.length : Int)) fun z15 => bnd (F_impl_moved z15 1) fun r18 => bnd (F_impl_size_impl_Domino r1.1) fun r21 => bnd (F_impl_joined ([([0] : List Int), r18, ([(w64 (r21 - 1))] : List Int)] : List (List Int))) fun r25 => bnd (F_impl_shortMatch r25) fun r28 => some (r28.1, r28.2)))))))


noncomputable def F_laws_FnExactPlainMatch (p0 : (List GDomino)) (p1 : (List Int)) : Option (Bool) :=
  (cond (decide (1048576 < (p1.length : Int))) (some true) (bnd (F_laws_szDominoS p0 1048576) fun r2 => (cond (decide (r2 < 0)) (some true) (bnd (F_laws_toDominoS p0) fun r5 => bnd (F_laws_toInt64S p1) fun r8 => bnd (F_spec_PlainMatch r5 r8) fun r11 => bnd (F_laws_toDominoS p0) fun r14 => bnd (F_laws_toInt64S p1) fun r17 => bnd (F_impl_PlainMatch r14 r17) fun r20 => bnd (bnd (F_laws_eqInt64S r20.1 r11.1) fun r25 => (cond (!r25) (some (.ret false)) (cond (decide (r20.2 ≠ r11.2)) (some (.ret false)) (some (.brk ())))) : Option (Out (Unit) Bool)) (Out.elim (fun (s23 : Unit) => bnd (F_laws_toDominoS p0) fun r29 => bnd (F_laws_eqDominoS r14 r29) fun r32 => (cond (!r32) (some false) (bnd (F_laws_toInt64S p1) fun r35 => bnd (F_laws_eqInt64S r17 r35) fun r38 => (cond (!r38) (some false) (bnd (F_laws_markDominoS r14 1) fun r41 => bnd (F_laws_markInt64S r17 r41.1) fun r43 => bnd ((cond (decide (r43.1 < 0)) (some (.ret false)) (bnd (F_laws_eqInt64S r20.1 r11.1) fun r48 => (cond (!r48) (some (.ret false)) (cond (decide (r20.2 ≠ r11.2)) (some (.ret false)) (some (.brk ())))))) : Option (Out (Unit) Bool)) (Out.elim (fun (s45 : Unit) => bnd (F_laws_markInt64S r20.1 1) fun r52 => bnd (F_laws_heldInt64S r52.2 1) fun r54 => (cond (decide (r54 < 0)) (some false) (cond (decide (r54 ≠ r52.1)) (some false) (bnd (F_laws_toDominoS p0) fun r58 => bnd (F_laws_toInt64S p1) fun r61 => bnd (F_impl_PlainMatch r58 r61) fun r64 => bnd (F_laws_eqInt64S r64.1 r11.1) fun r67 => (cond (!r67) (some false) (cond (decide (r64.2 ≠ r11.2)) (some false) (bnd (F_laws_heldInt64S r52.2 1) fun r71 => (cond (decide (r71 < 0)) (some false) (cond (decide (r71 ≠ r52.1)) (some false) (some true)))))))))) (fun (r : Bool) => some r))))))) (fun (r : Bool) => some r))))))

noncomputable def F_spec_DerivationOfMatch_L1 (p3 : (List Int)) (r4 : (List GDomino) × Int) (s18 : (List (List Int)) × Int × Int) : Option (((List (List Int)) × Int × Int) ⊕ Out ((List (List Int)) × Int × Int) ((List (List Int)) × Int)) :=
  (cond (decide (s18.2.2 < (p3.length : Int))) (bnd (idx p3 s18.2.2) fun y21 => (cond (decide (y21 ≠ (w64 ((r4.1.length : Int) - 1)))) (bnd (idx p3 s18.2.2) fun y26 => (cond (decide (y26 = 0)) (some (.inl (s18.1, 0, (w64 (s18.2.2 + 1))))) (bnd (idx p3 s18.2.2) fun y31 => (cond (decide (y31 = 7)) (some (.inl (s18.1, 0, (w64 (s18.2.2 + 1))))) (bnd (bnd (idx p3 s18.2.2) fun y38 => (cond (decide (8 ≤ y38)) (bnd (idx p3 s18.2.2) fun y43 => bnd (app s18.1 ([([(w64 (y43 - 8)), s18.2.1] : List Int)] : List (List Int))) fun z49 => some (.brk z49)) (some (.brk s18.1))) : Option (Out ((List (List Int))) ((List (List Int)) × Int))) (Out.elim (fun (s36 : (List (List Int))) => bnd (idx p3 s18.2.2) fun y52 => bnd (idx r4.1 y52) fun y56 => some (.inl (s36, (w64 (s18.2.1 + (y56.Bottom.length : Int))), (w64 (s18.2.2 + 1))))) (fun (r : (List (List Int)) × Int) => some (.inr (.ret r))))))))) (some (.inr (.brk (s18.1, s18.2.1, s18.2.2)))))) (some (.inr (.brk (s18.1, s18.2.1, s18.2.2)))))

noncomputable def F_spec_DerivationOfMatch (p0 : (List GRewrite)) (p1 : (List Int)) (p2 : (List Int)) (p3 : (List Int)) : Option ((List (List Int)) × Int) :=
  bnd (F_spec_l32Ready p0 p1 p2) fun r1 => (cond (!r1) (some (([] : (List (List Int))), 1)) (bnd (F_spec_l32Rules p0 p1 p2) fun r4 => (cond (decide (r4.2 ≠ 0)) (some (([] : (List (List Int))), r4.2)) (bnd (F_spec_l32Match r4.1 p3) fun r8 => (cond (decide (r8.2 ≠ 0)) (some (([] : (List (List Int))), r8.2)) (bnd (idx p3 0) fun y12 => (cond (decide (y12 ≠ 0)) (some (([] : (List (List Int))), 7)) (bnd (run (F_spec_DerivationOfMatch_L1 p3 r4) (([] : List (List Int)), 0, 1)) (Out.elim (fun (s18 : (List (List Int)) × Int × Int) => (cond (decide (100 < (s18.1.length : Int))) (some (([] : (List (List Int))), 5)) (some (s18.1, 0)))) (fun (r : (List (List Int)) × Int) => some r))))))))))


noncomputable def F_impl_shortDerivation (p0 : (List (List Int))) : Option ((List (List Int)) × Int) :=
  (cond (decide (100 < (p0.length : Int))) (some (([] : (List (List Int))), 5)) (some (p0, 0)))

noncomputable def F_impl_DerivationOfMatch_L1 (r1 : (List GDomino) × Int) (z15 : (List Int)) (s18 : (List (List Int)) × Int × Int) : Option (((List (List Int)) × Int × Int) ⊕ Out ((List (List Int)) × Int × Int) ((List (List Int)) × Int)) :=
  (cond (decide (s18.2.2 < (z15.length : Int))) (bnd (idx z15 s18.2.2) fun y21 => bnd (F_impl_size_impl_Domino r1.1) fun r25 => (cond (decide (y21 = (w64 (r25 - 1)))) (bnd (F_impl_shortDerivation s18.1) fun r28 => some (.inr (.ret (r28.1, r28.2)))) (cond (decide (y21 = 0)) (some (.inl (s18.1, 0, (w64 (s18.2.2 + 1))))) (cond (decide (y21 = 7)) (some (.inl (s18.1, 0, (w64 (s18.2.2 + 1))))) (cond (decide (8 ≤ y21)) (bnd (app s18.1 ([([(w64 (y21 - 8)), s18.2.1] : List Int)] : List (List Int))) fun z36 => bnd (idx r1.1 y21) fun y39 => bnd (F_impl_size_int64 y39.Bottom) fun r44 => some (.inl (z36, (w64 (s18.2.1 + r44)), (w64 (s18.2.2 + 1))))) (bnd (idx r1.1 y21) fun y46 => bnd (F_impl_size_int64 y46.Bottom) fun r51 => some (.inl (s18.1, (w64 (s18.2.1 + r51)), (w64 (s18.2.2 + 1)))))))))) (some (.inr (.brk (s18.1, s18.2.1, s18.2.2)))))

noncomputable def F_impl_DerivationOfMatch (p0 : (List GRewrite)) (p1 : (List Int)) (p2 : (List Int)) (p3 : (List Int)) : Option ((List (List Int)) × Int) :=
  bnd (F_impl_RewritesToDominoes p0 p1 p2) fun r1 => (cond (decide (r1.2 ≠ 0)) (some (([] : (List (List Int))), r1.2)) (bnd (F_impl_matchWord r1.1 p3) fun r5 => (cond (decide (r5.2 ≠ 0)) (some (([] : (List (List Int))), r5.2)) (bnd (idx p3 0) fun y9 => (cond (decide (y9 ≠ 0)) (some (([] : (List (List Int))), 7)) (bnd (slc p3 1 (p3.length : Int)) fun z15 => bnd (run (F_impl_DerivationOfMatch_L1 r1 z15) (([] : List (List Int)), 0, 0)) (Out.elim (fun (s18 : (List (List Int)) × Int × Int) => bnd (F_impl_shortDerivation s18.1) fun r53 => some (r53.1, r53.2)) (fun (r : (List (List Int)) × Int) => some r))))))))


noncomputable def F_laws_FnExactDerivationOfMatch (p0 : (List GRewrite)) (p1 : (List Int)) (p2 : (List Int)) (p3 : (List Int)) : Option (Bool) :=
  (cond (decide (1048576 < (p1.length : Int))) (some true) (cond (decide (1048576 < (p2.length : Int))) (some true) (cond (decide (1048576 < (p3.length : Int))) (some true) (bnd (F_laws_szRewriteS p0 1048576) fun r4 => (cond (decide (r4 < 0)) (some true) (bnd (F_laws_toRewriteS p0) fun r7 => bnd (F_laws_toInt64S p1) fun r10 => bnd (F_laws_toInt64S p2) fun r13 => bnd (F_laws_toInt64S p3) fun r16 => bnd (F_spec_DerivationOfMatch r7 r10 r13 r16) fun r19 => bnd (F_laws_toRewriteS p0) fun r22 => bnd (F_laws_toInt64S p1) fun r25 => bnd (F_laws_toInt64S p2) fun r28 => bnd (F_laws_toInt64S p3) fun r31 => bnd (F_impl_DerivationOfMatch r22 r25 r28 r31) fun r34 => bnd (bnd (F_laws_eqInt64SS r34.1 r19.1) fun r39 => (cond (!r39) (some (.ret false)) (cond (decide (r34.2 ≠ r19.2)) (some (.ret false)) (some (.brk ())))) : Option (Out (Unit) Bool)) (Out.elim (fun (s37 : Unit) => bnd (F_laws_toRewriteS p0) fun r43 => bnd (F_laws_eqRewriteS r22 r43) fun r46 => (cond (!r46) (some false) (bnd (F_laws_toInt64S p1) fun r49 => bnd (F_laws_eqInt64S r25 r49) fun r52 => (cond (!r52) (some false) (bnd (F_laws_toInt64S p2) fun r55 => bnd (F_laws_eqInt64S r28 r55) fun r58 => (cond (!r58) (some false) (bnd (F_laws_toInt64S p3) fun r61 => bnd (F_laws_eqInt64S r31 r61) fun r64 => (cond (!r64) (some false) (bnd (F_laws_markRewriteS r22 1) fun r67 => bnd (F_laws_markInt64S r25 r67.1) fun r69 => bnd (F_laws_markInt64S r28 r69.1) fun r71 => bnd (F_laws_markInt64S r31 r71.1) fun r73 => bnd ((cond (decide (r73.1 < 0)) (some (.ret false)) (bnd (F_laws_eqInt64SS r34.1 r19.1) fun r78 => (cond (!r78) (some (.ret false)) (cond (decide (r34.2 ≠ r19.2)) (some (.ret false)) (some (.brk ())))))) : Option (Out (Unit) Bool)) (Out.elim (fun (s75 : Unit) => bnd (F_laws_markInt64SS r34.1 1) fun r82 => bnd (F_laws_heldInt64SS r82.2 1) fun r84 => (cond (decide (r84 < 0)) (some false) (cond (decide (r84 ≠ r82.1)) (some false) (bnd (F_laws_toRewriteS p0) fun r88 => bnd (F_laws_toInt64S p1) fun r91 => bnd (F_laws_toInt64S p2) fun r94 => bnd (F_laws_toInt64S p3) fun r97 => bnd (F_impl_DerivationOfMatch r88 r91 r94 r97) fun r100 => bnd (F_laws_eqInt64SS r100.1 r19.1) fun r103 => (cond (!r103) (some false) (cond (decide (r100.2 ≠ r19.2)) (some false) (bnd (F_laws_heldInt64SS r82.2 1) fun r107 => (cond (decide (r107 < 0)) (some false) (cond (decide (r107 ≠ r82.1)) (some false) (some true)))))))))) (fun (r : Bool) => some r))))))))))) (fun (r : Bool) => some r))))))))


noncomputable def F_spec_l03At (p0 : (List Int)) (p1 : Int) (p2 : (List Int)) : Option (Bool) :=
  (cond (decide ((w64 (p1 + (p2.length : Int))) ≤ (p0.length : Int))) (bnd (slc p0 p1 (w64 (p1 + (p2.length : Int)))) fun z2 => bnd (F_spec_l00Same z2 p2) fun r5 => some r5) (some false))


noncomputable def F_spec_l03Put (p0 : (List Int)) (p1 : Int) (p2 : Int) (p3 : (List Int)) : Option ((List Int)) :=
  bnd (slc p0 0 p1) fun z1 => bnd (F_spec_l00Own z1) fun r4 => bnd (app r4 p3) fun z7 => bnd (slc p0 (w64 (p1 + p2)) (p0.length : Int)) fun z10 => bnd (app z7 z10) fun z13 => some z13


noncomputable def F_spec_l10Apply (p0 : (List GRewrite)) (p1 : (List Int)) (p2 : Int) (p3 : Int) : Option ((List Int) × Int) :=
  bnd (idx p0 p2) fun y1 => bnd (F_spec_l03At p1 p3 y1.From) fun r6 => (cond (!r6) (some (([] : (List Int)), 3)) (cond (decide (400 < (w64 ((w64 ((p1.length : Int) - (y1.From.length : Int))) + (y1.To.length : Int))))) (some (([] : (List Int)), 5)) (bnd (F_spec_l03Put p1 p3 (y1.From.length : Int) y1.To) fun r21 => some (r21, 0))))


noncomputable def F_spec_ApplyRewrite (p0 : (List GRewrite)) (p1 : (List Int)) (p2 : Int) (p3 : Int) : Option ((List Int) × Int) :=
  bnd (bnd (F_spec_l10Is p0) fun r3 => (cond (!r3) (some (.ret (([] : (List Int)), 1))) (bnd (F_spec_l03Is p1) fun r6 => (cond (!r6) (some (.ret (([] : (List Int)), 1))) (some (.brk ()))))) : Option (Out (Unit) ((List Int) × Int))) (Out.elim (fun (s1 : Unit) => bnd (F_spec_l00In p2 0 (w64 ((p0.length : Int) - 1))) fun r9 => (cond (!r9) (some (([] : (List Int)), 2)) (bnd (F_spec_l00In p3 0 (p1.length : Int)) fun r12 => (cond (!r12) (some (([] : (List Int)), 2)) (bnd (F_spec_l10Apply p0 p1 p2 p3) fun r15 => some (r15.1, r15.2)))))) (fun (r : (List Int) × Int) => some r))

noncomputable def F_spec_CheckDerivation_L1 (p0 : (List GRewrite)) (p2 : (List (List Int))) (s13 : (List Int) × Int) : Option (((List Int) × Int) ⊕ Out ((List Int) × Int) ((List Int) × Int)) :=
  (cond (decide (s13.2 < (p2.length : Int))) (bnd (idx p2 s13.2) fun y16 => (cond (decide ((y16.length : Int) ≠ 2)) (some (.inr (.ret (([] : (List Int)), 7)))) (bnd (idx p2 s13.2) fun y21 => bnd (idx y21 0) fun y25 => bnd (idx p2 s13.2) fun y29 => bnd (idx y29 1) fun y33 => bnd (F_spec_ApplyRewrite p0 s13.1 y25 y33) fun r40 => (cond (decide (r40.2 ≠ 0)) (some (.inr (.ret (([] : (List Int)), 7)))) (some (.inl (r40.1, (w64 (s13.2 + 1))))))))) (some (.inr (.brk (s13.1, s13.2)))))

noncomputable def F_spec_CheckDerivation (p0 : (List GRewrite)) (p1 : (List Int)) (p2 : (List (List Int))) : Option ((List Int) × Int) :=
  bnd (bnd (F_spec_l10Is p0) fun r3 => (cond (!r3) (some (.ret (([] : (List Int)), 1))) (bnd (F_spec_l03Is p1) fun r6 => (cond (!r6) (some (.ret (([] : (List Int)), 1))) (some (.brk ()))))) : Option (Out (Unit) ((List Int) × Int))) (Out.elim (fun (s1 : Unit) => (cond (decide (100 < (p2.length : Int))) (some (([] : (List Int)), 2)) (bnd (F_spec_l00Own p1) fun r10 => bnd (run (F_spec_CheckDerivation_L1 p0 p2) (r10, 0)) (Out.elim (fun (s13 : (List Int) × Int) => some (s13.1, 0)) (fun (r : (List Int) × Int) => some r))))) (fun (r : (List Int) × Int) => some r))

noncomputable def F_spec_MatchOfDerivation_L2 (z41 : (List Int)) (s45 : (List Int) × Int) : Option (((List Int) × Int) ⊕ Out ((List Int) × Int) (Option (((List Int) × (List Int) × Int) ⊕ Out ((List Int) × (List Int) × Int) ((List Int) × Int)))) :=
  (cond (decide (s45.2 < (z41.length : Int))) (bnd (idx z41 s45.2) fun y48 => bnd (app s45.1 ([(w64 (1 + y48))] : List Int)) fun z53 => some (.inl (z53, (w64 (s45.2 + 1))))) (some (.inr (.brk (s45.1, s45.2)))))

noncomputable def F_spec_MatchOfDerivation_L3 (z70 : (List Int)) (s74 : (List Int) × Int) : Option (((List Int) × Int) ⊕ Out ((List Int) × Int) (Option (((List Int) × (List Int) × Int) ⊕ Out ((List Int) × (List Int) × Int) ((List Int) × Int)))) :=
  (cond (decide (s74.2 < (z70.length : Int))) (bnd (idx z70 s74.2) fun y77 => bnd (app s74.1 ([(w64 (1 + y77))] : List Int)) fun z82 => some (.inl (z82, (w64 (s74.2 + 1))))) (some (.inr (.brk (s74.1, s74.2)))))

noncomputable def F_spec_MatchOfDerivation_L1 (p0 : (List GRewrite)) (p3 : (List (List Int))) (s19 : (List Int) × (List Int) × Int) : Option (((List Int) × (List Int) × Int) ⊕ Out ((List Int) × (List Int) × Int) ((List Int) × Int)) :=
  (cond (decide (s19.2.2 < (p3.length : Int))) (bnd (idx p3 s19.2.2) fun y22 => bnd (idx y22 0) fun y26 => bnd (idx p0 y26) fun y30 => bnd (idx p3 s19.2.2) fun y33 => bnd (idx y33 1) fun y37 => bnd (slc s19.2.1 0 y37) fun z41 => bnd (run (F_spec_MatchOfDerivation_L2 z41) (s19.1, 0)) (Out.elim (fun (s45 : (List Int) × Int) => bnd (idx p3 s19.2.2) fun y56 => bnd (idx y56 0) fun y60 => bnd (app s45.1 ([(w64 (8 + y60))] : List Int)) fun z65 => bnd (slc s19.2.1 (w64 (y37 + (y30.From.length : Int))) (s19.2.1.length : Int)) fun z70 => bnd (run (F_spec_MatchOfDerivation_L3 z70) (z65, 0)) (Out.elim (fun (s74 : (List Int) × Int) => bnd (app s74.1 ([7] : List Int)) fun z86 => bnd (F_spec_l03Put s19.2.1 y37 (y30.From.length : Int) y30.To) fun r96 => (cond (decide (400 < (z86.length : Int))) (some (.inr (.ret (([] : (List Int)), 5)))) (some (.inl (z86, r96, (w64 (s19.2.2 + 1))))))) (fun (r : Option (((List Int) × (List Int) × Int) ⊕ Out ((List Int) × (List Int) × Int) ((List Int) × Int))) => r))) (fun (r : Option (((List Int) × (List Int) × Int) ⊕ Out ((List Int) × (List Int) × Int) ((List Int) × Int))) => r))) (some (.inr (.brk (s19.1, s19.2.1, s19.2.2)))))

noncomputable def F_spec_MatchOfDerivation (p0 : (List GRewrite)) (p1 : (List Int)) (p2 : (List Int)) (p3 : (List (List Int))) : Option ((List Int) × Int) :=
  bnd (F_spec_l32Ready p0 p1 p2) fun r1 => (cond (!r1) (some (([] : (List Int)), 1)) (bnd (F_spec_l32Rules p0 p1 p2) fun r4 => (cond (decide (r4.2 ≠ 0)) (some (([] : (List Int)), r4.2)) (bnd (F_spec_CheckDerivation p0 p1 p3) fun r8 => (cond (decide (r8.2 ≠ 0)) (some (([] : (List Int)), r8.2)) (bnd (F_spec_l00Same r8.1 p2) fun r12 => (cond (!r12) (some (([] : (List Int)), 6)) (bnd (F_spec_l00Own p1) fun r16 => bnd (run (F_spec_MatchOfDerivation_L1 p0 p3) (([0] : List Int), r16, 0)) (Out.elim (fun (s19 : (List Int) × (List Int) × Int) => bnd (app s19.1 ([(w64 ((r4.1.length : Int) - 1))] : List Int)) fun z101 => (cond (decide (400 < (z101.length : Int))) (some (([] : (List Int)), 5)) (some (z101, 0)))) (fun (r : (List Int) × Int) => some r))))))))))


noncomputable def F_impl_begins (p0 : (List Int)) (p1 : (List Int)) : Option (Bool) :=
  (cond (decide ((p1.length : Int) ≤ (p0.length : Int))) (bnd (slc p0 0 (p1.length : Int)) fun z2 => bnd (F_slices_Equal_Sint64_int64 z2 p1) fun r5 => some r5) (some false))


noncomputable def F_impl_replaced (p0 : (List Int)) (p1 : Int) (p2 : Int) (p3 : (List Int)) : Option ((List Int)) :=
  bnd (slc p0 0 p1) fun z1 => bnd (slc p0 (w64 (p1 + p2)) (p0.length : Int)) fun z4 => bnd (F_impl_joined ([z1, p3, z4] : List (List Int))) fun r11 => some r11


noncomputable def F_impl_applyRewrite (p0 : (List GRewrite)) (p1 : (List Int)) (p2 : Int) (p3 : Int) : Option ((List Int) × Int) :=
  bnd (bnd (F_impl_size_impl_Rewrite p0) fun r3 => bnd (F_impl_within p2 0 (w64 (r3 - 1))) fun r5 => (cond (!r5) (some (.ret (([] : (List Int)), 2))) (bnd (F_impl_size_int64 p1) fun r8 => bnd (F_impl_within p3 0 r8) fun r10 => (cond (!r10) (some (.ret (([] : (List Int)), 2))) (some (.brk ()))))) : Option (Out (Unit) ((List Int) × Int))) (Out.elim (fun (s1 : Unit) => bnd (idx p0 p2) fun y13 => bnd (slc p1 p3 (p1.length : Int)) fun z18 => bnd (F_impl_begins z18 y13.From) fun r24 => (cond (!r24) (some (([] : (List Int)), 3)) (bnd (F_impl_replaced p1 p3 (y13.From.length : Int) y13.To) fun r27 => bnd (F_impl_fitting r27) fun r30 => some (r30.1, r30.2)))) (fun (r : (List Int) × Int) => some r))

noncomputable def F_impl_derived_L1 (p0 : (List GRewrite)) (p2 : (List (List Int))) (s5 : (List Int) × Int) : Option (((List Int) × Int) ⊕ Out ((List Int) × Int) ((List Int) × Int)) :=
  (cond (decide (s5.2 < (p2.length : Int))) (bnd (idx p2 s5.2) fun y8 => (cond (decide ((y8.length : Int) ≠ 2)) (some (.inr (.ret (([] : (List Int)), 7)))) (bnd (idx y8 0) fun y13 => bnd (idx y8 1) fun y17 => bnd (F_impl_applyRewrite p0 s5.1 y13 y17) fun r24 => (cond (decide (r24.2 ≠ 0)) (some (.inr (.ret (([] : (List Int)), 7)))) (some (.inl (r24.1, (w64 (s5.2 + 1))))))))) (some (.inr (.brk (s5.1, s5.2)))))

noncomputable def F_impl_derived (p0 : (List GRewrite)) (p1 : (List Int)) (p2 : (List (List Int))) : Option ((List Int) × Int) :=
  (cond (decide (100 < (p2.length : Int))) (some (([] : (List Int)), 2)) (bnd (F_slices_Clone_Sint64_int64 p1) fun r2 => bnd (run (F_impl_derived_L1 p0 p2) (r2, 0)) (Out.elim (fun (s5 : (List Int) × Int) => some (s5.1, 0)) (fun (r : (List Int) × Int) => some r))))

noncomputable def F_impl_MatchOfDerivation_L1 (p0 : (List GRewrite)) (p3 : (List (List Int))) (s13 : (List Int) × (List Int) × Int) : Option (((List Int) × (List Int) × Int) ⊕ Out ((List Int) × (List Int) × Int) ((List Int) × Int)) :=
  (cond (decide (s13.2.2 < (p3.length : Int))) (bnd (idx p3 s13.2.2) fun y16 => bnd (idx y16 0) fun y20 => bnd (idx y16 1) fun y24 => bnd (idx p0 y20) fun y28 => bnd (slc s13.2.1 (w64 (y24 + (y28.From.length : Int))) (s13.2.1.length : Int)) fun z33 => bnd (slc s13.2.1 0 y24) fun z36 => bnd (F_impl_moved z36 1) fun r39 => bnd (F_impl_moved z33 1) fun r43 => bnd (F_impl_joined ([s13.1, r39, ([(w64 (8 + y20))] : List Int), r43, ([7] : List Int)] : List (List Int))) fun r48 => bnd (F_impl_applyRewrite p0 s13.2.1 y20 y24) fun r51 => some (.inl (r48, r51.1, (w64 (s13.2.2 + 1))))) (some (.inr (.brk (s13.1, s13.2.1, s13.2.2)))))

noncomputable def F_impl_MatchOfDerivation (p0 : (List GRewrite)) (p1 : (List Int)) (p2 : (List Int)) (p3 : (List (List Int))) : Option ((List Int) × Int) :=
  bnd (F_impl_RewritesToDominoes p0 p1 p2) fun r1 => (cond (decide (r1.2 ≠ 0)) (some (([] : (List Int)), r1.2)) (bnd (F_impl_derived p0 p1 p3) fun r5 => (cond (decide (r5.2 ≠ 0)) (some (([] : (List Int)), r5.2)) (bnd (F_slices_Equal_Sint64_int64 r5.1 p2) fun r9 => (cond (!r9) (some (([] : (List Int)), 6)) (bnd (run (F_impl_MatchOfDerivation_L1 p0 p3) (([0] : List Int), p1, 0)) (Out.elim (fun (s13 : (List Int) × (List Int) × Int) => bnd (F_impl_size_impl_Domino r1.1) fun r54 => bnd (app s13.1 ([(w64 (r54 - 1))] : List Int)) fun z57 => bnd (F_impl_shortMatch z57) fun r60 => some (r60.1, r60.2)) (fun (r : (List Int) × Int) => some r))))))))


noncomputable def F_laws_FnExactMatchOfDerivation (p0 : (List GRewrite)) (p1 : (List Int)) (p2 : (List Int)) (p3 : (List (List Int))) : Option (Bool) :=
  (cond (decide (1048576 < (p1.length : Int))) (some true) (cond (decide (1048576 < (p2.length : Int))) (some true) (bnd (F_laws_szRewriteS p0 1048576) fun r3 => (cond (decide (r3 < 0)) (some true) (bnd (F_laws_szInt64SS p3 r3) fun r6 => (cond (decide (r6 < 0)) (some true) (bnd (F_laws_toRewriteS p0) fun r9 => bnd (F_laws_toInt64S p1) fun r12 => bnd (F_laws_toInt64S p2) fun r15 => bnd (F_laws_toInt64SS p3) fun r18 => bnd (F_spec_MatchOfDerivation r9 r12 r15 r18) fun r21 => bnd (F_laws_toRewriteS p0) fun r24 => bnd (F_laws_toInt64S p1) fun r27 => bnd (F_laws_toInt64S p2) fun r30 => bnd (F_laws_toInt64SS p3) fun r33 => bnd (F_impl_MatchOfDerivation r24 r27 r30 r33) fun r36 => bnd (bnd (F_laws_eqInt64S r36.1 r21.1) fun r41 => (cond (!r41) (some (.ret false)) (cond (decide (r36.2 ≠ r21.2)) (some (.ret false)) (some (.brk ())))) : Option (Out (Unit) Bool)) (Out.elim (fun (s39 : Unit) => bnd (F_laws_toRewriteS p0) fun r45 => bnd (F_laws_eqRewriteS r24 r45) fun r48 => (cond (!r48) (some false) (bnd (F_laws_toInt64S p1) fun r51 => bnd (F_laws_eqInt64S r27 r51) fun r54 => (cond (!r54) (some false) (bnd (F_laws_toInt64S p2) fun r57 => bnd (F_laws_eqInt64S r30 r57) fun r60 => (cond (!r60) (some false) (bnd (F_laws_toInt64SS p3) fun r63 => bnd (F_laws_eqInt64SS r33 r63) fun r66 => (cond (!r66) (some false) (bnd (F_laws_markRewriteS r24 1) fun r69 => bnd (F_laws_markInt64S r27 r69.1) fun r71 => bnd (F_laws_markInt64S r30 r71.1) fun r73 => bnd (F_laws_markInt64SS r33 r73.1) fun r75 => bnd ((cond (decide (r75.1 < 0)) (some (.ret false)) (bnd (F_laws_eqInt64S r36.1 r21.1) fun r80 => (cond (!r80) (some (.ret false)) (cond (decide (r36.2 ≠ r21.2)) (some (.ret false)) (some (.brk ())))))) : Option (Out (Unit) Bool)) (Out.elim (fun (s77 : Unit) => bnd (F_laws_markInt64S r36.1 1) fun r84 => bnd (F_laws_heldInt64S r84.2 1) fun r86 => (cond (decide (r86 < 0)) (some false) (cond (decide (r86 ≠ r84.1)) (some false) (bnd (F_laws_toRewriteS p0) fun r90 => bnd (F_laws_toInt64S p1) fun r93 => bnd (F_laws_toInt64S p2) fun r96 => bnd (F_laws_toInt64SS p3) fun r99 => bnd (F_impl_MatchOfDerivation r90 r93 r96 r99) fun r102 => bnd (F_laws_eqInt64S r102.1 r21.1) fun r105 => (cond (!r105) (some false) (cond (decide (r102.2 ≠ r21.2)) (some false) (bnd (F_laws_heldInt64S r84.2 1) fun r109 => (cond (decide (r109 < 0)) (some false) (cond (decide (r109 ≠ r84.1)) (some false) (some true)))))))))) (fun (r : Bool) => some r))))))))))) (fun (r : Bool) => some r)))))))))

noncomputable def F_spec_l33Tiles_L1 (p0 : GMachine) (s7 : (List GTile) × Int) : Option (((List GTile) × Int) ⊕ Out ((List GTile) × Int) ((List GTile) × Bool)) :=
  (cond (decide (s7.2 < p0.Symbols)) (bnd (app s7.1 ([(⟨0, s7.2, 0, s7.2⟩ : GTile)] : List GTile)) fun z13 => some (.inl (z13, (w64 (s7.2 + 1))))) (some (.inr (.brk (s7.1, s7.2)))))

noncomputable def F_spec_l33Tiles_L3 (p0 : GMachine) (s16 : (List GTile) × Int) (s21 : (List GTile) × Int) : Option (((List GTile) × Int) ⊕ Out ((List GTile) × Int) ((List GTile) × Bool)) :=
  (cond (decide (s21.2 < p0.Symbols)) (bnd (idx p0.Rules (w64 ((w64 (s16.2 * p0.Symbols)) + s21.2))) fun y30 => bnd F_spec_l05None fun r41 => (cond (decide (y30 = r41)) (some (.inl (s21.1, (w64 (s21.2 + 1))))) (bnd (bnd (F_spec_l33Head p0 s16.2 s21.2) fun r49 => some (.brk (0, r49, 0, y30.Write)) : Option (Out (Int × Int × Int × Int) ((List GTile) × Bool))) (Out.elim (fun (s44 : Int × Int × Int × Int) => (cond (decide (0 < y30.Move)) (bnd (app s21.1 ([(⟨s44.1, s44.2.1, (w64 (1 + (w64 (2 * y30.Next)))), s44.2.2.2⟩ : GTile)] : List GTile)) fun z55 => some (.inl (z55, (w64 (s21.2 + 1))))) (bnd (app s21.1 ([(⟨(w64 (2 + (w64 (2 * y30.Next)))), s44.2.1, s44.2.2.1, s44.2.2.2⟩ : GTile)] : List GTile)) fun z59 => some (.inl (z59, (w64 (s21.2 + 1))))))) (fun (r : (List GTile) × Bool) => some (.inr (.ret r))))))) (some (.inr (.brk (s21.1, s21.2)))))

noncomputable def F_spec_l33Tiles_L2 (p0 : GMachine) (s16 : (List GTile) × Int) : Option (((List GTile) × Int) ⊕ Out ((List GTile) × Int) ((List GTile) × Bool)) :=
  (cond (decide (s16.2 < p0.States)) (bnd (run (F_spec_l33Tiles_L3 p0 s16) (s16.1, 0)) (Out.elim (fun (s21 : (List GTile) × Int) => some (.inl (s21.1, (w64 (s16.2 + 1))))) (fun (r : (List GTile) × Bool) => some (.inr (.ret r))))) (some (.inr (.brk (s16.1, s16.2)))))

noncomputable def F_spec_l33Tiles_L5 (p0 : GMachine) (s62 : (List GTile) × Int) (s67 : (List GTile) × Int) : Option (((List GTile) × Int) ⊕ Out ((List GTile) × Int) ((List GTile) × Bool)) :=
  (cond (decide (s67.2 < p0.Symbols)) (bnd (F_spec_l33Head p0 s62.2 s67.2) fun r72 => bnd (app s67.1 ([(⟨(w64 (1 + (w64 (2 * s62.2)))), s67.2, 0, r72⟩ : GTile), (⟨0, s67.2, (w64 (2 + (w64 (2 * s62.2)))), r72⟩ : GTile)] : List GTile)) fun z75 => some (.inl (z75, (w64 (s67.2 + 1))))) (some (.inr (.brk (s67.1, s67.2)))))

noncomputable def F_spec_l33Tiles_L4 (p0 : GMachine) (s62 : (List GTile) × Int) : Option (((List GTile) × Int) ⊕ Out ((List GTile) × Int) ((List GTile) × Bool)) :=
  (cond (decide (s62.2 < p0.States)) (bnd (run (F_spec_l33Tiles_L5 p0 s62) (s62.1, 0)) (Out.elim (fun (s67 : (List GTile) × Int) => some (.inl (s67.1, (w64 (s62.2 + 1))))) (fun (r : (List GTile) × Bool) => some (.inr (.ret r))))) (some (.inr (.brk (s62.1, s62.2)))))

noncomputable def F_spec_l33Tiles (p0 : GMachine) : Option ((List GTile) × Bool) :=
  (cond (decide (300 < (w64 ((w64 (2 * p0.Symbols)) * p0.States)))) (some (([] : List GTile), false)) (bnd (run (F_spec_l33Tiles_L1 p0) (([] : List GTile), 0)) (Out.elim (fun (s7 : (List GTile) × Int) => bnd (run (F_spec_l33Tiles_L2 p0) (s7.1, 0)) (Out.elim (fun (s16 : (List GTile) × Int) => bnd (run (F_spec_l33Tiles_L4 p0) (s16.1, 0)) (Out.elim (fun (s62 : (List GTile) × Int) => some (s62.1, (decide ((s62.1.length : Int) ≤ 300)))) (fun (r : (List GTile) × Bool) => some r))) (fun (r : (List GTile) × Bool) => some r))) (fun (r : (List GTile) × Bool) => some r))))

noncomputable def F_spec_l33Row_L1 (p0 : (List GTile)) (p1 : (List Int)) (p2 : (List Int)) (s3 : (List Int) × Int × Int) : Option (((List Int) × Int × Int) ⊕ Out ((List Int) × Int × Int) ((List Int) × Bool)) :=
  (cond (decide (s3.2.2 < (p2.length : Int))) (bnd (idx p2 s3.2.2) fun y6 => bnd (F_spec_l00In y6 0 (w64 ((p0.length : Int) - 1))) fun r10 => (cond (!r10) (some (.inr (.ret (([] : (List Int)), false)))) (bnd (idx p2 s3.2.2) fun y13 => bnd (idx p0 y13) fun y17 => (cond (decide (y17.Left ≠ s3.2.1)) (some (.inr (.ret (([] : (List Int)), false)))) (bnd (idx p1 s3.2.2) fun y23 => (cond (decide (y17.Bottom ≠ y23)) (some (.inr (.ret (([] : (List Int)), false)))) (bnd (app s3.1 ([y17.Top] : List Int)) fun z29 => some (.inl (z29, y17.Right, (w64 (s3.2.2 + 1))))))))))) (some (.inr (.brk (s3.1, s3.2.1, s3.2.2)))))

noncomputable def F_spec_l33Row (p0 : (List GTile)) (p1 : (List Int)) (p2 : (List Int)) : Option ((List Int) × Bool) :=
  (cond (decide ((p2.length : Int) ≠ (p1.length : Int))) (some (([] : (List Int)), false)) (bnd (run (F_spec_l33Row_L1 p0 p1 p2) (([] : List Int), 0, 0)) (Out.elim (fun (s3 : (List Int) × Int × Int) => some (s3.1, (decide (s3.2.1 = 0)))) (fun (r : (List Int) × Bool) => some r))))

noncomputable def F_spec_l33Top_L1 (p0 : (List GTile)) (p2 : (List (List Int))) (s4 : (List Int) × Int) : Option (((List Int) × Int) ⊕ Out ((List Int) × Int) ((List Int) × Bool)) :=
  (cond (decide (s4.2 < (p2.length : Int))) (bnd (idx p2 s4.2) fun y7 => bnd (F_spec_l33Row p0 s4.1 y7) fun r11 => (cond (!r11.2) (some (.inr (.ret (([] : (List Int)), false)))) (some (.inl (r11.1, (w64 (s4.2 + 1))))))) (some (.inr (.brk (s4.1, s4.2)))))

noncomputable def F_spec_l33Top (p0 : (List GTile)) (p1 : (List Int)) (p2 : (List (List Int))) : Option ((List Int) × Bool) :=
  bnd (F_spec_l00Own p1) fun r1 => bnd (run (F_spec_l33Top_L1 p0 p2) (r1, 0)) (Out.elim (fun (s4 : (List Int) × Int) => (cond (decide (0 < (p2.length : Int))) (some (s4.1, (decide ((p2.length : Int) ≤ 40)))) (some (s4.1, false)))) (fun (r : (List Int) × Bool) => some r))

noncomputable def F_spec_RunOfTiling_L1 (p0 : GMachine) (p2 : (List (List Int))) (r5 : (List GTile) × Bool) (s19 : (List GConfig) × (List Int) × Int) : Option (((List GConfig) × (List Int) × Int) ⊕ Out ((List GConfig) × (List Int) × Int) ((List GConfig) × Int)) :=
  (cond (decide (s19.2.2 < (p2.length : Int))) (bnd (idx p2 s19.2.2) fun y22 => bnd (F_spec_l33Row r5.1 s19.2.1 y22) fun r26 => bnd (F_spec_l33Config p0 r26.1) fun r29 => bnd (app s19.1 ([r29.1] : List GConfig)) fun z34 => some (.inl (z34, r26.1, (w64 (s19.2.2 + 1))))) (some (.inr (.brk (s19.1, s19.2.1, s19.2.2)))))

noncomputable def F_spec_RunOfTiling (p0 : GMachine) (p1 : (List Int)) (p2 : (List (List Int))) : Option ((List GConfig) × Int) :=
  bnd (F_spec_l05Is p0) fun r2 => (cond (!r2) (some (([] : (List GConfig)), 1)) (bnd (F_spec_l33Tiles p0) fun r5 => (cond (!r5.2) (some (([] : (List GConfig)), 5)) (bnd (F_spec_l33Decode p0 p1) fun r9 => (cond (decide (r9.2.2 ≠ 0)) (some (([] : (List GConfig)), r9.2.2)) (bnd (F_spec_l33Top r5.1 p1 p2) fun r14 => (cond (!r14.2) (some (([] : (List GConfig)), 7)) (bnd (run (F_spec_RunOfTiling_L1 p0 p2 r5) (([r9.1] : List GConfig), p1, 0)) (Out.elim (fun (s19 : (List GConfig) × (List Int) × Int) => some (s19.1, 0)) (fun (r : (List GConfig) × Int) => some r))))))))))


noncomputable def F_impl_resting (p0 : Int) : Option (GTile) :=
  some (⟨0, p0, 0, p0⟩ : GTile)


noncomputable def F_impl_passes (p0 : Int) (p1 : Int) : Option (Int) :=
  (cond (decide (p0 = 1)) (some (w64 (1 + (w64 (2 * p1))))) (some (w64 (2 + (w64 (2 * p1))))))


noncomputable def F_impl_leaving (p0 : GMachine) (p1 : Int) (p2 : Int) (p3 : GRule) : Option (GTile) :=
  bnd (bnd (F_impl_headColor p0 p1 p2) fun r9 => some (.brk (0, r9, 0, p3.Write)) : Option (Out (Int × Int × Int × Int) GTile)) (Out.elim (fun (s4 : Int × Int × Int × Int) => (cond (decide (p3.Move = 1)) (bnd (F_impl_passes 1 p3.Next) fun r14 => some (⟨s4.1, s4.2.1, r14, s4.2.2.2⟩ : GTile)) (bnd (F_impl_passes (-1) p3.Next) fun r16 => some (⟨r16, s4.2.1, s4.2.2.1, s4.2.2.2⟩ : GTile)))) (fun (r : GTile) => some r))


noncomputable def F_impl_coming (p0 : GMachine) (p1 : Int) (p2 : Int) (p3 : Int) : Option (GTile) :=
  bnd (F_impl_headColor p0 p2 p3) fun r3 => (cond (decide (p1 = 1)) (bnd (F_impl_passes 1 p2) fun r7 => some (⟨r7, p3, 0, r3⟩ : GTile)) (bnd (F_impl_passes (-1) p2) fun r9 => some (⟨0, p3, r9, r3⟩ : GTile)))

noncomputable def F_impl_tilesOfMachine_L1 (p0 : GMachine) (s3 : (List GTile) × Int) : Option (((List GTile) × Int) ⊕ Out ((List GTile) × Int) ((List GTile) × Int)) :=
  (cond (decide (s3.2 < p0.Symbols)) (bnd (F_impl_resting s3.2) fun r6 => bnd (app s3.1 ([r6] : List GTile)) fun z9 => some (.inl (z9, (w64 (s3.2 + 1))))) (some (.inr (.brk (s3.1, s3.2)))))

noncomputable def F_impl_tilesOfMachine_L2 (p0 : GMachine) (s12 : (List GTile) × Int) : Option (((List GTile) × Int) ⊕ Out ((List GTile) × Int) ((List GTile) × Int)) :=
  (cond (decide (s12.2 < (p0.Rules.length : Int))) (bnd (idx p0.Rules s12.2) fun y15 => bnd (F_impl_isRule y15) fun r20 => (cond r20 (bnd (nz p0.Symbols) fun u23 => bnd (nz p0.Symbols) fun u25 => bnd (F_impl_leaving p0 (w64 (Int.tdiv s12.2 p0.Symbols)) (Int.tmod s12.2 p0.Symbols) y15) fun r30 => bnd (app s12.1 ([r30] : List GTile)) fun z33 => some (.inl (z33, (w64 (s12.2 + 1))))) (some (.inl (s12.1, (w64 (s12.2 + 1))))))) (some (.inr (.brk (s12.1, s12.2)))))

noncomputable def F_impl_tilesOfMachine_L4 (p0 : GMachine) (s36 : (List GTile) × Int) (s39 : (List GTile) × Int) : Option (((List GTile) × Int) ⊕ Out ((List GTile) × Int) ((List GTile) × Int)) :=
  (cond (decide (s39.2 < p0.Symbols)) (bnd (F_impl_coming p0 1 s36.2 s39.2) fun r45 => bnd (F_impl_coming p0 (-1) s36.2 s39.2) fun r47 => bnd (app s39.1 ([r45, r47] : List GTile)) fun z50 => some (.inl (z50, (w64 (s39.2 + 1))))) (some (.inr (.brk (s39.1, s39.2)))))

noncomputable def F_impl_tilesOfMachine_L3 (p0 : GMachine) (s36 : (List GTile) × Int) : Option (((List GTile) × Int) ⊕ Out ((List GTile) × Int) ((List GTile) × Int)) :=
  (cond (decide (s36.2 < p0.States)) (bnd (run (F_impl_tilesOfMachine_L4 p0 s36) (s36.1, 0)) (Out.elim (fun (s39 : (List GTile) × Int) => some (.inl (s39.1, (w64 (s36.2 + 1))))) (fun (r : (List GTile) × Int) => some (.inr (.ret r))))) (some (.inr (.brk (s36.1, s36.2)))))

noncomputable def F_impl_tilesOfMachine (p0 : GMachine) : Option ((List GTile) × Int) :=
  bnd (run (F_impl_tilesOfMachine_L1 p0) (([] : List GTile), 0)) (Out.elim (fun (s3 : (List GTile) × Int) => bnd (run (F_impl_tilesOfMachine_L2 p0) (s3.1, 0)) (Out.elim (fun (s12 : (List GTile) × Int) => bnd (run (F_impl_tilesOfMachine_L3 p0) (s12.1, 0)) (Out.elim (fun (s36 : (List GTile) × Int) => (cond (decide (300 < (s36.1.length : Int))) (some (([] : (List GTile)), 5)) (some (s36.1, 0)))) (fun (r : (List GTile) × Int) => some r))) (fun (r : (List GTile) × Int) => some r))) (fun (r : (List GTile) × Int) => some r))


noncomputable def F_impl_size_Sint64 (p0 : (List (List Int))) : Option (Int) :=
  some (p0.length : Int)


noncomputable def F_impl_size_impl_Tile (p0 : (List GTile)) : Option (Int) :=
  some (p0.length : Int)


noncomputable def F_impl_fitsAt (p0 : GTile) (p1 : Int) (p2 : Int) (p3 : Bool) : Option (Bool) :=
  (cond (decide (p0.Left = p1)) (cond (decide (p0.Bottom = p2)) (cond (!p3) (some true) (some (decide (p0.Right = 0)))) (some false)) (some false))

noncomputable def F_impl_topsOf_L2 (p0 : (List GTile)) (s7 : (List (List Int)) × (List Int) × Int) (y10 : (List Int)) (s23 : Int × (List Int) × Int) : Option ((Int × (List Int) × Int) ⊕ Out (Int × (List Int) × Int) ((List (List Int)) × Bool)) :=
  (cond (decide (s23.2.2 < (y10.length : Int))) (bnd (idx y10 s23.2.2) fun y26 => bnd (idx p0 y26) fun y30 => bnd (idx s7.2.1 s23.2.2) fun y35 => bnd (F_impl_fitsAt y30 s23.1 y35 (decide (s23.2.2 = (w64 ((y10.length : Int) - 1))))) fun r42 => (cond (!r42) (some (.inr (.ret (([] : (List (List Int))), false)))) (bnd (app s23.2.1 ([y30.Top] : List Int)) fun z49 => some (.inl (y30.Right, z49, (w64 (s23.2.2 + 1))))))) (some (.inr (.brk (s23.1, s23.2.1, s23.2.2)))))

noncomputable def F_impl_topsOf_L1 (p0 : (List GTile)) (p1 : (List Int)) (p2 : (List (List Int))) (s7 : (List (List Int)) × (List Int) × Int) : Option (((List (List Int)) × (List Int) × Int) ⊕ Out ((List (List Int)) × (List Int) × Int) ((List (List Int)) × Bool)) :=
  (cond (decide (s7.2.2 < (p2.length : Int))) (bnd (idx p2 s7.2.2) fun y10 => bnd ((cond (decide ((y10.length : Int) ≠ (p1.length : Int))) (some (.ret (([] : (List (List Int))), false))) (bnd (F_impl_size_impl_Tile p0) fun r17 => bnd (F_impl_allWithin y10 0 (w64 (r17 - 1))) fun r19 => (cond (!r19) (some (.ret (([] : (List (List Int))), false))) (some (.brk ()))))) : Option (Out (Unit) ((List (List Int)) × Bool))) (Out.elim (fun (s14 : Unit) => bnd (run (F_impl_topsOf_L2 p0 s7 y10) (0, ([] : List Int), 0)) (Out.elim (fun (s23 : Int × (List Int) × Int) => bnd (app s7.1 ([s23.2.1] : List (List Int))) fun z53 => some (.inl (z53, s23.2.1, (w64 (s7.2.2 + 1))))) (fun (r : (List (List Int)) × Bool) => some (.inr (.ret r))))) (fun (r : (List (List Int)) × Bool) => some (.inr (.ret r))))) (some (.inr (.brk (s7.1, s7.2.1, s7.2.2)))))

noncomputable def F_impl_topsOf (p0 : (List GTile)) (p1 : (List Int)) (p2 : (List (List Int))) : Option ((List (List Int)) × Bool) :=
  bnd (F_impl_size_Sint64 p2) fun r1 => bnd (F_impl_within r1 1 40) fun r3 => (cond (!r3) (some (([] : (List (List Int))), false)) (bnd (run (F_impl_topsOf_L1 p0 p1 p2) (([] : List (List Int)), p1, 0)) (Out.elim (fun (s7 : (List (List Int)) × (List Int) × Int) => some (s7.1, true)) (fun (r : (List (List Int)) × Bool) => some r))))

noncomputable def F_impl_RunOfTiling_L1 (p0 : GMachine) (r14 : (List (List Int)) × Bool) (s19 : (List GConfig) × Int) : Option (((List GConfig) × Int) ⊕ Out ((List GConfig) × Int) ((List GConfig) × Int)) :=
  (cond (decide (s19.2 < (r14.1.length : Int))) (bnd (idx r14.1 s19.2) fun y22 => bnd (F_impl_configOfRow p0 y22) fun r27 => (cond (decide (r27.2.2 ≠ 0)) (some (.inr (.ret (([] : (List GConfig)), 7)))) (bnd (app s19.1 ([r27.1] : List GConfig)) fun z33 => some (.inl (z33, (w64 (s19.2 + 1))))))) (some (.inr (.brk (s19.1, s19.2)))))

noncomputable def F_impl_RunOfTiling (p0 : GMachine) (p1 : (List Int)) (p2 : (List (List Int))) : Option ((List GConfig) × Int) :=
  bnd (F_impl_ValidMachine p0) fun r2 => (cond (!r2) (some (([] : (List GConfig)), 1)) (bnd (F_impl_tilesOfMachine p0) fun r5 => (cond (decide (r5.2 ≠ 0)) (some (([] : (List GConfig)), r5.2)) (bnd (F_impl_ConfigOfRow p0 p1) fun r9 => (cond (decide (r9.2.2 ≠ 0)) (some (([] : (List GConfig)), r9.2.2)) (bnd (F_impl_topsOf r5.1 p1 p2) fun r14 => (cond (!r14.2) (some (([] : (List GConfig)), 7)) (bnd (run (F_impl_RunOfTiling_L1 p0 r14) (([r9.1] : List GConfig), 0)) (Out.elim (fun (s19 : (List GConfig) × Int) => some (s19.1, 0)) (fun (r : (List GConfig) × Int) => some r))))))))))

noncomputable def F_laws_eqConfigS_L1 (p0 : (List GConfig)) (p1 : (List GConfig)) (s2 : Int) : Option ((Int) ⊕ Out (Int) Bool) :=
  (cond (decide (s2 < (p0.length : Int))) (bnd (idx p0 s2) fun y5 => bnd (idx p1 s2) fun y9 => bnd (F_laws_eqConfig y5 y9) fun r16 => (cond (!r16) (some (.inr (.ret false))) (some (.inl (w64 (s2 + 1)))))) (some (.inr (.brk s2))))

noncomputable def F_laws_eqConfigS (p0 : (List GConfig)) (p1 : (List GConfig)) : Option (Bool) :=
  (cond (decide ((p0.length : Int) ≠ (p1.length : Int))) (some false) (bnd (run (F_laws_eqConfigS_L1 p0 p1) 0) (Out.elim (fun (s2 : Int) => some true) (fun (r : Bool) => some r))))

noncomputable def F_laws_markConfigS_L1 (s1 : (List GConfig) × Int × Int) : Option (((List GConfig) × Int × Int) ⊕ Out ((List GConfig) × Int × Int) (Int × (List GConfig))) :=
  (cond (decide (s1.2.2 < (s1.1.length : Int))) (bnd (idx s1.1 s1.2.2) fun y4 => bnd (idx (s1.1.set s1.2.2.toNat (⟨s1.2.1, y4.Left, y4.Right⟩ : GConfig)) s1.2.2) fun y9 => bnd (F_laws_markInt64S y9.Left (w64 (s1.2.1 + 1))) fun r12 => bnd (idx ((s1.1.set s1.2.2.toNat (⟨s1.2.1, y4.Left, y4.Right⟩ : GConfig)).set s1.2.2.toNat (⟨y9.State, r12.2, y9.Right⟩ : GConfig)) s1.2.2) fun y14 => bnd (F_laws_markInt64S y14.Right r12.1) fun r17 => some (.inl ((((s1.1.set s1.2.2.toNat (⟨s1.2.1, y4.Left, y4.Right⟩ : GConfig)).set s1.2.2.toNat (⟨y9.State, r12.2, y9.Right⟩ : GConfig)).set s1.2.2.toNat (⟨y14.State, y14.Left, r17.2⟩ : GConfig)), r17.1, (w64 (s1.2.2 + 1))))) (some (.inr (.brk (s1.1, s1.2.1, s1.2.2)))))

noncomputable def F_laws_markConfigS (p0 : (List GConfig)) (p1 : Int) : Option (Int × (List GConfig)) :=
  bnd (run (F_laws_markConfigS_L1) (p0, p1, 0)) (Out.elim (fun (s1 : (List GConfig) × Int × Int) => some (s1.2.1, s1.1)) (fun (r : Int × (List GConfig)) => some r))

noncomputable def F_laws_heldConfigS_L1 (p0 : (List GConfig)) (s1 : Int × Int) : Option ((Int × Int) ⊕ Out (Int × Int) Int) :=
  (cond (decide (s1.2 < (p0.length : Int))) (bnd (idx p0 s1.2) fun y4 => (cond (decide (y4.State ≠ s1.1)) (some (.inr (.ret (-1)))) (bnd (idx p0 s1.2) fun y10 => bnd (F_laws_heldInt64S y10.Left (w64 (s1.1 + 1))) fun r15 => (cond (decide (r15 < 0)) (some (.inr (.ret (-1)))) (bnd (idx p0 s1.2) fun y18 => bnd (F_laws_heldInt64S y18.Right r15) fun r23 => (cond (decide (r23 < 0)) (some (.inr (.ret (-1)))) (some (.inl (r23, (w64 (s1.2 + 1))))))))))) (some (.inr (.brk (s1.1, s1.2)))))

noncomputable def F_laws_heldConfigS (p0 : (List GConfig)) (p1 : Int) : Option (Int) :=
  bnd (run (F_laws_heldConfigS_L1 p0) (p1, 0)) (Out.elim (fun (s1 : Int × Int) => some s1.1) (fun (r : Int) => some r))


noncomputable def F_laws_FnExactRunOfTiling (p0 : GMachine) (p1 : (List Int)) (p2 : (List (List Int))) : Option (Bool) :=
  (cond (decide (1048576 < (p1.length : Int))) (some true) (bnd (F_laws_szMachine p0 1048576) fun r3 => (cond (decide (r3 < 0)) (some true) (bnd (F_laws_szInt64SS p2 r3) fun r6 => (cond (decide (r6 < 0)) (some true) (bnd (F_laws_toMachine p0) fun r9 => bnd (F_laws_toInt64S p1) fun r12 => bnd (F_laws_toInt64SS p2) fun r15 => bnd (F_spec_RunOfTiling r9 r12 r15) fun r18 => bnd (F_laws_toMachine p0) fun r21 => bnd (F_laws_toInt64S p1) fun r25 => bnd (F_laws_toInt64SS p2) fun r28 => bnd (F_impl_RunOfTiling r21 r25 r28) fun r31 => bnd (bnd (F_laws_eqConfigS r31.1 r18.1) fun r36 => (cond (!r36) (some (.ret false)) (cond (decide (r31.2 ≠ r18.2)) (some (.ret false)) (some (.brk ())))) : Option (Out (Unit) Bool)) (Out.elim (fun (s34 : Unit) => bnd (F_laws_toMachine p0) fun r43 => bnd (F_laws_eqMachine r21 r43) fun r46 => (cond (!r46) (some false) (bnd (F_laws_toInt64S p1) fun r49 => bnd (F_laws_eqInt64S r25 r49) fun r52 => (cond (!r52) (some false) (bnd (F_laws_toInt64SS p2) fun r55 => bnd (F_laws_eqInt64SS r28 r55) fun r58 => (cond (!r58) (some false) (bnd (F_laws_markRuleS r21.Rules 1) fun r63 => bnd (F_laws_markInt64S r25 r63.1) fun r65 => bnd (F_laws_markInt64SS r28 r65.1) fun r67 => bnd ((cond (decide (r67.1 < 0)) (some (.ret false)) (bnd (F_laws_eqConfigS r31.1 r18.1) fun r72 => (cond (!r72) (some (.ret false)) (cond (decide (r31.2 ≠ r18.2)) (some (.ret false)) (some (.brk ())))))) : Option (Out (Unit) Bool)) (Out.elim (fun (s69 : Unit) => bnd (F_laws_markConfigS r31.1 1) fun r76 => bnd (F_laws_heldConfigS r76.2 1) fun r78 => (cond (decide (r78 < 0)) (some false) (cond (decide (r78 ≠ r76.1)) (some false) (bnd (F_laws_toMachine p0) fun r82 => bnd (F_laws_toInt64S p1) fun r85 => bnd (F_laws_toInt64SS p2) fun r88 => bnd (F_impl_RunOfTiling r82 r85 r88) fun r91 => bnd (F_laws_eqConfigS r91.1 r18.1) fun r94 => (cond (!r94) (some false) (cond (decide (r91.2 ≠ r18.2)) (some false) (bnd (F_laws_heldConfigS r76.2 1) fun r98 => (cond (decide (r98 < 0)) (some false) (cond (decide (r98 ≠ r76.1)) (some false) (some true)))))))))) (fun (r : Bool) => some r))))))))) (fun (r : Bool) => some r))))))))

noncomputable def F_spec_StepsOfDerivation_L1 (p2 : (List (List Int))) (r11 : (List GRewrite) × Int × Bool) (s31 : Int × Int) : Option ((Int × Int) ⊕ Out (Int × Int) (Int × Int)) :=
  (cond (decide (s31.2 < (p2.length : Int))) (bnd (idx p2 s31.2) fun y34 => bnd (idx y34 0) fun y38 => (cond (decide (y38 < r11.2.1)) (some (.inl ((w64 (s31.1 + 1)), (w64 (s31.2 + 1))))) (some (.inl (s31.1, (w64 (s31.2 + 1))))))) (some (.inr (.brk (s31.1, s31.2)))))

noncomputable def F_spec_StepsOfDerivation (p0 : GMachine) (p1 : GConfig) (p2 : (List (List Int))) : Option (Int × Int) :=
  bnd (bnd (F_spec_l05Is p0) fun r5 => (cond (!r5) (some (.ret (0, 1))) (bnd (F_spec_l05Good p0 p1) fun r8 => (cond (!r8) (some (.ret (0, 1))) (some (.brk ()))))) : Option (Out (Unit) (Int × Int))) (Out.elim (fun (s3 : Unit) => bnd (F_spec_l32Halt p0) fun r11 => bnd (F_spec_l16Word p0 p1) fun r14 => bnd ((cond (!r11.2.2) (some (.ret (0, 5))) (cond (decide (400 < (r14.length : Int))) (some (.ret (0, 5))) (some (.brk ())))) : Option (Out (Unit) (Int × Int))) (Out.elim (fun (s17 : Unit) => bnd (F_spec_CheckDerivation r11.1 r14 p2) fun r21 => (cond (decide (r21.2 ≠ 0)) (some (0, r21.2)) (bnd (F_spec_l32Target p0) fun r25 => bnd (F_spec_l00Same r21.1 r25) fun r28 => (cond (!r28) (some (0, 6)) (bnd (run (F_spec_StepsOfDerivation_L1 p2 r11) (0, 0)) (Out.elim (fun (s31 : Int × Int) => some (s31.1, 0)) (fun (r : Int × Int) => some r))))))) (fun (r : Int × Int) => some r))) (fun (r : Int × Int) => some r))

noncomputable def F_impl_StepsOfDerivation_L1 (p2 : (List (List Int))) (r10 : (List GRewrite) × Int × Int) (s21 : Int × Int) : Option ((Int × Int) ⊕ Out (Int × Int) (Int × Int)) :=
  (cond (decide (s21.2 < (p2.length : Int))) (bnd (idx p2 s21.2) fun y24 => bnd (idx y24 0) fun y28 => (cond (decide (y28 < r10.2.1)) (some (.inl ((w64 (s21.1 + 1)), (w64 (s21.2 + 1))))) (some (.inl (s21.1, (w64 (s21.2 + 1))))))) (some (.inr (.brk (s21.1, s21.2)))))

noncomputable def F_impl_StepsOfDerivation (p0 : GMachine) (p1 : GConfig) (p2 : (List (List Int))) : Option (Int × Int) :=
  bnd (F_impl_ValidConfig p0 p1) fun r3 => (cond (!r3) (some (0, 1)) (bnd (F_impl_haltWords p0 p1) fun r6 => (cond (decide (r6.2.2 ≠ 0)) (some (0, r6.2.2)) (bnd (F_impl_haltRewrites p0) fun r10 => (cond (decide (r10.2.2 ≠ 0)) (some (0, r10.2.2)) (bnd (F_impl_derived r10.1 r6.1 p2) fun r14 => (cond (decide (r14.2 ≠ 0)) (some (0, r14.2)) (bnd (F_slices_Equal_Sint64_int64 r14.1 r6.2.1) fun r18 => (cond (!r18) (some (0, 6)) (bnd (run (F_impl_StepsOfDerivation_L1 p2 r10) (0, 0)) (Out.elim (fun (s21 : Int × Int) => some (s21.1, 0)) (fun (r : Int × Int) => some r))))))))))))


noncomputable def F_laws_FnExactStepsOfDerivation (p0 : GMachine) (p1 : GConfig) (p2 : (List (List Int))) : Option (Bool) :=
  bnd (F_laws_szMachine p0 1048576) fun r3 => (cond (decide (r3 < 0)) (some true) (bnd (F_laws_szConfig p1 r3) fun r6 => (cond (decide (r6 < 0)) (some true) (bnd (F_laws_szInt64SS p2 r6) fun r9 => (cond (decide (r9 < 0)) (some true) (bnd (F_laws_toMachine p0) fun r15 => bnd (F_laws_toConfig p1) fun r18 => bnd (F_laws_toInt64SS p2) fun r21 => bnd (F_spec_StepsOfDerivation r15 r18 r21) fun r24 => bnd (F_laws_toMachine p0) fun r26 => bnd (F_laws_toConfig p1) fun r30 => bnd (F_laws_toInt64SS p2) fun r34 => bnd (F_impl_StepsOfDerivation r26 r30 r34) fun r37 => bnd ((cond (decide (r37.1 ≠ r24.1)) (some (.ret false)) (cond (decide (r37.2 ≠ r24.2)) (some (.ret false)) (some (.brk ())))) : Option (Out (Unit) Bool)) (Out.elim (fun (s39 : Unit) => bnd (F_laws_toMachine p0) fun r46 => bnd (F_laws_eqMachine r26 r46) fun r49 => (cond (!r49) (some false) (bnd (F_laws_toConfig p1) fun r55 => bnd (F_laws_eqConfig r30 r55) fun r58 => (cond (!r58) (some false) (bnd (F_laws_toInt64SS p2) fun r61 => bnd (F_laws_eqInt64SS r34 r61) fun r64 => (cond (!r64) (some false) (some true))))))) (fun (r : Bool) => some r))))))))

end Go.Fn
