/-
  What each function of the program computes, as a plain Lean function: printed by program off the translation. No condition.
-/
import Derived.Test.YtcjokkoiakjajaaTy
namespace Go.Fn
open Go Go.Tc
set_option linter.unusedVariables false

noncomputable def F_laws_szInt64S (p0 : (List Int)) (p1 : Int) : Option (Int) :=
  (cond (decide ((w64 (p1 - (p0.length : Int))) < 0)) (some (-1)) (some (w64 (p1 - (p0.length : Int)))))


noncomputable def F_laws_szMultiRule (p0 : GMultiRule) (p1 : Int) : Option (Int) :=
  bnd (F_laws_szInt64S p0.Read p1) fun r2 => (cond (decide (r2 < 0)) (some (-1)) (bnd (F_laws_szInt64S p0.Write r2) fun r5 => (cond (decide (r5 < 0)) (some (-1)) (bnd (F_laws_szInt64S p0.Move r5) fun r8 => (cond (decide (r8 < 0)) (some (-1)) (some r8))))))

noncomputable def F_laws_szMultiRuleS_L1 (p0 : (List GMultiRule)) (s2 : Int × Int) : Option ((Int × Int) ⊕ Out (Int × Int) Int) :=
  (cond (decide (s2.2 < (p0.length : Int))) (bnd (idx p0 s2.2) fun y5 => bnd (F_laws_szMultiRule y5 s2.1) fun r9 => (cond (decide (r9 < 0)) (some (.inr (.ret (-1)))) (some (.inl (r9, (w64 (s2.2 + 1))))))) (some (.inr (.brk (s2.1, s2.2)))))

noncomputable def F_laws_szMultiRuleS (p0 : (List GMultiRule)) (p1 : Int) : Option (Int) :=
  (cond (decide ((w64 (p1 - (p0.length : Int))) < 0)) (some (-1)) (bnd (run (F_laws_szMultiRuleS_L1 p0) ((w64 (p1 - (p0.length : Int))), 0)) (Out.elim (fun (s2 : Int × Int) => some s2.1) (fun (r : Int) => some r))))


noncomputable def F_laws_szMulti (p0 : GMulti) (p1 : Int) : Option (Int) :=
  bnd (F_laws_szMultiRuleS p0.Rules p1) fun r2 => (cond (decide (r2 < 0)) (some (-1)) (some r2))


noncomputable def F_laws_szTape (p0 : GTape) (p1 : Int) : Option (Int) :=
  bnd (F_laws_szInt64S p0.Left p1) fun r2 => (cond (decide (r2 < 0)) (some (-1)) (bnd (F_laws_szInt64S p0.Right r2) fun r5 => (cond (decide (r5 < 0)) (some (-1)) (some r5))))

noncomputable def F_laws_szTapeS_L1 (p0 : (List GTape)) (s2 : Int × Int) : Option ((Int × Int) ⊕ Out (Int × Int) Int) :=
  (cond (decide (s2.2 < (p0.length : Int))) (bnd (idx p0 s2.2) fun y5 => bnd (F_laws_szTape y5 s2.1) fun r9 => (cond (decide (r9 < 0)) (some (.inr (.ret (-1)))) (some (.inl (r9, (w64 (s2.2 + 1))))))) (some (.inr (.brk (s2.1, s2.2)))))

noncomputable def F_laws_szTapeS (p0 : (List GTape)) (p1 : Int) : Option (Int) :=
  (cond (decide ((w64 (p1 - (p0.length : Int))) < 0)) (some (-1)) (bnd (run (F_laws_szTapeS_L1 p0) ((w64 (p1 - (p0.length : Int))), 0)) (Out.elim (fun (s2 : Int × Int) => some s2.1) (fun (r : Int) => some r))))


noncomputable def F_laws_szMultiConfig (p0 : GMultiConfig) (p1 : Int) : Option (Int) :=
  bnd (F_laws_szTapeS p0.Tapes p1) fun r2 => (cond (decide (r2 < 0)) (some (-1)) (some r2))

noncomputable def F_laws_toInt64S_L1 (p0 : (List Int)) (s4 : (List Int) × Int) : Option (((List Int) × Int) ⊕ Out ((List Int) × Int) (List Int)) :=
  (cond (decide (s4.2 < (p0.length : Int))) (bnd (idx p0 s4.2) fun y7 => bnd (idx s4.1 s4.2) fun y11 => some (.inl ((s4.1.set s4.2.toNat y7), (w64 (s4.2 + 1))))) (some (.inr (.brk (s4.1, s4.2)))))

noncomputable def F_laws_toInt64S (p0 : (List Int)) : Option ((List Int)) :=
  bnd (mke (p0.length : Int) (0 : Int)) fun z1 => bnd (run (F_laws_toInt64S_L1 p0) (z1, 0)) (Out.elim (fun (s4 : (List Int) × Int) => some s4.1) (fun (r : (List Int)) => some r))


noncomputable def F_laws_toMultiRule (p0 : GMultiRule) : Option (GMultiRule) :=
  bnd (F_laws_toInt64S p0.Read) fun r4 => bnd (F_laws_toInt64S p0.Write) fun r7 => bnd (F_laws_toInt64S p0.Move) fun r10 => some (⟨p0.State, r4, r7, r10, p0.Next⟩ : GMultiRule)

noncomputable def F_laws_toMultiRuleS_L1 (p0 : (List GMultiRule)) (s4 : (List GMultiRule) × Int) : Option (((List GMultiRule) × Int) ⊕ Out ((List GMultiRule) × Int) (List GMultiRule)) :=
  (cond (decide (s4.2 < (p0.length : Int))) (bnd (idx p0 s4.2) fun y7 => bnd (F_laws_toMultiRule y7) fun r11 => bnd (idx s4.1 s4.2) fun y14 => some (.inl ((s4.1.set s4.2.toNat r11), (w64 (s4.2 + 1))))) (some (.inr (.brk (s4.1, s4.2)))))

noncomputable def F_laws_toMultiRuleS (p0 : (List GMultiRule)) : Option ((List GMultiRule)) :=
  bnd (mke (p0.length : Int) (⟨(0 : Int), ([] : (List Int)), ([] : (List Int)), ([] : (List Int)), (0 : Int)⟩ : GMultiRule)) fun z1 => bnd (run (F_laws_toMultiRuleS_L1 p0) (z1, 0)) (Out.elim (fun (s4 : (List GMultiRule) × Int) => some s4.1) (fun (r : (List GMultiRule)) => some r))


noncomputable def F_laws_toMulti (p0 : GMulti) : Option (GMulti) :=
  bnd (F_laws_toMultiRuleS p0.Rules) fun r4 => some (⟨p0.Tapes, p0.Symbols, p0.States, r4⟩ : GMulti)


noncomputable def F_laws_toTape (p0 : GTape) : Option (GTape) :=
  bnd (F_laws_toInt64S p0.Left) fun r4 => bnd (F_laws_toInt64S p0.Right) fun r7 => some (⟨r4, r7⟩ : GTape)

noncomputable def F_laws_toTapeS_L1 (p0 : (List GTape)) (s4 : (List GTape) × Int) : Option (((List GTape) × Int) ⊕ Out ((List GTape) × Int) (List GTape)) :=
  (cond (decide (s4.2 < (p0.length : Int))) (bnd (idx p0 s4.2) fun y7 => bnd (F_laws_toTape y7) fun r11 => bnd (idx s4.1 s4.2) fun y14 => some (.inl ((s4.1.set s4.2.toNat r11), (w64 (s4.2 + 1))))) (some (.inr (.brk (s4.1, s4.2)))))

noncomputable def F_laws_toTapeS (p0 : (List GTape)) : Option ((List GTape)) :=
  bnd (mke (p0.length : Int) (⟨([] : (List Int)), ([] : (List Int))⟩ : GTape)) fun z1 => bnd (run (F_laws_toTapeS_L1 p0) (z1, 0)) (Out.elim (fun (s4 : (List GTape) × Int) => some s4.1) (fun (r : (List GTape)) => some r))


noncomputable def F_laws_toMultiConfig (p0 : GMultiConfig) : Option (GMultiConfig) :=
  bnd (F_laws_toTapeS p0.Tapes) fun r4 => some (⟨p0.State, r4⟩ : GMultiConfig)


noncomputable def F_spec_l00In (p0 : Int) (p1 : Int) (p2 : Int) : Option (Bool) :=
  (cond (decide (p1 ≤ p0)) (some (decide (p0 ≤ p2))) (some false))

noncomputable def F_spec_l06Row_L1 (p0 : (List Int)) (p2 : Int) (p3 : Int) (s2 : Int) : Option ((Int) ⊕ Out (Int) Bool) :=
  (cond (decide (s2 < (p0.length : Int))) (bnd (idx p0 s2) fun y5 => bnd (F_spec_l00In y5 p2 p3) fun r9 => (cond (!r9) (some (.inr (.ret false))) (some (.inl (w64 (s2 + 1)))))) (some (.inr (.brk s2))))

noncomputable def F_spec_l06Row (p0 : (List Int)) (p1 : Int) (p2 : Int) (p3 : Int) : Option (Bool) :=
  (cond (decide ((p0.length : Int) ≠ p1)) (some false) (bnd (run (F_spec_l06Row_L1 p0 p2 p3) 0) (Out.elim (fun (s2 : Int) => some true) (fun (r : Bool) => some r))))

noncomputable def F_spec_l01Compare_L1 (p0 : (List Int)) (p1 : (List Int)) (s1 : Int) : Option ((Int) ⊕ Out (Int) Int) :=
  (cond (decide (s1 < (p0.length : Int))) (cond (decide (s1 < (p1.length : Int))) (bnd (idx p0 s1) fun y5 => bnd (idx p1 s1) fun y9 => (cond (decide (y5 < y9)) (some (.inr (.ret (-1)))) (bnd (idx p0 s1) fun y14 => bnd (idx p1 s1) fun y18 => (cond (decide (y18 < y14)) (some (.inr (.ret 1))) (some (.inl (w64 (s1 + 1)))))))) (some (.inr (.brk s1)))) (some (.inr (.brk s1))))

noncomputable def F_spec_l01Compare (p0 : (List Int)) (p1 : (List Int)) : Option (Int) :=
  bnd (run (F_spec_l01Compare_L1 p0 p1) 0) (Out.elim (fun (s1 : Int) => (cond (decide ((p0.length : Int) < (p1.length : Int))) (some (-1)) (cond (decide ((p1.length : Int) < (p0.length : Int))) (some 1) (some 0)))) (fun (r : Int) => some r))


noncomputable def F_spec_l06Before (p0 : GMultiRule) (p1 : GMultiRule) : Option (Bool) :=
  (cond (decide (p0.State < p1.State)) (some true) (cond (decide (p0.State = p1.State)) (bnd (F_spec_l01Compare p0.Read p1.Read) fun r18 => some (decide (r18 < 0))) (some false)))

noncomputable def F_spec_l06Is_L1 (p0 : GMulti) (s21 : Int) : Option ((Int) ⊕ Out (Int) Bool) :=
  (cond (decide (s21 < (p0.Rules.length : Int))) (bnd (idx p0.Rules s21) fun y28 => bnd (bnd (F_spec_l00In y28.State 0 (w64 (p0.States - 1))) fun r40 => (cond (!r40) (some (.ret false)) (bnd (F_spec_l00In y28.Next 0 (w64 (p0.States - 1))) fun r51 => (cond (!r51) (some (.ret false)) (some (.brk ()))))) : Option (Out (Unit) Bool)) (Out.elim (fun (s31 : Unit) => bnd (bnd (F_spec_l06Row y28.Read p0.Tapes 0 (w64 (p0.Symbols - 1))) fun r65 => (cond (!r65) (some (.ret false)) (bnd (F_spec_l06Row y28.Write p0.Tapes 0 (w64 (p0.Symbols - 1))) fun r80 => (cond (!r80) (some (.ret false)) (bnd (F_spec_l06Row y28.Move p0.Tapes (-1) 1) fun r91 => (cond (!r91) (some (.ret false)) (some (.brk ()))))))) : Option (Out (Unit) Bool)) (Out.elim (fun (s54 : Unit) => (cond (decide (0 < s21)) (bnd (idx p0.Rules (w64 (s21 - 1))) fun y97 => bnd (F_spec_l06Before y97 y28) fun r100 => (cond (!r100) (some (.inr (.ret false))) (some (.inl (w64 (s21 + 1)))))) (some (.inl (w64 (s21 + 1)))))) (fun (r : Bool) => some (.inr (.ret r))))) (fun (r : Bool) => some (.inr (.ret r))))) (some (.inr (.brk s21))))

noncomputable def F_spec_l06Is (p0 : GMulti) : Option (Bool) :=
  bnd (bnd (F_spec_l00In p0.Tapes 2 3) fun r5 => (cond (!r5) (some (.ret false)) (bnd (F_spec_l00In p0.Symbols 2 3) fun r10 => (cond (!r10) (some (.ret false)) (bnd (F_spec_l00In p0.States 1 16) fun r15 => (cond (!r15) (some (.ret false)) (cond (decide (60 < (p0.Rules.length : Int))) (some (.ret false)) (some (.brk ())))))))) : Option (Out (Unit) Bool)) (Out.elim (fun (s1 : Unit) => bnd (run (F_spec_l06Is_L1 p0) 0) (Out.elim (fun (s21 : Int) => some true) (fun (r : Bool) => some r))) (fun (r : Bool) => some r))

noncomputable def F_spec_l06Side_L1 (p0 : (List Int)) (p1 : Int) (s2 : Int) : Option ((Int) ⊕ Out (Int) Bool) :=
  (cond (decide (s2 < (p0.length : Int))) (bnd (idx p0 s2) fun y5 => bnd (F_spec_l00In y5 0 (w64 (p1 - 1))) fun r9 => (cond (!r9) (some (.inr (.ret false))) (some (.inl (w64 (s2 + 1)))))) (some (.inr (.brk s2))))

noncomputable def F_spec_l06Side (p0 : (List Int)) (p1 : Int) : Option (Bool) :=
  (cond (decide (200 < (p0.length : Int))) (some false) (bnd (run (F_spec_l06Side_L1 p0 p1) 0) (Out.elim (fun (s2 : Int) => (cond (decide ((p0.length : Int) = 0)) (some true) (bnd (idx p0 (w64 ((p0.length : Int) - 1))) fun y13 => some (decide (y13 ≠ 0))))) (fun (r : Bool) => some r))))

noncomputable def F_spec_l06Good_L1 (p0 : GMulti) (p1 : GMultiConfig) (s22 : Int) : Option ((Int) ⊕ Out (Int) Bool) :=
  (cond (decide (s22 < (p1.Tapes.length : Int))) (bnd (idx p1.Tapes s22) fun y29 => bnd (F_spec_l06Side y29.Left p0.Symbols) fun r39 => (cond (!r39) (some (.inr (.ret false))) (bnd (idx p1.Tapes s22) fun y46 => bnd (F_spec_l06Side y46.Right p0.Symbols) fun r58 => (cond (!r58) (some (.inr (.ret false))) (some (.inl (w64 (s22 + 1)))))))) (some (.inr (.brk s22))))

noncomputable def F_spec_l06Good (p0 : GMulti) (p1 : GMultiConfig) : Option (Bool) :=
  bnd (bnd (F_spec_l00In p1.State 0 (w64 (p0.States - 1))) fun r10 => (cond (!r10) (some (.ret false)) (cond (decide ((p1.Tapes.length : Int) ≠ p0.Tapes)) (some (.ret false)) (some (.brk ())))) : Option (Out (Unit) Bool)) (Out.elim (fun (s1 : Unit) => bnd (run (F_spec_l06Good_L1 p0 p1) 0) (Out.elim (fun (s22 : Int) => some true) (fun (r : Bool) => some r))) (fun (r : Bool) => some r))


noncomputable def F_spec_l06Head (p0 : GTape) : Option (Int) :=
  (cond (decide ((p0.Right.length : Int) = 0)) (some 0) (bnd (idx p0.Right 0) fun y6 => some y6))

noncomputable def F_spec_l00Same_L1 (p0 : (List Int)) (p1 : (List Int)) (s2 : Int) : Option ((Int) ⊕ Out (Int) Bool) :=
  (cond (decide (s2 < (p0.length : Int))) (bnd (idx p0 s2) fun y5 => bnd (idx p1 s2) fun y9 => (cond (decide (y5 ≠ y9)) (some (.inr (.ret false))) (some (.inl (w64 (s2 + 1)))))) (some (.inr (.brk s2))))

noncomputable def F_spec_l00Same (p0 : (List Int)) (p1 : (List Int)) : Option (Bool) :=
  (cond (decide ((p0.length : Int) ≠ (p1.length : Int))) (some false) (bnd (run (F_spec_l00Same_L1 p0 p1) 0) (Out.elim (fun (s2 : Int) => some true) (fun (r : Bool) => some r))))

noncomputable def F_spec_l06RuleOf_L1 (p0 : GMulti) (p1 : Int) (p2 : (List Int)) (s1 : Int) : Option ((Int) ⊕ Out (Int) Int) :=
  (cond (decide (s1 < (p0.Rules.length : Int))) (bnd (idx p0.Rules s1) fun y8 => (cond (decide (y8.State = p1)) (bnd (idx p0.Rules s1) fun y16 => bnd (F_spec_l00Same y16.Read p2) fun r21 => (cond r21 (some (.inr (.ret s1))) (some (.inl (w64 (s1 + 1)))))) (some (.inl (w64 (s1 + 1)))))) (some (.inr (.brk s1))))

noncomputable def F_spec_l06RuleOf (p0 : GMulti) (p1 : Int) (p2 : (List Int)) : Option (Int) :=
  bnd (run (F_spec_l06RuleOf_L1 p0 p1 p2) 0) (Out.elim (fun (s1 : Int) => some (-1)) (fun (r : Int) => some r))

noncomputable def F_spec_l06Rule_L1 (p1 : GMultiConfig) (s2 : (List Int) × Int) : Option (((List Int) × Int) ⊕ Out ((List Int) × Int) Int) :=
  (cond (decide (s2.2 < (p1.Tapes.length : Int))) (bnd (idx p1.Tapes s2.2) fun y9 => bnd (F_spec_l06Head y9) fun r12 => bnd (app s2.1 ([r12] : List Int)) fun z15 => some (.inl (z15, (w64 (s2.2 + 1))))) (some (.inr (.brk (s2.1, s2.2)))))

noncomputable def F_spec_l06Rule (p0 : GMulti) (p1 : GMultiConfig) : Option (Int) :=
  bnd (run (F_spec_l06Rule_L1 p1) (([] : List Int), 0)) (Out.elim (fun (s2 : (List Int) × Int) => bnd (F_spec_l06RuleOf p0 p1.State s2.1) fun r20 => some r20) (fun (r : Int) => some r))


noncomputable def F_spec_MultiRuleAt (p0 : GMulti) (p1 : GMultiConfig) : Option (Int × Int) :=
  bnd (F_spec_l06Is p0) fun r3 => (cond (!r3) (some (0, 1)) (bnd (F_spec_l06Good p0 p1) fun r6 => (cond (!r6) (some (0, 1)) (bnd (F_spec_l06Rule p0 p1) fun r9 => (cond (decide (r9 < 0)) (some (0, 3)) (some (r9, 0)))))))


noncomputable def F_impl_within (p0 : Int) (p1 : Int) (p2 : Int) : Option (Bool) :=
  (cond (decide (p1 ≤ p0)) (some (decide (p0 ≤ p2))) (some false))


noncomputable def F_impl_size_int64 (p0 : (List Int)) : Option (Int) :=
  some (p0.length : Int)

noncomputable def F_impl_allWithin_L1 (p0 : (List Int)) (p1 : Int) (p2 : Int) (s1 : Int) : Option ((Int) ⊕ Out (Int) Bool) :=
  (cond (decide (s1 < (p0.length : Int))) (bnd (idx p0 s1) fun y4 => bnd (F_impl_within y4 p1 p2) fun r8 => (cond (!r8) (some (.inr (.ret false))) (some (.inl (w64 (s1 + 1)))))) (some (.inr (.brk s1))))

noncomputable def F_impl_allWithin (p0 : (List Int)) (p1 : Int) (p2 : Int) : Option (Bool) :=
  bnd (run (F_impl_allWithin_L1 p0 p1 p2) 0) (Out.elim (fun (s1 : Int) => some true) (fun (r : Bool) => some r))


noncomputable def F_impl_validMultiRule (p0 : GMulti) (p1 : GMultiRule) : Option (Bool) :=
  bnd (bnd (F_impl_within p1.State 0 (w64 (p0.States - 1))) fun r5 => (cond (!r5) (some (.ret false)) (bnd (F_impl_within p1.Next 0 (w64 (p0.States - 1))) fun r8 => (cond (!r8) (some (.ret false)) (some (.brk ()))))) : Option (Out (Unit) Bool)) (Out.elim (fun (s3 : Unit) => bnd (bnd (F_impl_size_int64 p1.Read) fun r16 => (cond (decide (r16 ≠ p0.Tapes)) (some (.ret false)) (bnd (F_impl_size_int64 p1.Write) fun r19 => (cond (decide (r19 ≠ p0.Tapes)) (some (.ret false)) (bnd (F_impl_size_int64 p1.Move) fun r22 => (cond (decide (r22 ≠ p0.Tapes)) (some (.ret false)) (some (.brk ()))))))) : Option (Out (Unit) Bool)) (Out.elim (fun (s11 : Unit) => bnd (F_impl_allWithin p1.Read 0 (w64 (p0.Symbols - 1))) fun r25 => (cond r25 (bnd (F_impl_allWithin p1.Write 0 (w64 (p0.Symbols - 1))) fun r28 => (cond r28 (bnd (F_impl_allWithin p1.Move (-1) 1) fun r31 => some r31) (some false))) (some false))) (fun (r : Bool) => some r))) (fun (r : Bool) => some r))


noncomputable def F_cmp_isNaN_int64 (p0 : Int) : Option (Bool) :=
  some (decide (p0 ≠ p0))


noncomputable def F_cmp_Compare_int64 (p0 : Int) (p1 : Int) : Option (Int) :=
  bnd (F_cmp_isNaN_int64 p0) fun r1 => bnd (F_cmp_isNaN_int64 p1) fun r3 => (cond r1 (cond r3 (some 0) (some (-1))) (cond r3 (some 1) (cond (decide (p0 < p1)) (some (-1)) (cond (decide (p1 < p0)) (some 1) (some 0)))))

noncomputable def F_slices_Compare_Sint64_int64_L1 (p0 : (List Int)) (p1 : (List Int)) (s1 : Int) : Option ((Int) ⊕ Out (Int) Int) :=
  (cond (decide (s1 < (p0.length : Int))) (bnd (idx p0 s1) fun y4 => (cond (decide ((p1.length : Int) ≤ s1)) (some (.inr (.ret 1))) (bnd (idx p1 s1) fun y9 => bnd (F_cmp_Compare_int64 y4 y9) fun r13 => (cond (decide (r13 ≠ 0)) (some (.inr (.ret r13))) (some (.inl (w64 (s1 + 1)))))))) (some (.inr (.brk s1))))

noncomputable def F_slices_Compare_Sint64_int64 (p0 : (List Int)) (p1 : (List Int)) : Option (Int) :=
  bnd (run (F_slices_Compare_Sint64_int64_L1 p0 p1) 0) (Out.elim (fun (s1 : Int) => (cond (decide ((p0.length : Int) < (p1.length : Int))) (some (-1)) (some 0))) (fun (r : Int) => some r))


noncomputable def F_impl_compareMultiRules (p0 : GMultiRule) (p1 : GMultiRule) : Option (Int) :=
  (cond (decide (p0.State ≠ p1.State)) (cond (decide (p0.State < p1.State)) (some (-1)) (some 1)) (bnd (F_slices_Compare_Sint64_int64 p0.Read p1.Read) fun r5 => some r5))

noncomputable def F_impl_ValidMulti_L1 (p0 : GMulti) (s14 : Int) : Option ((Int) ⊕ Out (Int) Bool) :=
  (cond (decide (s14 < (p0.Rules.length : Int))) (bnd (idx p0.Rules s14) fun y17 => bnd (F_impl_validMultiRule p0 y17) fun r25 => (cond (!r25) (some (.inr (.ret false))) (cond (decide (0 < s14)) (bnd (idx p0.Rules (w64 (s14 - 1))) fun y29 => bnd (F_impl_compareMultiRules y29 y17) fun r35 => (cond (decide (0 ≤ r35)) (some (.inr (.ret false))) (some (.inl (w64 (s14 + 1)))))) (some (.inl (w64 (s14 + 1))))))) (some (.inr (.brk s14))))

noncomputable def F_impl_ValidMulti (p0 : GMulti) : Option (Bool) :=
  bnd (bnd (F_impl_within p0.Tapes 2 3) fun r4 => (cond (!r4) (some (.ret false)) (bnd (F_impl_within p0.Symbols 2 3) fun r7 => (cond (!r7) (some (.ret false)) (bnd (F_impl_within p0.States 1 16) fun r10 => (cond (!r10) (some (.ret false)) (cond (decide (60 < (p0.Rules.length : Int))) (some (.ret false)) (some (.brk ())))))))) : Option (Out (Unit) Bool)) (Out.elim (fun (s2 : Unit) => bnd (run (F_impl_ValidMulti_L1 p0) 0) (Out.elim (fun (s14 : Int) => some true) (fun (r : Bool) => some r))) (fun (r : Bool) => some r))


noncomputable def F_impl_size_impl_Tape (p0 : (List GTape)) : Option (Int) :=
  some (p0.length : Int)


noncomputable def F_impl_validSide (p0 : (List Int)) (p1 : Int) (p2 : Int) : Option (Bool) :=
  bnd (F_impl_size_int64 p0) fun r1 => (cond (decide (r1 ≤ p2)) (bnd (F_impl_allWithin p0 0 (w64 (p1 - 1))) fun r4 => (cond r4 (cond (decide ((p0.length : Int) = 0)) (some true) (bnd (idx p0 (w64 ((p0.length : Int) - 1))) fun y8 => some (decide (y8 ≠ 0)))) (some false))) (some false))


noncomputable def F_impl_validTape (p0 : GMulti) (p1 : GTape) : Option (Bool) :=
  bnd (F_impl_validSide p1.Left p0.Symbols 200) fun r3 => (cond r3 (bnd (F_impl_validSide p1.Right p0.Symbols 200) fun r6 => some r6) (some false))


noncomputable def F_impl_ValidMultiConfig_1 (p0 : GTape) (p1 : GMulti) : Option (Bool) :=
  bnd (F_impl_validTape p1 p0) fun r3 => some (!r3)

noncomputable def F_slices_IndexFunc_Simpl_Tape_impl_Tape_L1 (p0 : (List GTape)) (p1 : (GTape → Option Bool)) (s1 : Int) : Option ((Int) ⊕ Out (Int) Int) :=
  (cond (decide (s1 < (p0.length : Int))) (bnd (idx p0 s1) fun y4 => bnd (p1 y4) fun r8 => (cond r8 (some (.inr (.ret s1))) (some (.inl (w64 (s1 + 1)))))) (some (.inr (.brk s1))))

noncomputable def F_slices_IndexFunc_Simpl_Tape_impl_Tape (p0 : (List GTape)) (p1 : (GTape → Option Bool)) : Option (Int) :=
  bnd (run (F_slices_IndexFunc_Simpl_Tape_impl_Tape_L1 p0 p1) 0) (Out.elim (fun (s1 : Int) => some (-1)) (fun (r : Int) => some r))


noncomputable def F_slices_ContainsFunc_Simpl_Tape_impl_Tape (p0 : (List GTape)) (p1 : (GTape → Option Bool)) : Option (Bool) :=
  bnd (F_slices_IndexFunc_Simpl_Tape_impl_Tape p0 p1) fun r1 => some (decide (0 ≤ r1))


noncomputable def F_impl_ValidMultiConfig (p0 : GMulti) (p1 : GMultiConfig) : Option (Bool) :=
  bnd (F_impl_ValidMulti p0) fun r6 => (cond (!r6) (some false) (bnd (F_impl_within p1.State 0 (w64 (p0.States - 1))) fun r9 => (cond (!r9) (some false) (bnd (F_impl_size_impl_Tape p1.Tapes) fun r12 => (cond (decide (r12 ≠ p0.Tapes)) (some false) (bnd (F_slices_ContainsFunc_Simpl_Tape_impl_Tape p1.Tapes (fun x_ => F_impl_ValidMultiConfig_1 x_ p0)) fun r15 => some (!r15)))))))

noncomputable def F_impl_MultiConfig_read_L1 (p0 : GMultiConfig) (s7 : Int × Int × Int × Int) : Option ((Int × Int × Int × Int) ⊕ Out (Int × Int × Int × Int) Greading) :=
  (cond (decide (s7.2.2.2 < (p0.Tapes.length : Int))) (bnd (idx p0.Tapes s7.2.2.2) fun y10 => (cond (decide (0 < (y10.Right.length : Int))) (bnd (idx y10.Right 0) fun y16 => bnd (idx ([s7.1, s7.2.1, s7.2.2.1] : List Int) s7.2.2.2) fun y20 => some (.inl ((if s7.2.2.2 = ((0 : Nat) : Int) then y16 else s7.1), (if s7.2.2.2 = ((1 : Nat) : Int) then y16 else s7.2.1), (if s7.2.2.2 = ((2 : Nat) : Int) then y16 else s7.2.2.1), (w64 (s7.2.2.2 + 1))))) (some (.inl (s7.1, s7.2.1, s7.2.2.1, (w64 (s7.2.2.2 + 1))))))) (some (.inr (.brk (s7.1, s7.2.1, s7.2.2.1, s7.2.2.2)))))

noncomputable def F_impl_MultiConfig_read (p0 : GMultiConfig) : Option (Greading) :=
  bnd (run (F_impl_MultiConfig_read_L1 p0) (0, 0, 0, 0)) (Out.elim (fun (s7 : Int × Int × Int × Int) => some (⟨p0.State, s7.1, s7.2.1, s7.2.2.1⟩ : Greading)) (fun (r : Greading) => some r))

noncomputable def F_impl_MultiRuleAt_L1 (p0 : GMulti) (s9 : List (Greading × Int) × Int) : Option ((List (Greading × Int) × Int) ⊕ Out (List (Greading × Int) × Int) (Option (Int × Int))) :=
  (cond (decide (s9.2 < (p0.Rules.length : Int))) (bnd (idx p0.Rules s9.2) fun y12 => some (.inl ((mput s9.1 (⟨y12.State, (y12.Read.getD 0 0), (y12.Read.getD 1 0), (y12.Read.getD 2 0)⟩ : Greading) s9.2), (w64 (s9.2 + 1))))) (some (.inr (.brk (s9.1, s9.2)))))

noncomputable def F_impl_MultiRuleAt (p0 : GMulti) (p1 : GMultiConfig) : Option (Int × Int) :=
  bnd (F_impl_ValidMultiConfig p0 p1) fun r3 => (cond (!r3) (some (0, 1)) (bnd (run (F_impl_MultiRuleAt_L1 p0) (([] : List (Greading × Int)), 0)) (Out.elim (fun (s9 : List (Greading × Int) × Int) => bnd (F_impl_MultiConfig_read p1) fun r21 => (cond (!((mget s9.1 r21).isSome)) (some (0, 3)) (some (((mget s9.1 r21).getD 0), 0)))) (fun (r : Option (Int × Int)) => r))))

noncomputable def F_laws_eqInt64S_L1 (p0 : (List Int)) (p1 : (List Int)) (s2 : Int) : Option ((Int) ⊕ Out (Int) Bool) :=
  (cond (decide (s2 < (p0.length : Int))) (bnd (idx p0 s2) fun y5 => bnd (idx p1 s2) fun y9 => (cond (decide (y5 ≠ y9)) (some (.inr (.ret false))) (some (.inl (w64 (s2 + 1)))))) (some (.inr (.brk s2))))

noncomputable def F_laws_eqInt64S (p0 : (List Int)) (p1 : (List Int)) : Option (Bool) :=
  (cond (decide ((p0.length : Int) ≠ (p1.length : Int))) (some false) (bnd (run (F_laws_eqInt64S_L1 p0 p1) 0) (Out.elim (fun (s2 : Int) => some true) (fun (r : Bool) => some r))))


noncomputable def F_laws_eqMultiRule (p0 : GMultiRule) (p1 : GMultiRule) : Option (Bool) :=
  (cond (decide (p0.State ≠ p1.State)) (some false) (bnd (F_laws_eqInt64S p0.Read p1.Read) fun r4 => (cond (!r4) (some false) (bnd (F_laws_eqInt64S p0.Write p1.Write) fun r7 => (cond (!r7) (some false) (bnd (F_laws_eqInt64S p0.Move p1.Move) fun r10 => (cond (!r10) (some false) (cond (decide (p0.Next ≠ p1.Next)) (some false) (some true)))))))))

noncomputable def F_laws_eqMultiRuleS_L1 (p0 : (List GMultiRule)) (p1 : (List GMultiRule)) (s2 : Int) : Option ((Int) ⊕ Out (Int) Bool) :=
  (cond (decide (s2 < (p0.length : Int))) (bnd (idx p0 s2) fun y5 => bnd (idx p1 s2) fun y9 => bnd (F_laws_eqMultiRule y5 y9) fun r16 => (cond (!r16) (some (.inr (.ret false))) (some (.inl (w64 (s2 + 1)))))) (some (.inr (.brk s2))))

noncomputable def F_laws_eqMultiRuleS (p0 : (List GMultiRule)) (p1 : (List GMultiRule)) : Option (Bool) :=
  (cond (decide ((p0.length : Int) ≠ (p1.length : Int))) (some false) (bnd (run (F_laws_eqMultiRuleS_L1 p0 p1) 0) (Out.elim (fun (s2 : Int) => some true) (fun (r : Bool) => some r))))


noncomputable def F_laws_eqMulti (p0 : GMulti) (p1 : GMulti) : Option (Bool) :=
  (cond (decide (p0.Tapes ≠ p1.Tapes)) (some false) (cond (decide (p0.Symbols ≠ p1.Symbols)) (some false) (cond (decide (p0.States ≠ p1.States)) (some false) (bnd (F_laws_eqMultiRuleS p0.Rules p1.Rules) fun r6 => (cond (!r6) (some false) (some true))))))


noncomputable def F_laws_eqTape (p0 : GTape) (p1 : GTape) : Option (Bool) :=
  bnd (F_laws_eqInt64S p0.Left p1.Left) fun r3 => (cond (!r3) (some false) (bnd (F_laws_eqInt64S p0.Right p1.Right) fun r6 => (cond (!r6) (some false) (some true))))

noncomputable def F_laws_eqTapeS_L1 (p0 : (List GTape)) (p1 : (List GTape)) (s2 : Int) : Option ((Int) ⊕ Out (Int) Bool) :=
  (cond (decide (s2 < (p0.length : Int))) (bnd (idx p0 s2) fun y5 => bnd (idx p1 s2) fun y9 => bnd (F_laws_eqTape y5 y9) fun r16 => (cond (!r16) (some (.inr (.ret false))) (some (.inl (w64 (s2 + 1)))))) (some (.inr (.brk s2))))

noncomputable def F_laws_eqTapeS (p0 : (List GTape)) (p1 : (List GTape)) : Option (Bool) :=
  (cond (decide ((p0.length : Int) ≠ (p1.length : Int))) (some false) (bnd (run (F_laws_eqTapeS_L1 p0 p1) 0) (Out.elim (fun (s2 : Int) => some true) (fun (r : Bool) => some r))))


noncomputable def F_laws_eqMultiConfig (p0 : GMultiConfig) (p1 : GMultiConfig) : Option (Bool) :=
  (cond (decide (p0.State ≠ p1.State)) (some false) (bnd (F_laws_eqTapeS p0.Tapes p1.Tapes) fun r4 => (cond (!r4) (some false) (some true))))


noncomputable def F_laws_FnExactMultiRuleAt (p0 : GMulti) (p1 : GMultiConfig) : Option (Bool) :=
  bnd (F_laws_szMulti p0 1048576) fun r3 => (cond (decide (r3 < 0)) (some true) (bnd (F_laws_szMultiConfig p1 r3) fun r6 => (cond (decide (r6 < 0)) (some true) (bnd (F_laws_toMulti p0) fun r12 => bnd (F_laws_toMultiConfig p1) fun r15 => bnd (F_spec_MultiRuleAt r12 r15) fun r18 => bnd (F_laws_toMulti p0) fun r20 => bnd (F_laws_toMultiConfig p1) fun r24 => bnd (F_impl_MultiRuleAt r20 r24) fun r28 => (cond (decide (r28.1 ≠ r18.1)) (some false) (cond (decide (r28.2 ≠ r18.2)) (some false) (bnd (F_laws_toMulti p0) fun r35 => bnd (F_laws_eqMulti r20 r35) fun r38 => (cond (!r38) (some false) (bnd (F_laws_toMultiConfig p1) fun r44 => bnd (F_laws_eqMultiConfig r24 r44) fun r47 => (cond (!r47) (some false) (some true)))))))))))

end Go.Fn
