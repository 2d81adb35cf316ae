/-
  What each function of the program computes, as a plain Lean function: printed by program off the translation. No condition.
-/
import Derived.Test.YtomiabeodgcmcaaTy
namespace Go.Fn
open Go Go.Tc
set_option linter.unusedVariables false

noncomputable def F_laws_szInt64S (p0 : (List Int)) (p1 : Int) : Option (Int) :=
  (cond (decide ((w64 (p1 - (p0.length : Int))) < 0)) (some (-1)) (some (w64 (p1 - (p0.length : Int)))))


noncomputable def F_laws_szMultiRule (p0 : GMultiRule) (p1 : Int) : Option (Int) :=
  bnd (F_laws_szInt64S p0.Read p1) fun r2 => (cond (decide (r2 < 0)) (some (-1)) (bnd (F_laws_szInt64S p0.Write r2) fun r5 => (cond (decide (r5 < 0)) (some (-1)) (bnd (F_laws_szInt64S p0.Move r5) fun r8 => (cond (decide (r8 < 0)) (some (-1)) (some r8))))))

noncomputable def F_laws_szMultiRuleS_L1 (p0 : (List GMultiRule)) (s2 : Int × Int) : Option ((Int × Int) ⊕ Out (Int × Int) Int) :=
  (cond (decide (s2.2 < (p0.length : Int))) (bnd (idx p0 s2.2) fun y5 => bnd (F_laws_szMultiRule y5 s2.1) fun r9 => (cond (decide (r9 < 0)) (some (.inr (.ret (-1)))) (some (.inl (r9, (w64 (s2.2 + 1))))))) (some (.inr (.brk (s2.1, s2.2)))))

noncomputable def F_laws_szMultiRuleS (p0 : (List GMultiRule)) (p1 : Int) : Option (Int) :=
  (cond (decide ((w64 (p1 - (p0.length : Int))) < 0)) (some (-1)) (bnd (run (F_laws_szMultiRuleS_L1 p0) ((w64 (p1 - (p0.length : Int))), 0)) (Out.elim (fun (s2 : Int × Int) => some s2.1) (fun (r : Int) => some r))))


noncomputable def F_laws_szMulti (p0 : GMulti) (p1 : Int) : Option (Int) :=
  bnd (F_laws_szMultiRuleS p0.Rules p1) fun r2 => (cond (decide (r2 < 0)) (some (-1)) (some r2))


noncomputable def F_laws_szTape (p0 : GTape) (p1 : Int) : Option (Int) :=
  bnd (F_laws_szInt64S p0.Left p1) fun r2 => (cond (decide (r2 < 0)) (some (-1)) (bnd (F_laws_szInt64S p0.Right r2) fun r5 => (cond (decide (r5 < 0)) (some (-1)) (some r5))))

noncomputable def F_laws_szTapeS_L1 (p0 : (List GTape)) (s2 : Int × Int) : Option ((Int × Int) ⊕ Out (Int × Int) Int) :=
  (cond (decide (s2.2 < (p0.length : Int))) (bnd (idx p0 s2.2) fun y5 => bnd (F_laws_szTape y5 s2.1) fun r9 => (cond (decide (r9 < 0)) (some (.inr (.ret (-1)))) (some (.inl (r9, (w64 (s2.2 + 1))))))) (some (.inr (.brk (s2.1, s2.2)))))

noncomputable def F_laws_szTapeS (p0 : (List GTape)) (p1 : Int) : Option (Int) :=
  (cond (decide ((w64 (p1 - (p0.length : Int))) < 0)) (some (-1)) (bnd (run (F_laws_szTapeS_L1 p0) ((w64 (p1 - (p0.length : Int))), 0)) (Out.elim (fun (s2 : Int × Int) => some s2.1) (fun (r : Int) => some r))))


noncomputable def F_laws_szMultiConfig (p0 : GMultiConfig) (p1 : Int) : Option (Int) :=
  bnd (F_laws_szTapeS p0.Tapes p1) fun r2 => (cond (decide (r2 < 0)) (some (-1)) (some r2))

noncomputable def F_laws_toInt64S_L1 (p0 : (List Int)) (s4 : (List Int) × Int) : Option (((List Int) × Int) ⊕ Out ((List Int) × Int) (List Int)) :=
  (cond (decide (s4.2 < (p0.length : Int))) (bnd (idx p0 s4.2) fun y7 => bnd (idx s4.1 s4.2) fun y11 => some (.inl ((s4.1.set s4.2.toNat y7), (w64 (s4.2 + 1))))) (some (.inr (.brk (s4.1, s4.2)))))

noncomputable def F_laws_toInt64S (p0 : (List Int)) : Option ((List Int)) :=
  bnd (mke (p0.length : Int) (0 : Int)) fun z1 => bnd (run (F_laws_toInt64S_L1 p0) (z1, 0)) (Out.elim (fun (s4 : (List Int) × Int) => some s4.1) (fun (r : (List Int)) => some r))


noncomputable def F_laws_toMultiRule (p0 : GMultiRule) : Option (GMultiRule) :=
  bnd (F_laws_toInt64S p0.Read) fun r4 => bnd (F_laws_toInt64S p0.Write) fun r7 => bnd (F_laws_toInt64S p0.Move) fun r10 => some (⟨p0.State, r4, r7, r10, p0.Next⟩ : GMultiRule)

noncomputable def F_laws_toMultiRuleS_L1 (p0 : (List GMultiRule)) (s4 : (List GMultiRule) × Int) : Option (((List GMultiRule) × Int) ⊕ Out ((List GMultiRule) × Int) (List GMultiRule)) :=
  (cond (decide (s4.2 < (p0.length : Int))) (bnd (idx p0 s4.2) fun y7 => bnd (F_laws_toMultiRule y7) fun r11 => bnd (idx s4.1 s4.2) fun y14 => some (.inl ((s4.1.set s4.2.toNat r11), (w64 (s4.2 + 1))))) (some (.inr (.brk (s4.1, s4.2)))))

noncomputable def F_laws_toMultiRuleS (p0 : (List GMultiRule)) : Option ((List GMultiRule)) :=
  bnd (mke (p0.length : Int) (⟨(0 : Int), ([] : (List Int)), ([] : (List Int)), ([] : (List Int)), (0 : Int)⟩ : GMultiRule)) fun z1 => bnd (run (F_laws_toMultiRuleS_L1 p0) (z1, 0)) (Out.elim (fun (s4 : (List GMultiRule) × Int) => some s4.1) (fun (r : (List GMultiRule)) => some r))


noncomputable def F_laws_toMulti (p0 : GMulti) : Option (GMulti) :=
  bnd (F_laws_toMultiRuleS p0.Rules) fun r4 => some (⟨p0.Tapes, p0.Symbols, p0.States, r4⟩ : GMulti)


noncomputable def F_laws_toTape (p0 : GTape) : Option (GTape) :=
  bnd (F_laws_toInt64S p0.Left) fun r4 => bnd (F_laws_toInt64S p0.Right) fun r7 => some (⟨r4, r7⟩ : GTape)

noncomputable def F_laws_toTapeS_L1 (p0 : (List GTape)) (s4 : (List GTape) × Int) : Option (((List GTape) × Int) ⊕ Out ((List GTape) × Int) (List GTape)) :=
  (cond (decide (s4.2 < (p0.length : Int))) (bnd (idx p0 s4.2) fun y7 => bnd (F_laws_toTape y7) fun r11 => bnd (idx s4.1 s4.2) fun y14 => some (.inl ((s4.1.set s4.2.toNat r11), (w64 (s4.2 + 1))))) (some (.inr (.brk (s4.1, s4.2)))))

noncomputable def F_laws_toTapeS (p0 : (List GTape)) : Option ((List GTape)) :=
  bnd (mke (p0.length : Int) (⟨([] : (List Int)), ([] : (List Int))⟩ : GTape)) fun z1 => bnd (run (F_laws_toTapeS_L1 p0) (z1, 0)) (Out.elim (fun (s4 : (List GTape) × Int) => some s4.1) (fun (r : (List GTape)) => some r))


noncomputable def F_laws_toMultiConfig (p0 : GMultiConfig) : Option (GMultiConfig) :=
  bnd (F_laws_toTapeS p0.Tapes) fun r4 => some (⟨p0.State, r4⟩ : GMultiConfig)


noncomputable def F_spec_l00In (p0 : Int) (p1 : Int) (p2 : Int) : Option (Bool) :=
  (cond (decide (p1 ≤ p0)) (some (decide (p0 ≤ p2))) (some false))

noncomputable def F_spec_l06Row_L1 (p0 : (List Int)) (p2 : Int) (p3 : Int) (s2 : Int) : Option ((Int) ⊕ Out (Int) Bool) :=
  (cond (decide (s2 < (p0.length : Int))) (bnd (idx p0 s2) fun y5 => bnd (F_spec_l00In y5 p2 p3) fun r9 => (cond (!r9) (some (.inr (.ret false))) (some (.inl (w64 (s2 + 1)))))) (some (.inr (.brk s2))))

noncomputable def F_spec_l06Row (p0 : (List Int)) (p1 : Int) (p2 : Int) (p3 : Int) : Option (Bool) :=
  (cond (decide ((p0.length : Int) ≠ p1)) (some false) (bnd (run (F_spec_l06Row_L1 p0 p2 p3) 0) (Out.elim (fun (s2 : Int) => some true) (fun (r : Bool) => some r))))

noncomputable def F_spec_l01Compare_L1 (p0 : (List Int)) (p1 : (List Int)) (s1 : Int) : Option ((Int) ⊕ Out (Int) Int) :=
  (cond (decide (s1 < (p0.length : Int))) (cond (decide (s1 < (p1.length : Int))) (bnd (idx p0 s1) fun y5 => bnd (idx p1 s1) fun y9 => (cond (decide (y5 < y9)) (some (.inr (.ret (-1)))) (bnd (idx p0 s1) fun y14 => bnd (idx p1 s1) fun y18 => (cond (decide (y18 < y14)) (some (.inr (.ret 1))) (some (.inl (w64 (s1 + 1)))))))) (some (.inr (.brk s1)))) (some (.inr (.brk s1))))

noncomputable def F_spec_l01Compare (p0 : (List Int)) (p1 : (List Int)) : Option (Int) :=
  bnd (run (F_spec_l01Compare_L1 p0 p1) 0) (Out.elim (fun (s1 : Int) => (cond (decide ((p0.length : Int) < (p1.length : Int))) (some (-1)) (cond (decide ((p1.length : Int) < (p0.length : Int))) (some 1) (some 0)))) (fun (r : Int) => some r))


noncomputable def F_spec_l06Before (p0 : GMultiRule) (p1 : GMultiRule) : Option (Bool) :=
  (cond (decide (p0.State < p1.State)) (some true) (cond (decide (p0.State = p1.State)) (bnd (F_spec_l01Compare p0.Read p1.Read) fun r18 => some (decide (r18 < 0))) (some false)))

noncomputable def F_spec_l06Is_L1 (p0 : GMulti) (s21 : Int) : Option ((Int) ⊕ Out (Int) Bool) :=
  (cond (decide (s21 < (p0.Rules.length : Int))) (bnd (idx p0.Rules s21) fun y28 => bnd (bnd (F_spec_l00In y28.State 0 (w64 (p0.States - 1))) fun r40 => (cond (!r40) (some (.ret false)) (bnd (F_spec_l00In y28.Next 0 (w64 (p0.States - 1))) fun r51 => (cond (!r51) (some (.ret false)) (some (.brk ()))))) : Option (Out (Unit) Bool)) (Out.elim (fun (s31 : Unit) => bnd (bnd (F_spec_l06Row y28.Read p0.Tapes 0 (w64 (p0.Symbols - 1))) fun r65 => (cond (!r65) (some (.ret false)) (bnd (F_spec_l06Row y28.Write p0.Tapes 0 (w64 (p0.Symbols - 1))) fun r80 => (cond (!r80) (some (.ret false)) (bnd (F_spec_l06Row y28.Move p0.Tapes (-1) 1) fun r91 => (cond (!r91) (some (.ret false)) (some (.brk ()))))))) : Option (Out (Unit) Bool)) (Out.elim (fun (s54 : Unit) => (cond (decide (0 < s21)) (bnd (idx p0.Rules (w64 (s21 - 1))) fun y97 => bnd (F_spec_l06Before y97 y28) fun r100 => (cond (!r100) (some (.inr (.ret false))) (some (.inl (w64 (s21 + 1)))))) (some (.inl (w64 (s21 + 1)))))) (fun (r : Bool) => some (.inr (.ret r))))) (fun (r : Bool) => some (.inr (.ret r))))) (some (.inr (.brk s21))))

noncomputable def F_spec_l06Is (p0 : GMulti) : Option (Bool) :=
  bnd (bnd (F_spec_l00In p0.Tapes 2 3) fun r5 => (cond (!r5) (some (.ret false)) (bnd (F_spec_l00In p0.Symbols 2 3) fun r10 => (cond (!r10) (some (.ret false)) (bnd (F_spec_l00In p0.States 1 16) fun r15 => (cond (!r15) (some (.ret false)) (cond (decide (60 < (p0.Rules.length : Int))) (some (.ret false)) (some (.brk ())))))))) : Option (Out (Unit) Bool)) (Out.elim (fun (s1 : Unit) => bnd (run (F_spec_l06Is_L1 p0) 0) (Out.elim (fun (s21 : Int) => some true) (fun (r : Bool) => some r))) (fun (r : Bool) => some r))

noncomputable def F_spec_l06Side_L1 (p0 : (List Int)) (p1 : Int) (s2 : Int) : Option ((Int) ⊕ Out (Int) Bool) :=
  (cond (decide (s2 < (p0.length : Int))) (bnd (idx p0 s2) fun y5 => bnd (F_spec_l00In y5 0 (w64 (p1 - 1))) fun r9 => (cond (!r9) (some (.inr (.ret false))) (some (.inl (w64 (s2 + 1)))))) (some (.inr (.brk s2))))

noncomputable def F_spec_l06Side (p0 : (List Int)) (p1 : Int) : Option (Bool) :=
  (cond (decide (200 < (p0.length : Int))) (some false) (bnd (run (F_spec_l06Side_L1 p0 p1) 0) (Out.elim (fun (s2 : Int) => (cond (decide ((p0.length : Int) = 0)) (some true) (bnd (idx p0 (w64 ((p0.length : Int) - 1))) fun y13 => some (decide (y13 ≠ 0))))) (fun (r : Bool) => some r))))

noncomputable def F_spec_l06Good_L1 (p0 : GMulti) (p1 : GMultiConfig) (s22 : Int) : Option ((Int) ⊕ Out (Int) Bool) :=
  (cond (decide (s22 < (p1.Tapes.length : Int))) (bnd (idx p1.Tapes s22) fun y29 => bnd (F_spec_l06Side y29.Left p0.Symbols) fun r39 => (cond (!r39) (some (.inr (.ret false))) (bnd (idx p1.Tapes s22) fun y46 => bnd (F_spec_l06Side y46.Right p0.Symbols) fun r58 => (cond (!r58) (some (.inr (.ret false))) (some (.inl (w64 (s22 + 1)))))))) (some (.inr (.brk s22))))

noncomputable def F_spec_l06Good (p0 : GMulti) (p1 : GMultiConfig) : Option (Bool) :=
  bnd (bnd (F_spec_l00In p1.State 0 (w64 (p0.States - 1))) fun r10 => (cond (!r10) (some (.ret false)) (cond (decide ((p1.Tapes.length : Int) ≠ p0.Tapes)) (some (.ret false)) (some (.brk ())))) : Option (Out (Unit) Bool)) (Out.elim (fun (s1 : Unit) => bnd (run (F_spec_l06Good_L1 p0 p1) 0) (Out.elim (fun (s22 : Int) => some true) (fun (r : Bool) => some r))) (fun (r : Bool) => some r))


noncomputable def F_spec_l06Head (p0 : GTape) : Option (Int) :=
  (cond (decide ((p0.Right.length : Int) = 0)) (some 0) (bnd (idx p0.Right 0) fun y6 => some y6))

noncomputable def F_spec_l00Same_L1 (p0 : (List Int)) (p1 : (List Int)) (s2 : Int) : Option ((Int) ⊕ Out (Int) Bool) :=
  (cond (decide (s2 < (p0.length : Int))) (bnd (idx p0 s2) fun y5 => bnd (idx p1 s2) fun y9 => (cond (decide (y5 ≠ y9)) (some (.inr (.ret false))) (some (.inl (w64 (s2 + 1)))))) (some (.inr (.brk s2))))

noncomputable def F_spec_l00Same (p0 : (List Int)) (p1 : (List Int)) : Option (Bool) :=
  (cond (decide ((p0.length : Int) ≠ (p1.length : Int))) (some false) (bnd (run (F_spec_l00Same_L1 p0 p1) 0) (Out.elim (fun (s2 : Int) => some true) (fun (r : Bool) => some r))))

noncomputable def F_spec_l06RuleOf_L1 (p0 : GMulti) (p1 : Int) (p2 : (List Int)) (s1 : Int) : Option ((Int) ⊕ Out (Int) Int) :=
  (cond (decide (s1 < (p0.Rules.length : Int))) (bnd (idx p0.Rules s1) fun y8 => (cond (decide (y8.State = p1)) (bnd (idx p0.Rules s1) fun y16 => bnd (F_spec_l00Same y16.Read p2) fun r21 => (cond r21 (some (.inr (.ret s1))) (some (.inl (w64 (s1 + 1)))))) (some (.inl (w64 (s1 + 1)))))) (some (.inr (.brk s1))))

noncomputable def F_spec_l06RuleOf (p0 : GMulti) (p1 : Int) (p2 : (List Int)) : Option (Int) :=
  bnd (run (F_spec_l06RuleOf_L1 p0 p1 p2) 0) (Out.elim (fun (s1 : Int) => some (-1)) (fun (r : Int) => some r))

noncomputable def F_spec_l06Rule_L1 (p1 : GMultiConfig) (s2 : (List Int) × Int) : Option (((List Int) × Int) ⊕ Out ((List Int) × Int) Int) :=
  (cond (decide (s2.2 < (p1.Tapes.length : Int))) (bnd (idx p1.Tapes s2.2) fun y9 => bnd (F_spec_l06Head y9) fun r12 => bnd (app s2.1 ([r12] : List Int)) fun z15 => some (.inl (z15, (w64 (s2.2 + 1))))) (some (.inr (.brk (s2.1, s2.2)))))

noncomputable def F_spec_l06Rule (p0 : GMulti) (p1 : GMultiConfig) : Option (Int) :=
  bnd (run (F_spec_l06Rule_L1 p1) (([] : List Int), 0)) (Out.elim (fun (s2 : (List Int) × Int) => bnd (F_spec_l06RuleOf p0 p1.State s2.1) fun r20 => some r20) (fun (r : Int) => some r))


noncomputable def F_spec_l00Own (p0 : (List Int)) : Option ((List Int)) :=
  bnd (app ([] : List Int) p0) fun z2 => some z2

noncomputable def F_spec_l02Trim_L1 (p0 : (List Int)) (s1 : Int) : Option ((Int) ⊕ Out (Int) (List Int)) :=
  (cond (decide (0 < s1)) (bnd (idx p0 (w64 (s1 - 1))) fun y4 => (cond (decide (y4 = 0)) (some (.inl (w64 (s1 - 1)))) (some (.inr (.brk s1))))) (some (.inr (.brk s1))))

noncomputable def F_spec_l02Trim (p0 : (List Int)) : Option ((List Int)) :=
  bnd (run (F_spec_l02Trim_L1 p0) (p0.length : Int)) (Out.elim (fun (s1 : Int) => bnd (slc p0 0 s1) fun z9 => some z9) (fun (r : (List Int)) => some r))


noncomputable def F_spec_l06Trim (p0 : (List Int)) : Option ((List Int)) :=
  bnd (F_spec_l02Trim p0) fun r1 => bnd (F_spec_l00Own r1) fun r4 => some r4


noncomputable def F_spec_l06Tape (p0 : GTape) (p1 : Int) (p2 : Int) : Option (GTape) :=
  bnd ((cond (decide (0 < (p0.Right.length : Int))) (bnd (slc p0.Right 1 (p0.Right.length : Int)) fun z10 => bnd (app ([p1] : List Int) z10) fun z13 => some (.brk z13)) (some (.brk ([p1] : List Int)))) : Option (Out ((List Int)) GTape)) (Out.elim (fun (s3 : (List Int)) => bnd (F_spec_l00Own p0.Left) fun r18 => (cond (decide (p2 = 1)) (bnd (app ([p1] : List Int) r18) fun z23 => bnd (slc s3 1 (s3.length : Int)) fun z26 => bnd (F_spec_l06Trim z23) fun r29 => bnd (F_spec_l06Trim z26) fun r32 => some (⟨r29, r32⟩ : GTape)) (cond (decide (p2 = (-1))) (cond (decide (0 < (r18.length : Int))) (bnd (idx r18 0) fun y37 => bnd (slc r18 1 (r18.length : Int)) fun z42 => bnd (app ([y37] : List Int) s3) fun z46 => bnd (F_spec_l06Trim z42) fun r49 => bnd (F_spec_l06Trim z46) fun r52 => some (⟨r49, r52⟩ : GTape)) (bnd (app ([0] : List Int) s3) fun z56 => bnd (F_spec_l06Trim r18) fun r59 => bnd (F_spec_l06Trim z56) fun r62 => some (⟨r59, r62⟩ : GTape))) (bnd (F_spec_l06Trim r18) fun r65 => bnd (F_spec_l06Trim s3) fun r68 => some (⟨r65, r68⟩ : GTape))))) (fun (r : GTape) => some r))

noncomputable def F_spec_l06Step_L1 (p1 : GMultiConfig) (y7 : GMultiRule) (s13 : (List GTape) × Int) : Option (((List GTape) × Int) ⊕ Out ((List GTape) × Int) (GMultiConfig × Int)) :=
  (cond (decide (s13.2 < (p1.Tapes.length : Int))) (bnd (idx p1.Tapes s13.2) fun y20 => bnd (idx y7.Write s13.2) fun y25 => bnd (idx y7.Move s13.2) fun y31 => bnd (F_spec_l06Tape y20 y25 y31) fun r38 => (cond (decide (200 < (r38.Left.length : Int))) (some (.inr (.ret ((⟨0, ([] : (List GTape))⟩ : GMultiConfig), 5)))) (cond (decide (200 < (r38.Right.length : Int))) (some (.inr (.ret ((⟨0, ([] : (List GTape))⟩ : GMultiConfig), 5)))) (bnd (app s13.1 ([r38] : List GTape)) fun z45 => some (.inl (z45, (w64 (s13.2 + 1)))))))) (some (.inr (.brk (s13.1, s13.2)))))

noncomputable def F_spec_l06Step (p0 : GMulti) (p1 : GMultiConfig) : Option (GMultiConfig × Int) :=
  bnd (F_spec_l06Rule p0 p1) fun r2 => (cond (decide (r2 < 0)) (some ((⟨0, ([] : (List GTape))⟩ : GMultiConfig), 6)) (bnd (idx p0.Rules r2) fun y7 => bnd (run (F_spec_l06Step_L1 p1 y7) (([] : (List GTape)), 0)) (Out.elim (fun (s13 : (List GTape) × Int) => some ((⟨y7.Next, s13.1⟩ : GMultiConfig), 0)) (fun (r : GMultiConfig × Int) => some r))))


noncomputable def F_spec_StepMulti (p0 : GMulti) (p1 : GMultiConfig) : Option (GMultiConfig × Int) :=
  bnd (F_spec_l06Is p0) fun r4 => (cond (!r4) (some ((⟨0, ([] : (List GTape))⟩ : GMultiConfig), 1)) (bnd (F_spec_l06Good p0 p1) fun r7 => (cond (!r7) (some ((⟨0, ([] : (List GTape))⟩ : GMultiConfig), 1)) (bnd (F_spec_l06Step p0 p1) fun r10 => some (r10.1, r10.2)))))


noncomputable def F_impl_within (p0 : Int) (p1 : Int) (p2 : Int) : Option (Bool) :=
  (cond (decide (p1 ≤ p0)) (some (decide (p0 ≤ p2))) (some false))


noncomputable def F_impl_size_int64 (p0 : (List Int)) : Option (Int) :=
  some (p0.length : Int)

noncomputable def F_impl_allWithin_L1 (p0 : (List Int)) (p1 : Int) (p2 : Int) (s1 : Int) : Option ((Int) ⊕ Out (Int) Bool) :=
  (cond (decide (s1 < (p0.length : Int))) (bnd (idx p0 s1) fun y4 => bnd (F_impl_within y4 p1 p2) fun r8 => (cond (!r8) (some (.inr (.ret false))) (some (.inl (w64 (s1 + 1)))))) (some (.inr (.brk s1))))

noncomputable def F_impl_allWithin (p0 : (List Int)) (p1 : Int) (p2 : Int) : Option (Bool) :=
  bnd (run (F_impl_allWithin_L1 p0 p1 p2) 0) (Out.elim (fun (s1 : Int) => some true) (fun (r : Bool) => some r))


noncomputable def F_impl_validMultiRule (p0 : GMulti) (p1 : GMultiRule) : Option (Bool) :=
  bnd (bnd (F_impl_within p1.State 0 (w64 (p0.States - 1))) fun r5 => (cond (!r5) (some (.ret false)) (bnd (F_impl_within p1.Next 0 (w64 (p0.States - 1))) fun r8 => (cond (!r8) (some (.ret false)) (some (.brk ()))))) : Option (Out (Unit) Bool)) (Out.elim (fun (s3 : Unit) => bnd (bnd (F_impl_size_int64 p1.Read) fun r16 => (cond (decide (r16 ≠ p0.Tapes)) (some (.ret false)) (bnd (F_impl_size_int64 p1.Write) fun r19 => (cond (decide (r19 ≠ p0.Tapes)) (some (.ret false)) (bnd (F_impl_size_int64 p1.Move) fun r22 => (cond (decide (r22 ≠ p0.Tapes)) (some (.ret false)) (some (.brk ()))))))) : Option (Out (Unit) Bool)) (Out.elim (fun (s11 : Unit) => bnd (F_impl_allWithin p1.Read 0 (w64 (p0.Symbols - 1))) fun r25 => (cond r25 (bnd (F_impl_allWithin p1.Write 0 (w64 (p0.Symbols - 1))) fun r28 => (cond r28 (bnd (F_impl_allWithin p1.Move (-1) 1) fun r31 => some r31) (some false))) (some false))) (fun (r : Bool) => some r))) (fun (r : Bool) => some r))


noncomputable def F_cmp_isNaN_int64 (p0 : Int) : Option (Bool) :=
  some (decide (p0 ≠ p0))


noncomputable def F_cmp_Compare_int64 (p0 : Int) (p1 : Int) : Option (Int) :=
  bnd (F_cmp_isNaN_int64 p0) fun r1 => bnd (F_cmp_isNaN_int64 p1) fun r3 => (cond r1 (cond r3 (some 0) (some (-1))) (cond r3 (some 1) (cond (decide (p0 < p1)) (some (-1)) (cond (decide (p1 < p0)) (some 1) (some 0)))))

noncomputable def F_slices_Compare_Sint64_int64_L1 (p0 : (List Int)) (p1 : (List Int)) (s1 : Int) : Option ((Int) ⊕ Out (Int) Int) :=
  (cond (decide (s1 < (p0.length : Int))) (bnd (idx p0 s1) fun y4 => (cond (decide ((p1.length : Int) ≤ s1)) (some (.inr (.ret 1))) (bnd (idx p1 s1) fun y9 => bnd (F_cmp_Compare_int64 y4 y9) fun r13 => (cond (decide (r13 ≠ 0)) (some (.inr (.ret r13))) (some (.inl (w64 (s1 + 1)))))))) (some (.inr (.brk s1))))

noncomputable def F_slices_Compare_Sint64_int64 (p0 : (List Int)) (p1 : (List Int)) : Option (Int) :=
  bnd (run (F_slices_Compare_Sint64_int64_L1 p0 p1) 0) (Out.elim (fun (s1 : Int) => (cond (decide ((p0.length : Int) < (p1.length : Int))) (some (-1)) (some 0))) (fun (r : Int) => some r))


noncomputable def F_impl_compareMultiRules (p0 : GMultiRule) (p1 : GMultiRule) : Option (Int) :=
  (cond (decide (p0.State ≠ p1.State)) (cond (decide (p0.State < p1.State)) (some (-1)) (some 1)) (bnd (F_slices_Compare_Sint64_int64 p0.Read p1.Read) fun r5 => some r5))

noncomputable def F_impl_ValidMulti_L1 (p0 : GMulti) (s14 : Int) : Option ((Int) ⊕ Out (Int) Bool) :=
  (cond (decide (s14 < (p0.Rules.length : Int))) (bnd (idx p0.Rules s14) fun y17 => bnd (F_impl_validMultiRule p0 y17) fun r25 => (cond (!r25) (some (.inr (.ret false))) (cond (decide (0 < s14)) (bnd (idx p0.Rules (w64 (s14 - 1))) fun y29 => bnd (F_impl_compareMultiRules y29 y17) fun r35 => (cond (decide (0 ≤ r35)) (some (.inr (.ret false))) (some (.inl (w64 (s14 + 1)))))) (some (.inl (w64 (s14 + 1))))))) (some (.inr (.brk s14))))

noncomputable def F_impl_ValidMulti (p0 : GMulti) : Option (Bool) :=
  bnd (bnd (F_impl_within p0.Tapes 2 3) fun r4 => (cond (!r4) (some (.ret false)) (bnd (F_impl_within p0.Symbols 2 3) fun r7 => (cond (!r7) (some (.ret false)) (bnd (F_impl_within p0.States 1 16) fun r10 => (cond (!r10) (some (.ret false)) (cond (decide (60 < (p0.Rules.length : Int))) (some (.ret false)) (some (.brk ())))))))) : Option (Out (Unit) Bool)) (Out.elim (fun (s2 : Unit) => bnd (run (F_impl_ValidMulti_L1 p0) 0) (Out.elim (fun (s14 : Int) => some true) (fun (r : Bool) => some r))) (fun (r : Bool) => some r))


noncomputable def F_impl_size_impl_Tape (p0 : (List GTape)) : Option (Int) :=
  some (p0.length : Int)


noncomputable def F_impl_validSide (p0 : (List Int)) (p1 : Int) (p2 : Int) : Option (Bool) :=
  bnd (F_impl_size_int64 p0) fun r1 => (cond (decide (r1 ≤ p2)) (bnd (F_impl_allWithin p0 0 (w64 (p1 - 1))) fun r4 => (cond r4 (cond (decide ((p0.length : Int) = 0)) (some true) (bnd (idx p0 (w64 ((p0.length : Int) - 1))) fun y8 => some (decide (y8 ≠ 0)))) (some false))) (some false))


noncomputable def F_impl_validTape (p0 : GMulti) (p1 : GTape) : Option (Bool) :=
  bnd (F_impl_validSide p1.Left p0.Symbols 200) fun r3 => (cond r3 (bnd (F_impl_validSide p1.Right p0.Symbols 200) fun r6 => some r6) (some false))


noncomputable def F_impl_ValidMultiConfig_1 (p0 : GTape) (p1 : GMulti) : Option (Bool) :=
  bnd (F_impl_validTape p1 p0) fun r3 => some (!r3)

noncomputable def F_slices_IndexFunc_Simpl_Tape_impl_Tape_L1 (p0 : (List GTape)) (p1 : (GTape → Option Bool)) (s1 : Int) : Option ((Int) ⊕ Out (Int) Int) :=
  (cond (decide (s1 < (p0.length : Int))) (bnd (idx p0 s1) fun y4 => bnd (p1 y4) fun r8 => (cond r8 (some (.inr (.ret s1))) (some (.inl (w64 (s1 + 1)))))) (some (.inr (.brk s1))))

noncomputable def F_slices_IndexFunc_Simpl_Tape_impl_Tape (p0 : (List GTape)) (p1 : (GTape → Option Bool)) : Option (Int) :=
  bnd (run (F_slices_IndexFunc_Simpl_Tape_impl_Tape_L1 p0 p1) 0) (Out.elim (fun (s1 : Int) => some (-1)) (fun (r : Int) => some r))


noncomputable def F_slices_ContainsFunc_Simpl_Tape_impl_Tape (p0 : (List GTape)) (p1 : (GTape → Option Bool)) : Option (Bool) :=
  bnd (F_slices_IndexFunc_Simpl_Tape_impl_Tape p0 p1) fun r1 => some (decide (0 ≤ r1))


noncomputable def F_impl_ValidMultiConfig (p0 : GMulti) (p1 : GMultiConfig) : Option (Bool) :=
  bnd (F_impl_ValidMulti p0) fun r6 => (cond (!r6) (some false) (bnd (F_impl_within p1.State 0 (w64 (p0.States - 1))) fun r9 => (cond (!r9) (some false) (bnd (F_impl_size_impl_Tape p1.Tapes) fun r12 => (cond (decide (r12 ≠ p0.Tapes)) (some false) (bnd (F_slices_ContainsFunc_Simpl_Tape_impl_Tape p1.Tapes (fun x_ => F_impl_ValidMultiConfig_1 x_ p0)) fun r15 => some (!r15)))))))

noncomputable def F_impl_MultiConfig_read_L1 (p0 : GMultiConfig) (s7 : Int × Int × Int × Int) : Option ((Int × Int × Int × Int) ⊕ Out (Int × Int × Int × Int) Greading) :=
  (cond (decide (s7.2.2.2 < (p0.Tapes.length : Int))) (bnd (idx p0.Tapes s7.2.2.2) fun y10 => (cond (decide (0 < (y10.Right.length : Int))) (bnd (idx y10.Right 0) fun y16 => bnd (idx ([s7.1, s7.2.1, s7.2.2.1] : List Int) s7.2.2.2) fun y20 => some (.inl ((if s7.2.2.2 = ((0 : Nat) : Int) then y16 else s7.1), (if s7.2.2.2 = ((1 : Nat) : Int) then y16 else s7.2.1), (if s7.2.2.2 = ((2 : Nat) : Int) then y16 else s7.2.2.1), (w64 (s7.2.2.2 + 1))))) (some (.inl (s7.1, s7.2.1, s7.2.2.1, (w64 (s7.2.2.2 + 1))))))) (some (.inr (.brk (s7.1, s7.2.1, s7.2.2.1, s7.2.2.2)))))

noncomputable def F_impl_MultiConfig_read (p0 : GMultiConfig) : Option (Greading) :=
  bnd (run (F_impl_MultiConfig_read_L1 p0) (0, 0, 0, 0)) (Out.elim (fun (s7 : Int × Int × Int × Int) => some (⟨p0.State, s7.1, s7.2.1, s7.2.2.1⟩ : Greading)) (fun (r : Greading) => some r))

noncomputable def F_impl_MultiRuleAt_L1 (p0 : GMulti) (s9 : List (Greading × Int) × Int) : Option ((List (Greading × Int) × Int) ⊕ Out (List (Greading × Int) × Int) (Option (Int × Int))) :=
  (cond (decide (s9.2 < (p0.Rules.length : Int))) (bnd (idx p0.Rules s9.2) fun y12 => some (.inl ((mput s9.1 (⟨y12.State, (y12.Read.getD 0 0), (y12.Read.getD 1 0), (y12.Read.getD 2 0)⟩ : Greading) s9.2), (w64 (s9.2 + 1))))) (some (.inr (.brk (s9.1, s9.2)))))

noncomputable def F_impl_MultiRuleAt (p0 : GMulti) (p1 : GMultiConfig) : Option (Int × Int) :=
  bnd (F_impl_ValidMultiConfig p0 p1) fun r3 => (cond (!r3) (some (0, 1)) (bnd (run (F_impl_MultiRuleAt_L1 p0) (([] : List (Greading × Int)), 0)) (Out.elim (fun (s9 : List (Greading × Int) × Int) => bnd (F_impl_MultiConfig_read p1) fun r21 => (cond (!((mget s9.1 r21).isSome)) (some (0, 3)) (some (((mget s9.1 r21).getD 0), 0)))) (fun (r : Option (Int × Int)) => r))))


noncomputable def F_slices_Clone_Sint64_int64 (p0 : (List Int)) : Option ((List Int)) :=
  bnd (app ([] : List Int) p0) fun z3 => some z3


noncomputable def F_impl_copyTape (p0 : GTape) : Option (GTape) :=
  bnd (F_slices_Clone_Sint64_int64 p0.Left) fun r6 => bnd (F_slices_Clone_Sint64_int64 p0.Right) fun r9 => some (⟨r6, r9⟩ : GTape)

noncomputable def F_impl_copyMultiConfig_L1 (p0 : GMultiConfig) (s4 : (List GTape) × Int) : Option (((List GTape) × Int) ⊕ Out ((List GTape) × Int) GMultiConfig) :=
  (cond (decide (s4.2 < (p0.Tapes.length : Int))) (bnd (idx p0.Tapes s4.2) fun y7 => bnd (F_impl_copyTape y7) fun r15 => bnd (app s4.1 ([r15] : List GTape)) fun z19 => some (.inl (z19, (w64 (s4.2 + 1))))) (some (.inr (.brk (s4.1, s4.2)))))

noncomputable def F_impl_copyMultiConfig (p0 : GMultiConfig) : Option (GMultiConfig) :=
  bnd (run (F_impl_copyMultiConfig_L1 p0) (([] : (List GTape)), 0)) (Out.elim (fun (s4 : (List GTape) × Int) => some (⟨p0.State, s4.1⟩ : GMultiConfig)) (fun (r : GMultiConfig) => some r))

noncomputable def F_slices_Concat_Sint64_int64_L1 (p0 : (List (List Int))) (s1 : Int × Int) : Option ((Int × Int) ⊕ Out (Int × Int) (List Int)) :=
  (cond (decide (s1.2 < (p0.length : Int))) (bnd (idx p0 s1.2) fun y4 => (cond (decide ((w64 (s1.1 + (y4.length : Int))) < 0)) none (some (.inl ((w64 (s1.1 + (y4.length : Int))), (w64 (s1.2 + 1))))))) (some (.inr (.brk (s1.1, s1.2)))))

noncomputable def F_slices_Concat_Sint64_int64_L2 (p0 : (List (List Int))) (s20 : (List Int) × Int) : Option (((List Int) × Int) ⊕ Out ((List Int) × Int) (List Int)) :=
  (cond (decide (s20.2 < (p0.length : Int))) (bnd (idx p0 s20.2) fun y23 => bnd (app s20.1 y23) fun z27 => some (.inl (z27, (w64 (s20.2 + 1))))) (some (.inr (.brk (s20.1, s20.2)))))

noncomputable def F_slices_Concat_Sint64_int64_L3 (p0 : (List (List Int))) (s30 : (List Int) × Int) : Option (((List Int) × Int) ⊕ Out ((List Int) × Int) (List Int)) :=
  (cond (decide (s30.2 < (p0.length : Int))) (bnd (idx p0 s30.2) fun y33 => bnd (app s30.1 y33) fun z37 => some (.inl (z37, (w64 (s30.2 + 1))))) (some (.inr (.brk (s30.1, s30.2)))))

noncomputable def F_slices_Concat_Sint64_int64 (p0 : (List (List Int))) : Option ((List Int)) :=
  bnd (run (F_slices_Concat_Sint64_int64_L1 p0) (0, 0)) (Out.elim (fun (s1 : Int × Int) => bnd ((cond (decide (s1.1 < 0)) none (some (.brk ()))) : Option (Out (Unit) (Option ((List Int))))) (Out.elim (fun (s10 : Unit) => (cond (decide (0 < (w64 (s1.1 - (w64 (((0 : Nat) : Int) - ((0 : Nat) : Int))))))) (bnd (mke (w64 (s1.1 - (w64 (((0 : Nat) : Int) - ((0 : Nat) : Int))))) (0 : Int)) fun z14 => bnd (slc z14 0 ((0 : Nat) : Int)) fun z17 => bnd (run (F_slices_Concat_Sint64_int64_L2 p0) (z17, 0)) (Out.elim (fun (s20 : (List Int) × Int) => some s20.1) (fun (r : (List Int)) => some r))) (bnd (run (F_slices_Concat_Sint64_int64_L3 p0) (([] : (List Int)), 0)) (Out.elim (fun (s30 : (List Int) × Int) => some s30.1) (fun (r : (List Int)) => some r))))) (fun (r : Option ((List Int))) => r))) (fun (r : (List Int)) => some r))


noncomputable def F_impl_joined (p0 : (List (List Int))) : Option ((List Int)) :=
  bnd (F_slices_Concat_Sint64_int64 p0) fun r1 => some r1

noncomputable def F_impl_trimmed_L1 (s1 : (List Int)) : Option (((List Int)) ⊕ Out ((List Int)) (List Int)) :=
  (cond (decide (0 < (s1.length : Int))) (bnd (idx s1 (w64 ((s1.length : Int) - 1))) fun y4 => (cond (decide (y4 = 0)) (bnd (slc s1 0 (w64 ((s1.length : Int) - 1))) fun z9 => some (.inl z9)) (some (.inr (.brk s1))))) (some (.inr (.brk s1))))

noncomputable def F_impl_trimmed (p0 : (List Int)) : Option ((List Int)) :=
  bnd (run (F_impl_trimmed_L1) p0) (Out.elim (fun (s1 : (List Int)) => some s1) (fun (r : (List Int)) => some r))


noncomputable def F_impl_Tape_write (p0 : GTape) (p1 : Int) (p2 : Int) : Option ((Unit) × ((List Int) × (List Int))) :=
  bnd ((cond (decide ((p0.Right.length : Int) = 0)) (some (.brk ([0] : List Int))) (some (.brk p0.Right))) : Option (Out ((List Int)) ((Unit) × ((List Int) × (List Int))))) (Out.elim (fun (s1 : (List Int)) => bnd (idx s1 0) fun y5 => bnd ((cond (decide (p2 = 1)) (bnd (bnd (slc (s1.set (0 : Int).toNat p1) 0 1) fun z18 => bnd (F_impl_joined ([z18, p0.Left] : List (List Int))) fun r23 => some (.brk r23) : Option (Out ((List Int)) ((Unit) × ((List Int) × (List Int))))) (Out.elim (fun (s13 : (List Int)) => bnd (slc (s1.set (0 : Int).toNat p1) 1 ((s1.set (0 : Int).toNat p1).length : Int)) fun z34 => some (.brk (s13, z34))) (fun (r : (Unit) × ((List Int) × (List Int))) => some (.ret r)))) (cond (decide (p2 = (-1))) (cond (decide (0 < (p0.Left.length : Int))) (bnd (idx p0.Left 0) fun y40 => bnd (idx ([0] : List Int) 0) fun y44 => bnd (slc p0.Left 1 (p0.Left.length : Int)) fun z46 => bnd (F_impl_joined ([(([0] : List Int).set (0 : Int).toNat y40), (s1.set (0 : Int).toNat p1)] : List (List Int))) fun r50 => some (.brk (z46, r50))) (bnd (F_impl_joined ([([0] : List Int), (s1.set (0 : Int).toNat p1)] : List (List Int))) fun r54 => some (.brk (p0.Left, r54)))) (some (.brk (p0.Left, (s1.set (0 : Int).toNat p1)))))) : Option (Out ((List Int) × (List Int)) ((Unit) × ((List Int) × (List Int))))) (Out.elim (fun (s10 : (List Int) × (List Int)) => bnd (F_impl_trimmed s10.1) fun r60 => bnd (F_impl_trimmed s10.2) fun r63 => some ((), (r60, r63))) (fun (r : (Unit) × ((List Int) × (List Int))) => some r))) (fun (r : (Unit) × ((List Int) × (List Int))) => some r))

noncomputable def F_impl_StepMulti_L1 (r8 : GMultiConfig) (y12 : GMultiRule) (s18 : (List GTape) × Bool × Int) : Option (((List GTape) × Bool × Int) ⊕ Out ((List GTape) × Bool × Int) (Option (GMultiConfig × Int))) :=
  (cond (decide (s18.2.2 < (r8.Tapes.length : Int))) (bnd (idx s18.1 s18.2.2) fun y21 => bnd (idx y12.Write s18.2.2) fun y36 => bnd (idx y12.Move s18.2.2) fun y40 => bnd (F_impl_Tape_write y21 y36 y40) fun r47 => (cond s18.2.1 (cond (decide ((r47.2.1.length : Int) ≤ 200)) (some (.inl ((s18.1.set s18.2.2.toNat (⟨r47.2.1, r47.2.2⟩ : GTape)), (decide ((r47.2.2.length : Int) ≤ 200)), (w64 (s18.2.2 + 1))))) (some (.inl ((s18.1.set s18.2.2.toNat (⟨r47.2.1, r47.2.2⟩ : GTape)), false, (w64 (s18.2.2 + 1)))))) (some (.inl ((s18.1.set s18.2.2.toNat (⟨r47.2.1, r47.2.2⟩ : GTape)), false, (w64 (s18.2.2 + 1))))))) (some (.inr (.brk (s18.1, s18.2.1, s18.2.2)))))

noncomputable def F_impl_StepMulti (p0 : GMulti) (p1 : GMultiConfig) : Option (GMultiConfig × Int) :=
  bnd (F_impl_MultiRuleAt p0 p1) fun r4 => (cond (decide (r4.2 = 3)) (some ((⟨0, ([] : (List GTape))⟩ : GMultiConfig), 6)) (cond (decide (r4.2 = 1)) (some ((⟨0, ([] : (List GTape))⟩ : GMultiConfig), 1)) (bnd (F_impl_copyMultiConfig p1) fun r8 => bnd (idx p0.Rules r4.1) fun y12 => bnd (run (F_impl_StepMulti_L1 r8 y12) (r8.Tapes, true, 0)) (Out.elim (fun (s18 : (List GTape) × Bool × Int) => (cond (!s18.2.1) (some ((⟨0, ([] : (List GTape))⟩ : GMultiConfig), 5)) (some ((⟨y12.Next, s18.1⟩ : GMultiConfig), 0)))) (fun (r : Option (GMultiConfig × Int)) => r)))))

noncomputable def F_laws_eqInt64S_L1 (p0 : (List Int)) (p1 : (List Int)) (s2 : Int) : Option ((Int) ⊕ Out (Int) Bool) :=
  (cond (decide (s2 < (p0.length : Int))) (bnd (idx p0 s2) fun y5 => bnd (idx p1 s2) fun y9 => (cond (decide (y5 ≠ y9)) (some (.inr (.ret false))) (some (.inl (w64 (s2 + 1)))))) (some (.inr (.brk s2))))

noncomputable def F_laws_eqInt64S (p0 : (List Int)) (p1 : (List Int)) : Option (Bool) :=
  (cond (decide ((p0.length : Int) ≠ (p1.length : Int))) (some false) (bnd (run (F_laws_eqInt64S_L1 p0 p1) 0) (Out.elim (fun (s2 : Int) => some true) (fun (r : Bool) => some r))))


noncomputable def F_laws_eqTape (p0 : GTape) (p1 : GTape) : Option (Bool) :=
  bnd (F_laws_eqInt64S p0.Left p1.Left) fun r3 => (cond (!r3) (some false) (bnd (F_laws_eqInt64S p0.Right p1.Right) fun r6 => (cond (!r6) (some false) (some true))))

noncomputable def F_laws_eqTapeS_L1 (p0 : (List GTape)) (p1 : (List GTape)) (s2 : Int) : Option ((Int) ⊕ Out (Int) Bool) :=
  (cond (decide (s2 < (p0.length : Int))) (bnd (idx p0 s2) fun y5 => bnd (idx p1 s2) fun y9 => bnd (F_laws_eqTape y5 y9) fun r16 => (cond (!r16) (some (.inr (.ret false))) (some (.inl (w64 (s2 + 1)))))) (some (.inr (.brk s2))))

noncomputable def F_laws_eqTapeS (p0 : (List GTape)) (p1 : (List GTape)) : Option (Bool) :=
  (cond (decide ((p0.length : Int) ≠ (p1.length : Int))) (some false) (bnd (run (F_laws_eqTapeS_L1 p0 p1) 0) (Out.elim (fun (s2 : Int) => some true) (fun (r : Bool) => some r))))


noncomputable def F_laws_eqMultiConfig (p0 : GMultiConfig) (p1 : GMultiConfig) : Option (Bool) :=
  (cond (decide (p0.State ≠ p1.State)) (some false) (bnd (F_laws_eqTapeS p0.Tapes p1.Tapes) fun r4 => (cond (!r4) (some false) (some true))))


noncomputable def F_laws_eqMultiRule (p0 : GMultiRule) (p1 : GMultiRule) : Option (Bool) :=
  (cond (decide (p0.State ≠ p1.State)) (some false) (bnd (F_laws_eqInt64S p0.Read p1.Read) fun r4 => (cond (!r4) (some false) (bnd (F_laws_eqInt64S p0.Write p1.Write) fun r7 => (cond (!r7) (some false) (bnd (F_laws_eqInt64S p0.Move p1.Move) fun r10 => (cond (!r10) (some false) (cond (decide (p0.Next ≠ p1.Next)) (some false) (some true)))))))))

noncomputable def F_laws_eqMultiRuleS_L1 (p0 : (List GMultiRule)) (p1 : (List GMultiRule)) (s2 : Int) : Option ((Int) ⊕ Out (Int) Bool) :=
  (cond (decide (s2 < (p0.length : Int))) (bnd (idx p0 s2) fun y5 => bnd (idx p1 s2) fun y9 => bnd (F_laws_eqMultiRule y5 y9) fun r16 => (cond (!r16) (some (.inr (.ret false))) (some (.inl (w64 (s2 + 1)))))) (some (.inr (.brk s2))))

noncomputable def F_laws_eqMultiRuleS (p0 : (List GMultiRule)) (p1 : (List GMultiRule)) : Option (Bool) :=
  (cond (decide ((p0.length : Int) ≠ (p1.length : Int))) (some false) (bnd (run (F_laws_eqMultiRuleS_L1 p0 p1) 0) (Out.elim (fun (s2 : Int) => some true) (fun (r : Bool) => some r))))


noncomputable def F_laws_eqMulti (p0 : GMulti) (p1 : GMulti) : Option (Bool) :=
  (cond (decide (p0.Tapes ≠ p1.Tapes)) (some false) (cond (decide (p0.Symbols ≠ p1.Symbols)) (some false) (cond (decide (p0.States ≠ p1.States)) (some false) (bnd (F_laws_eqMultiRuleS p0.Rules p1.Rules) fun r6 => (cond (!r6) (some false) (some true))))))

noncomputable def F_laws_markInt64S_L1 (s1 : (List Int) × Int × Int) : Option (((List Int) × Int × Int) ⊕ Out ((List Int) × Int × Int) (Int × (List Int))) :=
  (cond (decide (s1.2.2 < (s1.1.length : Int))) (bnd (idx s1.1 s1.2.2) fun y4 => some (.inl ((s1.1.set s1.2.2.toNat s1.2.1), (w64 (s1.2.1 + 1)), (w64 (s1.2.2 + 1))))) (some (.inr (.brk (s1.1, s1.2.1, s1.2.2)))))

noncomputable def F_laws_markInt64S (p0 : (List Int)) (p1 : Int) : Option (Int × (List Int)) :=
  bnd (run (F_laws_markInt64S_L1) (p0, p1, 0)) (Out.elim (fun (s1 : (List Int) × Int × Int) => some (s1.2.1, s1.1)) (fun (r : Int × (List Int)) => some r))

noncomputable def F_laws_markMultiRuleS_L1 (s1 : (List GMultiRule) × Int × Int) : Option (((List GMultiRule) × Int × Int) ⊕ Out ((List GMultiRule) × Int × Int) (Int × (List GMultiRule))) :=
  (cond (decide (s1.2.2 < (s1.1.length : Int))) (bnd (idx s1.1 s1.2.2) fun y4 => bnd (idx (s1.1.set s1.2.2.toNat (⟨s1.2.1, y4.Read, y4.Write, y4.Move, y4.Next⟩ : GMultiRule)) s1.2.2) fun y9 => bnd (F_laws_markInt64S y9.Read (w64 (s1.2.1 + 1))) fun r12 => bnd (idx ((s1.1.set s1.2.2.toNat (⟨s1.2.1, y4.Read, y4.Write, y4.Move, y4.Next⟩ : GMultiRule)).set s1.2.2.toNat (⟨y9.State, r12.2, y9.Write, y9.Move, y9.Next⟩ : GMultiRule)) s1.2.2) fun y14 => bnd (F_laws_markInt64S y14.Write r12.1) fun r17 => bnd (idx (((s1.1.set s1.2.2.toNat (⟨s1.2.1, y4.Read, y4.Write, y4.Move, y4.Next⟩ : GMultiRule)).set s1.2.2.toNat (⟨y9.State, r12.2, y9.Write, y9.Move, y9.Next⟩ : GMultiRule)).set s1.2.2.toNat (⟨y14.State, y14.Read, r17.2, y14.Move, y14.Next⟩ : GMultiRule)) s1.2.2) fun y19 => bnd (F_laws_markInt64S y19.Move r17.1) fun r22 => bnd (idx ((((s1.1.set s1.2.2.toNat (⟨s1.2.1, y4.Read, y4.Write, y4.Move, y4.Next⟩ : GMultiRule)).set s1.2.2.toNat (⟨y9.State, r12.2, y9.Write, y9.Move, y9.Next⟩ : GMultiRule)).set s1.2.2.toNat (⟨y14.State, y14.Read, r17.2, y14.Move, y14.Next⟩ : GMultiRule)).set s1.2.2.toNat (⟨y19.State, y19.Read, y19.Write, r22.2, y19.Next⟩ : GMultiRule)) s1.2.2) fun y24 => some (.inl ((((((s1.1.set s1.2.2.toNat (⟨s1.2.1, y4.Read, y4.Write, y4.Move, y4.Next⟩ : GMultiRule)).set s1.2.2.toNat (⟨y9.State, r12.2, y9.Write, y9.Move, y9.Next⟩ : GMultiRule)).set s1.2.2.toNat (⟨y14.State, y14.Read, r17.2, y14.Move, y14.Next⟩ : GMultiRule)).set s1.2.2.toNat (⟨y19.State, y19.Read, y19.Write, r22.2, y19.Next⟩ : GMultiRule)).set s1.2.2.toNat (⟨y24.State, y24.Read, y24.Write, y24.Move, r22.1⟩ : GMultiRule)), (w64 (r22.1 + 1)), (w64 (s1.2.2 + 1))))) (some (.inr (.brk (s1.1, s1.2.1, s1.2.2)))))

noncomputable def F_laws_markMultiRuleS (p0 : (List GMultiRule)) (p1 : Int) : Option (Int × (List GMultiRule)) :=
  bnd (run (F_laws_markMultiRuleS_L1) (p0, p1, 0)) (Out.elim (fun (s1 : (List GMultiRule) × Int × Int) => some (s1.2.1, s1.1)) (fun (r : Int × (List GMultiRule)) => some r))

noncomputable def F_laws_markTapeS_L1 (s1 : (List GTape) × Int × Int) : Option (((List GTape) × Int × Int) ⊕ Out ((List GTape) × Int × Int) (Int × (List GTape))) :=
  (cond (decide (s1.2.2 < (s1.1.length : Int))) (bnd (idx s1.1 s1.2.2) fun y4 => bnd (F_laws_markInt64S y4.Left s1.2.1) fun r10 => bnd (idx (s1.1.set s1.2.2.toNat (⟨r10.2, y4.Right⟩ : GTape)) s1.2.2) fun y12 => bnd (F_laws_markInt64S y12.Right r10.1) fun r15 => some (.inl (((s1.1.set s1.2.2.toNat (⟨r10.2, y4.Right⟩ : GTape)).set s1.2.2.toNat (⟨y12.Left, r15.2⟩ : GTape)), r15.1, (w64 (s1.2.2 + 1))))) (some (.inr (.brk (s1.1, s1.2.1, s1.2.2)))))

noncomputable def F_laws_markTapeS (p0 : (List GTape)) (p1 : Int) : Option (Int × (List GTape)) :=
  bnd (run (F_laws_markTapeS_L1) (p0, p1, 0)) (Out.elim (fun (s1 : (List GTape) × Int × Int) => some (s1.2.1, s1.1)) (fun (r : Int × (List GTape)) => some r))

noncomputable def F_laws_heldInt64S_L1 (p0 : (List Int)) (s1 : Int × Int) : Option ((Int × Int) ⊕ Out (Int × Int) Int) :=
  (cond (decide (s1.2 < (p0.length : Int))) (bnd (idx p0 s1.2) fun y4 => (cond (decide (y4 ≠ s1.1)) (some (.inr (.ret (-1)))) (some (.inl ((w64 (s1.1 + 1)), (w64 (s1.2 + 1))))))) (some (.inr (.brk (s1.1, s1.2)))))

noncomputable def F_laws_heldInt64S (p0 : (List Int)) (p1 : Int) : Option (Int) :=
  bnd (run (F_laws_heldInt64S_L1 p0) (p1, 0)) (Out.elim (fun (s1 : Int × Int) => some s1.1) (fun (r : Int) => some r))

noncomputable def F_laws_heldTapeS_L1 (p0 : (List GTape)) (s1 : Int × Int) : Option ((Int × Int) ⊕ Out (Int × Int) Int) :=
  (cond (decide (s1.2 < (p0.length : Int))) (bnd (idx p0 s1.2) fun y4 => bnd (F_laws_heldInt64S y4.Left s1.1) fun r9 => (cond (decide (r9 < 0)) (some (.inr (.ret (-1)))) (bnd (idx p0 s1.2) fun y12 => bnd (F_laws_heldInt64S y12.Right r9) fun r17 => (cond (decide (r17 < 0)) (some (.inr (.ret (-1)))) (some (.inl (r17, (w64 (s1.2 + 1))))))))) (some (.inr (.brk (s1.1, s1.2)))))

noncomputable def F_laws_heldTapeS (p0 : (List GTape)) (p1 : Int) : Option (Int) :=
  bnd (run (F_laws_heldTapeS_L1 p0) (p1, 0)) (Out.elim (fun (s1 : Int × Int) => some s1.1) (fun (r : Int) => some r))


noncomputable def F_laws_heldMultiConfig (p0 : GMultiConfig) (p1 : Int) : Option (Int) :=
  bnd (F_laws_heldTapeS p0.Tapes p1) fun r2 => (cond (decide (r2 < 0)) (some (-1)) (some r2))


noncomputable def F_laws_FnExactStepMulti (p0 : GMulti) (p1 : GMultiConfig) : Option (Bool) :=
  bnd (F_laws_szMulti p0 1048576) fun r3 => (cond (decide (r3 < 0)) (some true) (bnd (F_laws_szMultiConfig p1 r3) fun r6 => (cond (decide (r6 < 0)) (some true) (bnd (bnd (F_laws_toMulti p0) fun r14 => bnd (F_laws_toMultiConfig p1) fun r17 => bnd (F_spec_StepMulti r14 r17) fun r20 => some (.brk (r20.1.State, r20.1.Tapes, r20.2)) : Option (Out (Int × (List GTape) × Int) Bool)) (Out.elim (fun (s9 : Int × (List GTape) × Int) => bnd (F_laws_toMulti p0) fun r39 => bnd (F_laws_toMultiConfig p1) fun r43 => bnd (F_impl_StepMulti r39 r43) fun r47 => bnd (bnd (F_laws_eqMultiConfig r47.1 (⟨s9.1, s9.2.1⟩ : GMultiConfig)) fun r53 => (cond (!r53) (some (.ret false)) (cond (decide (r47.2 ≠ s9.2.2)) (some (.ret false)) (some (.brk ())))) : Option (Out (Unit) Bool)) (Out.elim (fun (s51 : Unit) => bnd (F_laws_toMulti p0) fun r60 => bnd (F_laws_eqMulti r39 r60) fun r63 => (cond (!r63) (some false) (bnd (F_laws_toMultiConfig p1) fun r69 => bnd (F_laws_eqMultiConfig r43 r69) fun r72 => (cond (!r72) (some false) (bnd (F_laws_markMultiRuleS r39.Rules 1) fun r77 => bnd (F_laws_markTapeS r43.Tapes r77.1) fun r81 => bnd ((cond (decide (r81.1 < 0)) (some (.ret false)) (bnd (F_laws_eqMultiConfig r47.1 (⟨s9.1, s9.2.1⟩ : GMultiConfig)) fun r86 => (cond (!r86) (some (.ret false)) (cond (decide (r47.2 ≠ s9.2.2)) (some (.ret false)) (some (.brk ())))))) : Option (Out (Unit) Bool)) (Out.elim (fun (s83 : Unit) => bnd (F_laws_markTapeS r47.1.Tapes 1) fun r92 => bnd (F_laws_heldMultiConfig (⟨r47.1.State, r92.2⟩ : GMultiConfig) 1) fun r94 => (cond (decide (r94 < 0)) (some false) (cond (decide (r94 ≠ r92.1)) (some false) (bnd (bnd (F_laws_toMulti p0) fun r103 => bnd (F_laws_toMultiConfig p1) fun r106 => bnd (F_impl_StepMulti r103 r106) fun r109 => some (.brk (r109.1.State, r109.1.Tapes, r109.2)) : Option (Out (Int × (List GTape) × Int) Bool)) (Out.elim (fun (s98 : Int × (List GTape) × Int) => bnd (F_laws_eqMultiConfig (⟨s98.1, s98.2.1⟩ : GMultiConfig) (⟨s9.1, s9.2.1⟩ : GMultiConfig)) fun r128 => (cond (!r128) (some false) (cond (decide (s98.2.2 ≠ s9.2.2)) (some false) (bnd (F_laws_heldMultiConfig (⟨r47.1.State, r92.2⟩ : GMultiConfig) 1) fun r132 => (cond (decide (r132 < 0)) (some false) (cond (decide (r132 ≠ r92.1)) (some false) (some true))))))) (fun (r : Bool) => some r)))))) (fun (r : Bool) => some r))))))) (fun (r : Bool) => some r))) (fun (r : Bool) => some r))))))

noncomputable def F_spec_l06Own_L1 (p0 : GMultiConfig) (s5 : (List GTape) × Int) : Option (((List GTape) × Int) ⊕ Out ((List GTape) × Int) GMultiConfig) :=
  (cond (decide (s5.2 < (p0.Tapes.length : Int))) (bnd (idx p0.Tapes s5.2) fun y12 => bnd (idx p0.Tapes s5.2) fun y19 => bnd (F_spec_l00Own y12.Left) fun r27 => bnd (F_spec_l00Own y19.Right) fun r30 => bnd (app s5.1 ([(⟨r27, r30⟩ : GTape)] : List GTape)) fun z34 => some (.inl (z34, (w64 (s5.2 + 1))))) (some (.inr (.brk (s5.1, s5.2)))))

noncomputable def F_spec_l06Own (p0 : GMultiConfig) : Option (GMultiConfig) :=
  bnd (run (F_spec_l06Own_L1 p0) (([] : (List GTape)), 0)) (Out.elim (fun (s5 : (List GTape) × Int) => some (⟨p0.State, s5.1⟩ : GMultiConfig)) (fun (r : GMultiConfig) => some r))

noncomputable def F_spec_l06Run_L1 (p0 : GMulti) (p2 : Int) (s6 : Int × (List GTape) × Int) : Option ((Int × (List GTape) × Int) ⊕ Out (Int × (List GTape) × Int) (GMultiConfig × Int × Bool × Int)) :=
  bnd (F_spec_l06Rule p0 (⟨s6.1, s6.2.1⟩ : GMultiConfig)) fun r8 => (cond (decide (r8 < 0)) (some (.inr (.ret ((⟨s6.1, s6.2.1⟩ : GMultiConfig), s6.2.2, true, 0)))) (cond (decide (s6.2.2 = p2)) (some (.inr (.ret ((⟨s6.1, s6.2.1⟩ : GMultiConfig), s6.2.2, false, 0)))) (bnd (F_spec_l06Step p0 (⟨s6.1, s6.2.1⟩ : GMultiConfig)) fun r12 => (cond (decide (r12.2 ≠ 0)) (some (.inr (.ret ((⟨0, ([] : (List GTape))⟩ : GMultiConfig), 0, false, r12.2)))) (some (.inl (r12.1.State, r12.1.Tapes, (w64 (s6.2.2 + 1)))))))))

noncomputable def F_spec_l06Run (p0 : GMulti) (p1 : GMultiConfig) (p2 : Int) : Option (GMultiConfig × Int × Bool × Int) :=
  bnd (F_spec_l06Own p1) fun r2 => bnd (run (F_spec_l06Run_L1 p0 p2) (r2.State, r2.Tapes, 0)) (Out.elim (fun (s6 : Int × (List GTape) × Int) => none) (fun (r : GMultiConfig × Int × Bool × Int) => some r))


noncomputable def F_spec_RunMulti (p0 : GMulti) (p1 : GMultiConfig) (p2 : Int) : Option (GMultiConfig × Int × Bool × Int) :=
  bnd (bnd (F_spec_l06Is p0) fun r6 => (cond (!r6) (some (.ret ((⟨0, ([] : (List GTape))⟩ : GMultiConfig), 0, false, 1))) (bnd (F_spec_l06Good p0 p1) fun r9 => (cond (!r9) (some (.ret ((⟨0, ([] : (List GTape))⟩ : GMultiConfig), 0, false, 1))) (some (.brk ()))))) : Option (Out (Unit) (GMultiConfig × Int × Bool × Int))) (Out.elim (fun (s4 : Unit) => bnd (F_spec_l00In p2 1 20000) fun r12 => (cond (!r12) (some ((⟨0, ([] : (List GTape))⟩ : GMultiConfig), 0, false, 2)) (bnd (F_spec_l06Run p0 p1 p2) fun r15 => some (r15.1, r15.2.1, r15.2.2.1, r15.2.2.2)))) (fun (r : GMultiConfig × Int × Bool × Int) => some r))


noncomputable def F_impl_budgetOk (p0 : Int) : Option (Bool) :=
  bnd (F_impl_within p0 1 20000) fun r1 => some r1


noncomputable def F_impl_RunMulti_1 (p0 : GMultiConfig) : Option (Unit) :=
  some ()

noncomputable def F_impl_RunMulti_L1 (p0 : GMulti) (s19 : List (Greading × Int) × Int) : Option ((List (Greading × Int) × Int) ⊕ Out (List (Greading × Int) × Int) (Option (GMultiConfig × Int × Bool × Int))) :=
  (cond (decide (s19.2 < (p0.Rules.length : Int))) (bnd (idx p0.Rules s19.2) fun y22 => some (.inl ((mput s19.1 (⟨y22.State, (y22.Read.getD 0 0), (y22.Read.getD 1 0), (y22.Read.getD 2 0)⟩ : Greading) s19.2), (w64 (s19.2 + 1))))) (some (.inr (.brk (s19.1, s19.2)))))

noncomputable def F_impl_RunMulti_L3 (s31 : Int × (List GTape) × Int) (y39 : GMultiRule) (s45 : (List GTape) × Bool × Int) : Option (((List GTape) × Bool × Int) ⊕ Out ((List GTape) × Bool × Int) (Option ((Int × (List GTape) × Int) ⊕ Out (Int × (List GTape) × Int) (Option (GMultiConfig × Int × Bool × Int))))) :=
  (cond (decide (s45.2.2 < (s31.2.1.length : Int))) (bnd (idx s45.1 s45.2.2) fun y48 => bnd (idx y39.Write s45.2.2) fun y63 => bnd (idx y39.Move s45.2.2) fun y67 => bnd (F_impl_Tape_write y48 y63 y67) fun r74 => (cond s45.2.1 (cond (decide ((r74.2.1.length : Int) ≤ 200)) (some (.inl ((s45.1.set s45.2.2.toNat (⟨r74.2.1, r74.2.2⟩ : GTape)), (decide ((r74.2.2.length : Int) ≤ 200)), (w64 (s45.2.2 + 1))))) (some (.inl ((s45.1.set s45.2.2.toNat (⟨r74.2.1, r74.2.2⟩ : GTape)), false, (w64 (s45.2.2 + 1)))))) (some (.inl ((s45.1.set s45.2.2.toNat (⟨r74.2.1, r74.2.2⟩ : GTape)), false, (w64 (s45.2.2 + 1))))))) (some (.inr (.brk (s45.1, s45.2.1, s45.2.2)))))

noncomputable def F_impl_RunMulti_L2 (p0 : GMulti) (p2 : Int) (s19 : List (Greading × Int) × Int) (s31 : Int × (List GTape) × Int) : Option ((Int × (List GTape) × Int) ⊕ Out (Int × (List GTape) × Int) (Option (GMultiConfig × Int × Bool × Int))) :=
  bnd (F_impl_RunMulti_1 (⟨s31.1, s31.2.1⟩ : GMultiConfig)) fun r33 => bnd (F_impl_MultiConfig_read (⟨s31.1, s31.2.1⟩ : GMultiConfig)) fun r35 => (cond (!((mget s19.1 r35).isSome)) (some (.inr (.ret (some ((⟨s31.1, s31.2.1⟩ : GMultiConfig), s31.2.2, (!((mget s19.1 r35).isSome)), 0))))) (cond (decide (s31.2.2 = p2)) (some (.inr (.ret (some ((⟨s31.1, s31.2.1⟩ : GMultiConfig), s31.2.2, (!((mget s19.1 r35).isSome)), 0))))) (bnd (idx p0.Rules ((mget s19.1 r35).getD 0)) fun y39 => bnd (run (F_impl_RunMulti_L3 s31 y39) (s31.2.1, true, 0)) (Out.elim (fun (s45 : (List GTape) × Bool × Int) => (cond (!s45.2.1) (some (.inr (.ret (some ((⟨0, ([] : (List GTape))⟩ : GMultiConfig), 0, false, 5))))) (some (.inl (y39.Next, s45.1, (w64 (s31.2.2 + 1))))))) (fun (r : Option ((Int × (List GTape) × Int) ⊕ Out (Int × (List GTape) × Int) (Option (GMultiConfig × Int × Bool × Int)))) => r)))))

noncomputable def F_impl_RunMulti (p0 : GMulti) (p1 : GMultiConfig) (p2 : Int) : Option (GMultiConfig × Int × Bool × Int) :=
  bnd (F_impl_ValidMultiConfig p0 p1) fun r4 => (cond (!r4) (some ((⟨0, ([] : (List GTape))⟩ : GMultiConfig), 0, false, 1)) (bnd (F_impl_budgetOk p2) fun r7 => (cond (!r7) (some ((⟨0, ([] : (List GTape))⟩ : GMultiConfig), 0, false, 2)) (bnd (F_impl_copyMultiConfig p1) fun r10 => bnd (run (F_impl_RunMulti_L1 p0) (([] : List (Greading × Int)), 0)) (Out.elim (fun (s19 : List (Greading × Int) × Int) => bnd (run (F_impl_RunMulti_L2 p0 p2 s19) (r10.State, r10.Tapes, 0)) (Out.elim (fun (s31 : Int × (List GTape) × Int) => none) (fun (r : Option (GMultiConfig × Int × Bool × Int)) => r))) (fun (r : Option (GMultiConfig × Int × Bool × Int)) => r))))))


noncomputable def F_laws_FnExactRunMulti (p0 : GMulti) (p1 : GMultiConfig) (p2 : Int) : Option (Bool) :=
  bnd (F_laws_szMulti p0 1048576) fun r3 => (cond (decide (r3 < 0)) (some true) (bnd (F_laws_szMultiConfig p1 r3) fun r6 => (cond (decide (r6 < 0)) (some true) (bnd (bnd (F_laws_toMulti p0) fun r14 => bnd (F_laws_toMultiConfig p1) fun r17 => bnd (F_spec_RunMulti r14 r17 p2) fun r20 => some (.brk (r20.1.State, r20.1.Tapes, r20.2.1, r20.2.2.1, r20.2.2.2)) : Option (Out (Int × (List GTape) × Int × Bool × Int) Bool)) (Out.elim (fun (s9 : Int × (List GTape) × Int × Bool × Int) => bnd (F_laws_toMulti p0) fun r39 => bnd (F_laws_toMultiConfig p1) fun r43 => bnd (F_impl_RunMulti r39 r43 p2) fun r47 => bnd (bnd (F_laws_eqMultiConfig r47.1 (⟨s9.1, s9.2.1⟩ : GMultiConfig)) fun r53 => (cond (!r53) (some (.ret false)) (cond (decide (r47.2.1 ≠ s9.2.2.1)) (some (.ret false)) (cond (r47.2.2.1 != s9.2.2.2.1) (some (.ret false)) (cond (decide (r47.2.2.2 ≠ s9.2.2.2.2)) (some (.ret false)) (some (.brk ())))))) : Option (Out (Unit) Bool)) (Out.elim (fun (s51 : Unit) => bnd (F_laws_toMulti p0) fun r62 => bnd (F_laws_eqMulti r39 r62) fun r65 => (cond (!r65) (some false) (bnd (F_laws_toMultiConfig p1) fun r71 => bnd (F_laws_eqMultiConfig r43 r71) fun r74 => (cond (!r74) (some false) (bnd (F_laws_markMultiRuleS r39.Rules 1) fun r79 => bnd (F_laws_markTapeS r43.Tapes r79.1) fun r83 => bnd ((cond (decide (r83.1 < 0)) (some (.ret false)) (bnd (F_laws_eqMultiConfig r47.1 (⟨s9.1, s9.2.1⟩ : GMultiConfig)) fun r88 => (cond (!r88) (some (.ret false)) (cond (decide (r47.2.1 ≠ s9.2.2.1)) (some (.ret false)) (cond (r47.2.2.1 != s9.2.2.2.1) (some (.ret false)) (cond (decide (r47.2.2.2 ≠ s9.2.2.2.2)) (some (.ret false)) (some (.brk ())))))))) : Option (Out (Unit) Bool)) (Out.elim (fun (s85 : Unit) => bnd (F_laws_markTapeS r47.1.Tapes 1) fun r96 => bnd (F_laws_heldMultiConfig (⟨r47.1.State, r96.2⟩ : GMultiConfig) 1) fun r98 => (cond (decide (r98 < 0)) (some false) (cond (decide (r98 ≠ r96.1)) (some false) (bnd (bnd (F_laws_toMulti p0) fun r107 => bnd (F_laws_toMultiConfig p1) fun r110 => bnd (F_impl_RunMulti r107 r110 p2) fun r113 => some (.brk (r113.1.State, r113.1.Tapes, r113.2.1, r113.2.2.1, r113.2.2.2)) : Option (Out (Int × (List GTape) × Int × Bool × Int) Bool)) (Out.elim (fun (s102 : Int × (List GTape) × Int × Bool × Int) => bnd (F_laws_eqMultiConfig (⟨s102.1, s102.2.1⟩ : GMultiConfig) (⟨s9.1, s9.2.1⟩ : GMultiConfig)) fun r132 => (cond (!r132) (some false) (cond (decide (s102.2.2.1 ≠ s9.2.2.1)) (some false) (cond (s102.2.2.2.1 != s9.2.2.2.1) (some false) (cond (decide (s102.2.2.2.2 ≠ s9.2.2.2.2)) (some false) (bnd (F_laws_heldMultiConfig (⟨r47.1.State, r96.2⟩ : GMultiConfig) 1) fun r138 => (cond (decide (r138 < 0)) (some false) (cond (decide (r138 ≠ r96.1)) (some false) (some true))))))))) (fun (r : Bool) => some r)))))) (fun (r : Bool) => some r))))))) (fun (r : Bool) => some r))) (fun (r : Bool) => some r))))))

noncomputable def F_spec_TraceMulti_L1 (p0 : GMulti) (s18 : Int × (List GMultiConfig)) : Option ((Int × (List GMultiConfig)) ⊕ Out (Int × (List GMultiConfig)) ((List GMultiConfig) × Int)) :=
  (cond (decide (0 < s18.1)) (bnd (idx s18.2 (w64 ((s18.2.length : Int) - 1))) fun y21 => bnd (F_spec_l06Rule p0 y21) fun r27 => (cond (decide (r27 < 0)) (some (.inr (.brk (s18.1, s18.2)))) (bnd (F_spec_l06Step p0 y21) fun r30 => (cond (decide (r30.2 ≠ 0)) (some (.inr (.ret (([] : (List GMultiConfig)), r30.2)))) (bnd (app s18.2 ([r30.1] : List GMultiConfig)) fun z36 => some (.inl ((w64 (s18.1 - 1)), z36))))))) (some (.inr (.brk (s18.1, s18.2)))))

noncomputable def F_spec_TraceMulti (p0 : GMulti) (p1 : GMultiConfig) (p2 : Int) : Option ((List GMultiConfig) × Int) :=
  bnd (bnd (F_spec_l06Is p0) fun r5 => (cond (!r5) (some (.ret (([] : (List GMultiConfig)), 1))) (bnd (F_spec_l06Good p0 p1) fun r8 => (cond (!r8) (some (.ret (([] : (List GMultiConfig)), 1))) (some (.brk ()))))) : Option (Out (Unit) ((List GMultiConfig) × Int))) (Out.elim (fun (s3 : Unit) => bnd (F_spec_l00In p2 0 40) fun r11 => (cond (!r11) (some (([] : (List GMultiConfig)), 2)) (bnd (F_spec_l06Own p1) fun r14 => bnd (run (F_spec_TraceMulti_L1 p0) (p2, ([r14] : List GMultiConfig))) (Out.elim (fun (s18 : Int × (List GMultiConfig)) => some (s18.2, 0)) (fun (r : (List GMultiConfig) × Int) => some r))))) (fun (r : (List GMultiConfig) × Int) => some r))

noncomputable def F_impl_TraceMulti_L1 (p0 : GMulti) (s20 : List (Greading × Int) × Int) : Option ((List (Greading × Int) × Int) ⊕ Out (List (Greading × Int) × Int) (Option ((List GMultiConfig) × Int))) :=
  (cond (decide (s20.2 < (p0.Rules.length : Int))) (bnd (idx p0.Rules s20.2) fun y23 => some (.inl ((mput s20.1 (⟨y23.State, (y23.Read.getD 0 0), (y23.Read.getD 1 0), (y23.Read.getD 2 0)⟩ : Greading) s20.2), (w64 (s20.2 + 1))))) (some (.inr (.brk (s20.1, s20.2)))))

noncomputable def F_impl_TraceMulti_L3 (s32 : Int × (List GTape) × (List GMultiConfig) × Int) (y50 : GMultiRule) (s56 : (List GTape) × Bool × Int) : Option (((List GTape) × Bool × Int) ⊕ Out ((List GTape) × Bool × Int) (Option ((Int × (List GTape) × (List GMultiConfig) × Int) ⊕ Out (Int × (List GTape) × (List GMultiConfig) × Int) (Option ((List GMultiConfig) × Int))))) :=
  (cond (decide (s56.2.2 < (s32.2.1.length : Int))) (bnd (idx s56.1 s56.2.2) fun y59 => bnd (idx y50.Write s56.2.2) fun y74 => bnd (idx y50.Move s56.2.2) fun y78 => bnd (F_impl_Tape_write y59 y74 y78) fun r85 => (cond s56.2.1 (cond (decide ((r85.2.1.length : Int) ≤ 200)) (some (.inl ((s56.1.set s56.2.2.toNat (⟨r85.2.1, r85.2.2⟩ : GTape)), (decide ((r85.2.2.length : Int) ≤ 200)), (w64 (s56.2.2 + 1))))) (some (.inl ((s56.1.set s56.2.2.toNat (⟨r85.2.1, r85.2.2⟩ : GTape)), false, (w64 (s56.2.2 + 1)))))) (some (.inl ((s56.1.set s56.2.2.toNat (⟨r85.2.1, r85.2.2⟩ : GTape)), false, (w64 (s56.2.2 + 1))))))) (some (.inr (.brk (s56.1, s56.2.1, s56.2.2)))))

noncomputable def F_impl_TraceMulti_L2 (p0 : GMulti) (p2 : Int) (s20 : List (Greading × Int) × Int) (s32 : Int × (List GTape) × (List GMultiConfig) × Int) : Option ((Int × (List GTape) × (List GMultiConfig) × Int) ⊕ Out (Int × (List GTape) × (List GMultiConfig) × Int) (Option ((List GMultiConfig) × Int))) :=
  bnd (F_impl_copyMultiConfig (⟨s32.1, s32.2.1⟩ : GMultiConfig)) fun r39 => bnd (app s32.2.2.1 ([r39] : List GMultiConfig)) fun z43 => bnd (F_impl_MultiConfig_read (⟨s32.1, s32.2.1⟩ : GMultiConfig)) fun r46 => (cond (!((mget s20.1 r46).isSome)) (some (.inr (.ret (some (z43, 0))))) (cond (decide (s32.2.2.2 = p2)) (some (.inr (.ret (some (z43, 0))))) (bnd (idx p0.Rules ((mget s20.1 r46).getD 0)) fun y50 => bnd (run (F_impl_TraceMulti_L3 s32 y50) (s32.2.1, true, 0)) (Out.elim (fun (s56 : (List GTape) × Bool × Int) => (cond (!s56.2.1) (some (.inr (.ret (some (([] : (List GMultiConfig)), 5))))) (some (.inl (y50.Next, s56.1, z43, (w64 (s32.2.2.2 + 1))))))) (fun (r : Option ((Int × (List GTape) × (List GMultiConfig) × Int) ⊕ Out (Int × (List GTape) × (List GMultiConfig) × Int) (Option ((List GMultiConfig) × Int)))) => r)))))

noncomputable def F_impl_TraceMulti (p0 : GMulti) (p1 : GMultiConfig) (p2 : Int) : Option ((List GMultiConfig) × Int) :=
  bnd (F_impl_ValidMultiConfig p0 p1) fun r3 => (cond (!r3) (some (([] : (List GMultiConfig)), 1)) (bnd (F_impl_within p2 0 40) fun r6 => (cond (!r6) (some (([] : (List GMultiConfig)), 2)) (bnd (F_impl_copyMultiConfig p1) fun r9 => bnd (run (F_impl_TraceMulti_L1 p0) (([] : List (Greading × Int)), 0)) (Out.elim (fun (s20 : List (Greading × Int) × Int) => bnd (run (F_impl_TraceMulti_L2 p0 p2 s20) (r9.State, r9.Tapes, ([] : List GMultiConfig), 0)) (Out.elim (fun (s32 : Int × (List GTape) × (List GMultiConfig) × Int) => none) (fun (r : Option ((List GMultiConfig) × Int)) => r))) (fun (r : Option ((List GMultiConfig) × Int)) => r))))))

noncomputable def F_laws_eqMultiConfigS_L1 (p0 : (List GMultiConfig)) (p1 : (List GMultiConfig)) (s2 : Int) : Option ((Int) ⊕ Out (Int) Bool) :=
  (cond (decide (s2 < (p0.length : Int))) (bnd (idx p0 s2) fun y5 => bnd (idx p1 s2) fun y9 => bnd (F_laws_eqMultiConfig y5 y9) fun r16 => (cond (!r16) (some (.inr (.ret false))) (some (.inl (w64 (s2 + 1)))))) (some (.inr (.brk s2))))

noncomputable def F_laws_eqMultiConfigS (p0 : (List GMultiConfig)) (p1 : (List GMultiConfig)) : Option (Bool) :=
  (cond (decide ((p0.length : Int) ≠ (p1.length : Int))) (some false) (bnd (run (F_laws_eqMultiConfigS_L1 p0 p1) 0) (Out.elim (fun (s2 : Int) => some true) (fun (r : Bool) => some r))))

noncomputable def F_laws_markMultiConfigS_L1 (s1 : (List GMultiConfig) × Int × Int) : Option (((List GMultiConfig) × Int × Int) ⊕ Out ((List GMultiConfig) × Int × Int) (Int × (List GMultiConfig))) :=
  (cond (decide (s1.2.2 < (s1.1.length : Int))) (bnd (idx s1.1 s1.2.2) fun y4 => bnd (idx (s1.1.set s1.2.2.toNat (⟨s1.2.1, y4.Tapes⟩ : GMultiConfig)) s1.2.2) fun y9 => bnd (F_laws_markTapeS y9.Tapes (w64 (s1.2.1 + 1))) fun r12 => some (.inl (((s1.1.set s1.2.2.toNat (⟨s1.2.1, y4.Tapes⟩ : GMultiConfig)).set s1.2.2.toNat (⟨y9.State, r12.2⟩ : GMultiConfig)), r12.1, (w64 (s1.2.2 + 1))))) (some (.inr (.brk (s1.1, s1.2.1, s1.2.2)))))

noncomputable def F_laws_markMultiConfigS (p0 : (List GMultiConfig)) (p1 : Int) : Option (Int × (List GMultiConfig)) :=
  bnd (run (F_laws_markMultiConfigS_L1) (p0, p1, 0)) (Out.elim (fun (s1 : (List GMultiConfig) × Int × Int) => some (s1.2.1, s1.1)) (fun (r : Int × (List GMultiConfig)) => some r))

noncomputable def F_laws_heldMultiConfigS_L1 (p0 : (List GMultiConfig)) (s1 : Int × Int) : Option ((Int × Int) ⊕ Out (Int × Int) Int) :=
  (cond (decide (s1.2 < (p0.length : Int))) (bnd (idx p0 s1.2) fun y4 => (cond (decide (y4.State ≠ s1.1)) (some (.inr (.ret (-1)))) (bnd (idx p0 s1.2) fun y10 => bnd (F_laws_heldTapeS y10.Tapes (w64 (s1.1 + 1))) fun r15 => (cond (decide (r15 < 0)) (some (.inr (.ret (-1)))) (some (.inl (r15, (w64 (s1.2 + 1))))))))) (some (.inr (.brk (s1.1, s1.2)))))

noncomputable def F_laws_heldMultiConfigS (p0 : (List GMultiConfig)) (p1 : Int) : Option (Int) :=
  bnd (run (F_laws_heldMultiConfigS_L1 p0) (p1, 0)) (Out.elim (fun (s1 : Int × Int) => some s1.1) (fun (r : Int) => some r))


noncomputable def F_laws_FnExactTraceMulti (p0 : GMulti) (p1 : GMultiConfig) (p2 : Int) : Option (Bool) :=
  bnd (F_laws_szMulti p0 1048576) fun r3 => (cond (decide (r3 < 0)) (some true) (bnd (F_laws_szMultiConfig p1 r3) fun r6 => (cond (decide (r6 < 0)) (some true) (bnd (F_laws_toMulti p0) fun r12 => bnd (F_laws_toMultiConfig p1) fun r15 => bnd (F_spec_TraceMulti r12 r15 p2) fun r18 => bnd (F_laws_toMulti p0) fun r21 => bnd (F_laws_toMultiConfig p1) fun r25 => bnd (F_impl_TraceMulti r21 r25 p2) fun r29 => bnd (bnd (F_laws_eqMultiConfigS r29.1 r18.1) fun r34 => (cond (!r34) (some (.ret false)) (cond (decide (r29.2 ≠ r18.2)) (some (.ret false)) (some (.brk ())))) : Option (Out (Unit) Bool)) (Out.elim (fun (s32 : Unit) => bnd (F_laws_toMulti p0) fun r41 => bnd (F_laws_eqMulti r21 r41) fun r44 => (cond (!r44) (some false) (bnd (F_laws_toMultiConfig p1) fun r50 => bnd (F_laws_eqMultiConfig r25 r50) fun r53 => (cond (!r53) (some false) (bnd (F_laws_markMultiRuleS r21.Rules 1) fun r58 => bnd (F_laws_markTapeS r25.Tapes r58.1) fun r62 => bnd ((cond (decide (r62.1 < 0)) (some (.ret false)) (bnd (F_laws_eqMultiConfigS r29.1 r18.1) fun r67 => (cond (!r67) (some (.ret false)) (cond (decide (r29.2 ≠ r18.2)) (some (.ret false)) (some (.brk ())))))) : Option (Out (Unit) Bool)) (Out.elim (fun (s64 : Unit) => bnd (F_laws_markMultiConfigS r29.1 1) fun r71 => bnd (F_laws_heldMultiConfigS r71.2 1) fun r73 => (cond (decide (r73 < 0)) (some false) (cond (decide (r73 ≠ r71.1)) (some false) (bnd (F_laws_toMulti p0) fun r80 => bnd (F_laws_toMultiConfig p1) fun r83 => bnd (F_impl_TraceMulti r80 r83 p2) fun r86 => bnd (F_laws_eqMultiConfigS r86.1 r18.1) fun r89 => (cond (!r89) (some false) (cond (decide (r86.2 ≠ r18.2)) (some false) (bnd (F_laws_heldMultiConfigS r71.2 1) fun r93 => (cond (decide (r93 < 0)) (some false) (cond (decide (r93 ≠ r71.1)) (some false) (some true)))))))))) (fun (r : Bool) => some r))))))) (fun (r : Bool) => some r))))))

end Go.Fn
