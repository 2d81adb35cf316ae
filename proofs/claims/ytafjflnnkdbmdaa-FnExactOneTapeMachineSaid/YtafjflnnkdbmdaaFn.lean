/-
  What each function of the program computes, as a plain Lean function: printed by program off the translation. No condition.
-/
import Derived.Test.YtafjflnnkdbmdaaTy
namespace Go.Fn
open Go Go.Tc
set_option linter.unusedVariables false

noncomputable def F_laws_szInt64S (p0 : (List Int)) (p1 : Int) : Option (Int) :=
  (cond (decide ((w64 (p1 - (p0.length : Int))) < 0)) (some (-1)) (some (w64 (p1 - (p0.length : Int)))))


noncomputable def F_laws_szMultiRule (p0 : GMultiRule) (p1 : Int) : Option (Int) :=
  bnd (F_laws_szInt64S p0.Read p1) fun r2 => (cond (decide (r2 < 0)) (some (-1)) (bnd (F_laws_szInt64S p0.Write r2) fun r5 => (cond (decide (r5 < 0)) (some (-1)) (bnd (F_laws_szInt64S p0.Move r5) fun r8 => (cond (decide (r8 < 0)) (some (-1)) (some r8))))))

noncomputable def F_laws_szMultiRuleS_L1 (p0 : (List GMultiRule)) (s2 : Int × Int) : Option ((Int × Int) ⊕ Out (Int × Int) Int) :=
  (cond (decide (s2.2 < (p0.length : Int))) (bnd (idx p0 s2.2) fun y5 => bnd (F_laws_szMultiRule y5 s2.1) fun r9 => (cond (decide (r9 < 0)) (some (.inr (.ret (-1)))) (some (.inl (r9, (w64 (s2.2 + 1))))))) (some (.inr (.brk (s2.1, s2.2)))))

noncomputable def F_laws_szMultiRuleS (p0 : (List GMultiRule)) (p1 : Int) : Option (Int) :=
  (cond (decide ((w64 (p1 - (p0.length : Int))) < 0)) (some (-1)) (bnd (run (F_laws_szMultiRuleS_L1 p0) ((w64 (p1 - (p0.length : Int))), 0)) (Out.elim (fun (s2 : Int × Int) => some s2.1) (fun (r : Int) => some r))))


noncomputable def F_laws_szMulti (p0 : GMulti) (p1 : Int) : Option (Int) :=
  bnd (F_laws_szMultiRuleS p0.Rules p1) fun r2 => (cond (decide (r2 < 0)) (some (-1)) (some r2))

noncomputable def F_laws_toInt64S_L1 (p0 : (List Int)) (s4 : (List Int) × Int) : Option (((List Int) × Int) ⊕ Out ((List Int) × Int) (List Int)) :=
  (cond (decide (s4.2 < (p0.length : Int))) (bnd (idx p0 s4.2) fun y7 => bnd (idx s4.1 s4.2) fun y11 => some (.inl ((s4.1.set s4.2.toNat y7), (w64 (s4.2 + 1))))) (some (.inr (.brk (s4.1, s4.2)))))

noncomputable def F_laws_toInt64S (p0 : (List Int)) : Option ((List Int)) :=
  bnd (mke (p0.length : Int) (0 : Int)) fun z1 => bnd (run (F_laws_toInt64S_L1 p0) (z1, 0)) (Out.elim (fun (s4 : (List Int) × Int) => some s4.1) (fun (r : (List Int)) => some r))


noncomputable def F_laws_toMultiRule (p0 : GMultiRule) : Option (GMultiRule) :=
  bnd (F_laws_toInt64S p0.Read) fun r4 => bnd (F_laws_toInt64S p0.Write) fun r7 => bnd (F_laws_toInt64S p0.Move) fun r10 => some (⟨p0.State, r4, r7, r10, p0.Next⟩ : GMultiRule)

noncomputable def F_laws_toMultiRuleS_L1 (p0 : (List GMultiRule)) (s4 : (List GMultiRule) × Int) : Option (((List GMultiRule) × Int) ⊕ Out ((List GMultiRule) × Int) (List GMultiRule)) :=
  (cond (decide (s4.2 < (p0.length : Int))) (bnd (idx p0 s4.2) fun y7 => bnd (F_laws_toMultiRule y7) fun r11 => bnd (idx s4.1 s4.2) fun y14 => some (.inl ((s4.1.set s4.2.toNat r11), (w64 (s4.2 + 1))))) (some (.inr (.brk (s4.1, s4.2)))))

noncomputable def F_laws_toMultiRuleS (p0 : (List GMultiRule)) : Option ((List GMultiRule)) :=
  bnd (mke (p0.length : Int) (⟨(0 : Int), ([] : (List Int)), ([] : (List Int)), ([] : (List Int)), (0 : Int)⟩ : GMultiRule)) fun z1 => bnd (run (F_laws_toMultiRuleS_L1 p0) (z1, 0)) (Out.elim (fun (s4 : (List GMultiRule) × Int) => some s4.1) (fun (r : (List GMultiRule)) => some r))


noncomputable def F_laws_toMulti (p0 : GMulti) : Option (GMulti) :=
  bnd (F_laws_toMultiRuleS p0.Rules) fun r4 => some (⟨p0.Tapes, p0.Symbols, p0.States, r4⟩ : GMulti)


noncomputable def F_spec_l00In (p0 : Int) (p1 : Int) (p2 : Int) : Option (Bool) :=
  (cond (decide (p1 ≤ p0)) (some (decide (p0 ≤ p2))) (some false))

noncomputable def F_spec_l06Row_L1 (p0 : (List Int)) (p2 : Int) (p3 : Int) (s2 : Int) : Option ((Int) ⊕ Out (Int) Bool) :=
  (cond (decide (s2 < (p0.length : Int))) (bnd (idx p0 s2) fun y5 => bnd (F_spec_l00In y5 p2 p3) fun r9 => (cond (!r9) (some (.inr (.ret false))) (some (.inl (w64 (s2 + 1)))))) (some (.inr (.brk s2))))

noncomputable def F_spec_l06Row (p0 : (List Int)) (p1 : Int) (p2 : Int) (p3 : Int) : Option (Bool) :=
  (cond (decide ((p0.length : Int) ≠ p1)) (some false) (bnd (run (F_spec_l06Row_L1 p0 p2 p3) 0) (Out.elim (fun (s2 : Int) => some true) (fun (r : Bool) => some r))))

noncomputable def F_spec_l01Compare_L1 (p0 : (List Int)) (p1 : (List Int)) (s1 : Int) : Option ((Int) ⊕ Out (Int) Int) :=
  (cond (decide (s1 < (p0.length : Int))) (cond (decide (s1 < (p1.length : Int))) (bnd (idx p0 s1) fun y5 => bnd (idx p1 s1) fun y9 => (cond (decide (y5 < y9)) (some (.inr (.ret (-1)))) (bnd (idx p0 s1) fun y14 => bnd (idx p1 s1) fun y18 => (cond (decide (y18 < y14)) (some (.inr (.ret 1))) (some (.inl (w64 (s1 + 1)))))))) (some (.inr (.brk s1)))) (some (.inr (.brk s1))))

noncomputable def F_spec_l01Compare (p0 : (List Int)) (p1 : (List Int)) : Option (Int) :=
  bnd (run (F_spec_l01Compare_L1 p0 p1) 0) (Out.elim (fun (s1 : Int) => (cond (decide ((p0.length : Int) < (p1.length : Int))) (some (-1)) (cond (decide ((p1.length : Int) < (p0.length : Int))) (some 1) (some 0)))) (fun (r : Int) => some r))


noncomputable def F_spec_l06Before (p0 : GMultiRule) (p1 : GMultiRule) : Option (Bool) :=
  (cond (decide (p0.State < p1.State)) (some true) (cond (decide (p0.State = p1.State)) (bnd (F_spec_l01Compare p0.Read p1.Read) fun r18 => some (decide (r18 < 0))) (some false)))

noncomputable def F_spec_l06Is_L1 (p0 : GMulti) (s21 : Int) : Option ((Int) ⊕ Out (Int) Bool) :=
  (cond (decide (s21 < (p0.Rules.length : Int))) (bnd (idx p0.Rules s21) fun y28 => bnd (bnd (F_spec_l00In y28.State 0 (w64 (p0.States - 1))) fun r40 => (cond (!r40) (some (.ret false)) (bnd (F_spec_l00In y28.Next 0 (w64 (p0.States - 1))) fun r51 => (cond (!r51) (some (.ret false)) (some (.brk ()))))) : Option (Out (Unit) Bool)) (Out.elim (fun (s31 : Unit) => bnd (bnd (F_spec_l06Row y28.Read p0.Tapes 0 (w64 (p0.Symbols - 1))) fun r65 => (cond (!r65) (some (.ret false)) (bnd (F_spec_l06Row y28.Write p0.Tapes 0 (w64 (p0.Symbols - 1))) fun r80 => (cond (!r80) (some (.ret false)) (bnd (F_spec_l06Row y28.Move p0.Tapes (-1) 1) fun r91 => (cond (!r91) (some (.ret false)) (some (.brk ()))))))) : Option (Out (Unit) Bool)) (Out.elim (fun (s54 : Unit) => (cond (decide (0 < s21)) (bnd (idx p0.Rules (w64 (s21 - 1))) fun y97 => bnd (F_spec_l06Before y97 y28) fun r100 => (cond (!r100) (some (.inr (.ret false))) (some (.inl (w64 (s21 + 1)))))) (some (.inl (w64 (s21 + 1)))))) (fun (r : Bool) => some (.inr (.ret r))))) (fun (r : Bool) => some (.inr (.ret r))))) (some (.inr (.brk s21))))

noncomputable def F_spec_l06Is (p0 : GMulti) : Option (Bool) :=
  bnd (bnd (F_spec_l00In p0.Tapes 2 3) fun r5 => (cond (!r5) (some (.ret false)) (bnd (F_spec_l00In p0.Symbols 2 3) fun r10 => (cond (!r10) (some (.ret false)) (bnd (F_spec_l00In p0.States 1 16) fun r15 => (cond (!r15) (some (.ret false)) (cond (decide (60 < (p0.Rules.length : Int))) (some (.ret false)) (some (.brk ())))))))) : Option (Out (Unit) Bool)) (Out.elim (fun (s1 : Unit) => bnd (run (F_spec_l06Is_L1 p0) 0) (Out.elim (fun (s21 : Int) => some true) (fun (r : Bool) => some r))) (fun (r : Bool) => some r))

noncomputable def F_spec_l13Look_L1 (p0 : GMulti) (s2 : (List Int) × Int) : Option (((List Int) × Int) ⊕ Out ((List Int) × Int) (List Int)) :=
  (cond (decide (s2.2 < p0.Tapes)) (bnd (app s2.1 ([(-1)] : List Int)) fun z8 => some (.inl (z8, (w64 (s2.2 + 1))))) (some (.inr (.brk (s2.1, s2.2)))))

noncomputable def F_spec_l13Look (p0 : GMulti) (p1 : Int) : Option ((List Int)) :=
  bnd (run (F_spec_l13Look_L1 p0) (([0, p1, 0] : List Int), 0)) (Out.elim (fun (s2 : (List Int) × Int) => some s2.1) (fun (r : (List Int)) => some r))


noncomputable def F_spec_l13Go (p0 : Int) (p1 : Int) (p2 : (List Int)) : Option (Gl13Move) :=
  some (⟨true, p0, p1, p2⟩ : Gl13Move)


noncomputable def F_spec_l05None : Option (GRule) :=
  some (⟨0, 0, (-1)⟩ : GRule)


noncomputable def F_spec_l13Fold_step (rec_ : GMachine → (List Int) → Int → Option (Gl13Move)) (p0 : GMachine) (p1 : (List Int)) (p2 : Int) : Option (Gl13Move) :=
  bnd (idx p1 1) fun y4 => bnd (idx p1 0) fun y8 => (cond (decide (y8 = 1)) (cond (!(decide (p2 = p0.Symbols))) (bnd (idx p1 2) fun y14 => bnd (F_spec_l13Go p2 1 ([0, y4, y14] : List Int)) fun r19 => some r19) (some (⟨false, 0, 0, ([] : (List Int))⟩ : Gl13Move))) (cond (decide (y8 = 2)) (cond (decide (p2 = p0.Symbols)) (bnd (F_spec_l13Go p2 1 ([3, y4] : List Int)) fun r25 => some r25) (bnd (F_spec_l13Go p2 (-1) ([0, y4, 0] : List Int)) fun r29 => some r29)) (cond (decide (y8 = 3)) (cond (!(decide (p2 = p0.Symbols))) (bnd (F_spec_l13Go p2 1 ([0, y4, 1] : List Int)) fun r35 => some r35) (some (⟨false, 0, 0, ([] : (List Int))⟩ : Gl13Move))) (cond (decide (y8 = 4)) (cond (!(decide (p2 = p0.Symbols))) (bnd (F_spec_l13Go p2 (-1) ([5, y4] : List Int)) fun r41 => some r41) (some (⟨false, 0, 0, ([] : (List Int))⟩ : Gl13Move))) (cond (decide (y8 = 5)) (cond (decide (p2 = p0.Symbols)) (bnd (F_spec_l13Go p2 1 ([0, y4, 0] : List Int)) fun r47 => some r47) (bnd (rec_ p0 ([0, y4, 1] : List Int) p2) fun r51 => some r51)) (bnd ((cond (decide (p2 = p0.Symbols)) (some (.ret (⟨false, 0, 0, ([] : (List Int))⟩ : Gl13Move))) (bnd (idx p0.Rules (w64 ((w64 (y4 * p0.Symbols)) + p2))) fun y61 => bnd F_spec_l05None fun r68 => (cond (decide (y61 = r68)) (some (.ret (⟨false, 0, 0, ([] : (List Int))⟩ : Gl13Move))) (some (.brk ()))))) : Option (Out (Unit) Gl13Move)) (Out.elim (fun (s54 : Unit) => bnd (idx p0.Rules (w64 ((w64 (y4 * p0.Symbols)) + p2))) fun y75 => bnd (idx p1 2) fun y83 => bnd ((cond (decide (y75.Move = 1)) (cond (decide (y83 = 0)) (bnd (F_spec_l13Go y75.Write 1 ([1, y75.Next, y83] : List Int)) fun r92 => some (.ret r92)) (cond (decide (y75.Move = (-1))) (cond (decide (y83 = 1)) (bnd (F_spec_l13Go y75.Write 1 ([1, y75.Next, y83] : List Int)) fun r98 => some (.ret r98)) (some (.brk ()))) (some (.brk ())))) (cond (decide (y75.Move = (-1))) (cond (decide (y83 = 1)) (bnd (F_spec_l13Go y75.Write 1 ([1, y75.Next, y83] : List Int)) fun r104 => some (.ret r104)) (some (.brk ()))) (some (.brk ())))) : Option (Out (Unit) Gl13Move)) (Out.elim (fun (s87 : Unit) => (cond (decide (y83 = 0)) (bnd (F_spec_l13Go y75.Write (-1) ([2, y75.Next] : List Int)) fun r109 => some r109) (bnd (F_spec_l13Go y75.Write (-1) ([4, y75.Next] : List Int)) fun r113 => some r113))) (fun (r : Gl13Move) => some r))) (fun (r : Gl13Move) => some r))))))))
noncomputable def F_spec_l13Fold (p0 : GMachine) (p1 : (List Int)) (p2 : Int) : Option (Gl13Move) := fixR (fun (rec_ : (GMachine × (List Int) × Int) → Option (Gl13Move)) (a_ : GMachine × (List Int) × Int) => F_spec_l13Fold_step (fun p0 p1 p2 => rec_ (p0, p1, p2)) a_.1 a_.2.1 a_.2.2) (p0, p1, p2)


noncomputable def F_spec_l00Own (p0 : (List Int)) : Option ((List Int)) :=
  bnd (app ([] : List Int) p0) fun z2 => some z2

noncomputable def F_spec_l00Has_L1 (p0 : (List Int)) (p1 : Int) (s1 : Int) : Option ((Int) ⊕ Out (Int) Bool) :=
  (cond (decide (s1 < (p0.length : Int))) (bnd (idx p0 s1) fun y4 => (cond (decide (y4 = p1)) (some (.inr (.ret true))) (some (.inl (w64 (s1 + 1)))))) (some (.inr (.brk s1))))

noncomputable def F_spec_l00Has (p0 : (List Int)) (p1 : Int) : Option (Bool) :=
  bnd (run (F_spec_l00Has_L1 p0 p1) 0) (Out.elim (fun (s1 : Int) => some false) (fun (r : Bool) => some r))

noncomputable def F_spec_l00Same_L1 (p0 : (List Int)) (p1 : (List Int)) (s2 : Int) : Option ((Int) ⊕ Out (Int) Bool) :=
  (cond (decide (s2 < (p0.length : Int))) (bnd (idx p0 s2) fun y5 => bnd (idx p1 s2) fun y9 => (cond (decide (y5 ≠ y9)) (some (.inr (.ret false))) (some (.inl (w64 (s2 + 1)))))) (some (.inr (.brk s2))))

noncomputable def F_spec_l00Same (p0 : (List Int)) (p1 : (List Int)) : Option (Bool) :=
  (cond (decide ((p0.length : Int) ≠ (p1.length : Int))) (some false) (bnd (run (F_spec_l00Same_L1 p0 p1) 0) (Out.elim (fun (s2 : Int) => some true) (fun (r : Bool) => some r))))

noncomputable def F_spec_l06RuleOf_L1 (p0 : GMulti) (p1 : Int) (p2 : (List Int)) (s1 : Int) : Option ((Int) ⊕ Out (Int) Int) :=
  (cond (decide (s1 < (p0.Rules.length : Int))) (bnd (idx p0.Rules s1) fun y8 => (cond (decide (y8.State = p1)) (bnd (idx p0.Rules s1) fun y16 => bnd (F_spec_l00Same y16.Read p2) fun r21 => (cond r21 (some (.inr (.ret s1))) (some (.inl (w64 (s1 + 1)))))) (some (.inl (w64 (s1 + 1)))))) (some (.inr (.brk s1))))

noncomputable def F_spec_l06RuleOf (p0 : GMulti) (p1 : Int) (p2 : (List Int)) : Option (Int) :=
  bnd (run (F_spec_l06RuleOf_L1 p0 p1 p2) 0) (Out.elim (fun (s1 : Int) => some (-1)) (fun (r : Int) => some r))


noncomputable def F_spec_l13Before (p0 : GMulti) (p1 : Int) : Option (Int) :=
  bnd (nz p0.Tapes) fun u5 => some (Int.tmod (w64 ((w64 (p1 + p0.Tapes)) - 1)) p0.Tapes)


noncomputable def F_spec_l13After (p0 : GMulti) (p1 : Int) (p2 : Int) (p3 : Int) : Option ((List Int)) :=
  bnd (nneg p0.Tapes) fun u3 => (cond (decide (p3 = (w64 ((w64 (1 * 2 ^ min (p0.Tapes : Int).toNat 64)) - 1)))) (bnd (idx p0.Rules p1) fun y8 => some ([4, y8.Next, (w64 ((w64 (p2 + p0.Tapes)) - 1))] : List Int)) (bnd (F_spec_l13Before p0 p2) fun r19 => some ([3, p1, r19, p3] : List Int)))


noncomputable def F_spec_l13Put (p0 : GMulti) (p1 : Int) (p2 : Int) (p3 : Int) : Option (Gl13Move) :=
  bnd (idx p0.Rules p1) fun y4 => bnd (nneg p2) fun u9 => bnd (idx y4.Move p2) fun y11 => (cond (decide (y11 = 0)) (bnd (idx y4.Write p2) fun y16 => bnd (F_spec_l13After p0 p1 p2 (ior p3 (w64 (1 * 2 ^ min (p2 : Int).toNat 64)))) fun r25 => bnd (F_spec_l13Go (w64 (y16 + p0.Symbols)) (-1) r25) fun r28 => some r28) (bnd (idx y4.Write p2) fun y31 => bnd (idx y4.Move p2) fun y35 => bnd (F_spec_l13Go y31 y35 ([1, p1, p2, (ior p3 (w64 (1 * 2 ^ min (p2 : Int).toNat 64))), (w64 (p0.Tapes - 1))] : List Int)) fun r45 => some r45))


noncomputable def F_spec_l13Several (p0 : GMulti) (p1 : (List Int)) (p2 : Int) : Option (Gl13Move) :=
  bnd (nz p0.Symbols) fun u4 => bnd (idx p1 0) fun y8 => (cond (decide (y8 = 4)) (bnd (idx p1 2) fun y13 => (cond (decide (y13 = 1)) (bnd (idx p1 1) fun y18 => bnd (F_spec_l13Look p0 y18) fun r22 => bnd (F_spec_l13Go p2 (-1) r22) fun r25 => some r25) (bnd (idx p1 1) fun y28 => bnd (idx p1 2) fun y32 => bnd (F_spec_l13Go p2 (-1) ([4, y28, (w64 (y32 - 1))] : List Int)) fun r40 => some r40))) (bnd (idx p1 0) fun y43 => (cond (decide (y43 = 0)) (bnd (idx p1 1) fun y48 => bnd (idx p1 2) fun y52 => bnd (slc p1 3 (p1.length : Int)) fun z56 => bnd (F_spec_l00Own z56) fun r59 => bnd ((cond (decide (p0.Symbols ≤ p2)) (bnd (idx r59 y52) fun y65 => (cond (decide (y65 < 0)) (bnd (idx r59 y52) fun y71 => some (.brk (r59.set y52.toNat (Int.tmod p2 p0.Symbols)))) (some (.brk r59)))) (some (.brk r59))) : Option (Out ((List Int)) Gl13Move)) (Out.elim (fun (s62 : (List Int)) => bnd (F_spec_l00Has s62 (-1)) fun r73 => (cond r73 (bnd (nz p0.Tapes) fun u78 => bnd (app ([0, y48, (Int.tmod (w64 (y52 + 1)) p0.Tapes)] : List Int) s62) fun z81 => bnd (F_spec_l13Go p2 1 z81) fun r84 => some r84) (bnd (F_spec_l06RuleOf p0 y48 s62) fun r87 => (cond (decide (r87 < 0)) (some (⟨false, 0, 0, ([] : (List Int))⟩ : Gl13Move)) (bnd (F_spec_l13Put p0 r87 y52 0) fun r90 => some r90))))) (fun (r : Gl13Move) => some r))) (bnd (idx p1 1) fun y93 => bnd (idx p1 2) fun y97 => bnd (idx p1 3) fun y101 => bnd (idx p1 0) fun y105 => (cond (decide (y105 = 1)) (bnd (idx p0.Rules y93) fun y112 => bnd (idx y112.Move y97) fun y117 => bnd (idx p1 4) fun y121 => (cond (decide (0 < y121)) (bnd (idx p1 4) fun y126 => bnd (F_spec_l13Go p2 y117 ([1, y93, y97, y101, (w64 (y126 - 1))] : List Int)) fun r131 => some r131) (bnd (F_spec_l13Go (w64 ((Int.tmod p2 p0.Symbols) + p0.Symbols)) (w64 (0 - y117)) ([2, y93, y97, y101, (w64 (p0.Tapes - 1))] : List Int)) fun r142 => some r142))) (cond (decide (y105 = 2)) (bnd (idx p0.Rules y93) fun y148 => bnd (idx y148.Move y97) fun y153 => bnd (idx p1 4) fun y157 => (cond (decide (0 < y157)) (bnd (idx p1 4) fun y162 => bnd (F_spec_l13Go p2 (w64 (0 - y153)) ([2, y93, y97, y101, (w64 (y162 - 1))] : List Int)) fun r167 => some r167) (bnd (F_spec_l13After p0 y93 y97 y101) fun r170 => bnd (F_spec_l13Go p2 (-1) r170) fun r173 => some r173))) (bnd ((cond (decide (p0.Symbols ≤ p2)) (bnd (nneg y97) fun u179 => some (.brk (decide ((iand (Int.fdiv y101 (2 ^ min (y97 : Int).toNat 64)) 1) = 0)))) (some (.brk false))) : Option (Out (Bool) Gl13Move)) (Out.elim (fun (s176 : Bool) => (cond s176 (bnd (F_spec_l13Put p0 y93 y97 y101) fun r182 => some r182) (bnd (F_spec_l13Before p0 y97) fun r185 => bnd (F_spec_l13Go p2 (-1) ([3, y93, r185, y101] : List Int)) fun r188 => some r188))) (fun (r : Gl13Move) => some r)))))))))

noncomputable def F_spec_l13Bits_L1 (p0 : Int) (s1 : Int) : Option ((Int) ⊕ Out (Int) Int) :=
  bnd (nneg s1) fun u3 => (cond (decide ((w64 (1 * 2 ^ min (s1 : Int).toNat 64)) < p0)) (some (.inl (w64 (s1 + 1)))) (some (.inr (.brk s1))))

noncomputable def F_spec_l13Bits (p0 : Int) : Option (Int) :=
  bnd (run (F_spec_l13Bits_L1 p0) 1) (Out.elim (fun (s1 : Int) => some s1) (fun (r : Int) => some r))


noncomputable def F_spec_l13Bit (p0 : Int) (p1 : Int) (p2 : Int) : Option (Int) :=
  bnd (nneg (w64 ((w64 (p1 - 1)) - p2))) fun u1 => some (iand (Int.fdiv p0 (2 ^ min ((w64 ((w64 (p1 - 1)) - p2)) : Int).toNat 64)) 1)


noncomputable def F_spec_l13Binary (p0 : GMachine) (p1 : (List Int)) (p2 : Int) : Option (Gl13Move) :=
  bnd (F_spec_l13Bits p0.Symbols) fun r4 => bnd (idx p1 0) fun y6 => (cond (decide (y6 = 0)) (bnd (idx p1 3) fun y11 => bnd (idx p1 2) fun y15 => (cond (decide (y15 < (w64 (r4 - 1)))) (bnd (idx p1 1) fun y20 => bnd (idx p1 2) fun y24 => bnd (F_spec_l13Go p2 1 ([0, y20, (w64 (y24 + 1)), (w64 ((w64 (2 * y11)) + p2))] : List Int)) fun r32 => some r32) (bnd ((cond (decide (p0.Symbols ≤ (w64 ((w64 (2 * y11)) + p2)))) (some (.ret (⟨false, 0, 0, ([] : (List Int))⟩ : Gl13Move))) (bnd (idx p1 1) fun y42 => bnd (idx p0.Rules (w64 ((w64 (y42 * p0.Symbols)) + (w64 ((w64 (2 * y11)) + p2))))) fun y48 => bnd F_spec_l05None fun r55 => (cond (decide (y48 = r55)) (some (.ret (⟨false, 0, 0, ([] : (List Int))⟩ : Gl13Move))) (some (.brk ()))))) : Option (Out (Unit) Gl13Move)) (Out.elim (fun (s35 : Unit) => bnd (idx p1 1) fun y58 => bnd (idx p0.Rules (w64 ((w64 (y58 * p0.Symbols)) + (w64 ((w64 (2 * y11)) + p2))))) fun y66 => (cond (decide (r4 = 1)) (bnd (F_spec_l13Go y66.Write y66.Move ([0, y66.Next, 0, 0] : List Int)) fun r73 => some r73) (bnd (F_spec_l13Bit y66.Write r4 (w64 (r4 - 1))) fun r76 => bnd (F_spec_l13Go r76 (-1) ([1, (w64 ((w64 (y58 * p0.Symbols)) + (w64 ((w64 (2 * y11)) + p2)))), (w64 (r4 - 2))] : List Int)) fun r79 => some r79))) (fun (r : Gl13Move) => some r))))) (bnd (idx p1 1) fun y84 => bnd (idx p0.Rules y84) fun y88 => bnd (idx p1 0) fun y96 => (cond (decide (y96 = 1)) (bnd (idx p1 2) fun y101 => (cond (decide (0 < y101)) (bnd (bnd (idx p1 1) fun y108 => bnd (F_spec_l13Bit y88.Write r4 y101) fun r115 => bnd (F_spec_l13Go r115 (-1) ([1, y108, (w64 (y101 - 1))] : List Int)) fun r118 => some (.brk (r118.ok, r118.write, r118.move, r118.next)) : Option (Out (Bool × Int × Int × (List Int)) Gl13Move)) (Out.elim (fun (s106 : Bool × Int × Int × (List Int)) => some (⟨s106.1, s106.2.1, s106.2.2.1, s106.2.2.2⟩ : Gl13Move)) (fun (r : Gl13Move) => some r))) (bnd (bnd (idx p1 1) fun y127 => bnd (F_spec_l13Bit y88.Write r4 0) fun r134 => bnd (F_spec_l13Go r134 y88.Move ([2, y127, (w64 (r4 - 1))] : List Int)) fun r137 => some (.brk (r137.ok, r137.write, r137.move, r137.next)) : Option (Out (Bool × Int × Int × (List Int)) Gl13Move)) (Out.elim (fun (s125 : Bool × Int × Int × (List Int)) => some (⟨s125.1, s125.2.1, s125.2.2.1, s125.2.2.2⟩ : Gl13Move)) (fun (r : Gl13Move) => some r))))) (bnd (idx p1 2) fun y144 => (cond (decide (y144 = 1)) (bnd (F_spec_l13Go p2 y88.Move ([0, y88.Next, 0, 0] : List Int)) fun r150 => some r150) (bnd (idx p1 1) fun y153 => bnd (idx p1 2) fun y157 => bnd (F_spec_l13Go p2 y88.Move ([2, y153, (w64 (y157 - 1))] : List Int)) fun r165 => some r165))))))

noncomputable def F_spec_OneTapeMachine_L3 (s21 : (List (List Int)) × (List GRule) × Int) (r31 : Gl13Move) (s56 : Int) : Option ((Int) ⊕ Out (Int) (Option (((List (List Int)) × (List GRule) × Int) ⊕ Out ((List (List Int)) × (List GRule) × Int) (Option (GMachine × Int))))) :=
  (cond (decide (s56 < (s21.1.length : Int))) (bnd (idx s21.1 s56) fun y59 => bnd (F_spec_l00Same y59 r31.next) fun r62 => (cond r62 (some (.inr (.ret (bnd ((cond (decide (s56 < 0)) (cond (decide ((s21.1.length : Int) = 1000)) (some (.ret (some ((⟨0, 0, ([] : (List GRule))⟩ : GMachine), 5)))) (bnd (app s21.1 ([r31.next] : List (List Int))) fun z73 => some (.brk (z73, (s21.1.length : Int))))) (some (.brk (s21.1, s56)))) : Option (Out ((List (List Int)) × Int) (Option (GMachine × Int)))) (Out.elim (fun (s65 : (List (List Int)) × Int) => bnd (app s21.2.1 ([(⟨r31.write, r31.move, s65.2⟩ : GRule)] : List GRule)) fun z84 => some (.inl (s65.1, z84, (w64 (s21.2.2 + 1))))) (fun (r : Option (GMachine × Int)) => some (.inr (.ret r)))))))) (some (.inl (w64 (s56 + 1)))))) (some (.inr (.brk s56))))

noncomputable def F_spec_OneTapeMachine_L2 (p0 : GMulti) (s18 : (List (List Int)) × (List GRule) × Int) (s21 : (List (List Int)) × (List GRule) × Int) : Option (((List (List Int)) × (List GRule) × Int) ⊕ Out ((List (List Int)) × (List GRule) × Int) (Option (GMachine × Int))) :=
  (cond (decide (s21.2.2 < (w64 (2 * p0.Symbols)))) (bnd (idx s21.1 s18.2.2) fun y24 => bnd (F_spec_l13Several p0 y24 s21.2.2) fun r31 => (cond (!r31.ok) (bnd (bnd F_spec_l05None fun r41 => bnd (app s21.2.1 ([r41] : List GRule)) fun z44 => some (.brk z44) : Option (Out ((List GRule)) (Option (GMachine × Int)))) (Out.elim (fun (s36 : (List GRule)) => some (.inl (s21.1, s36, (w64 (s21.2.2 + 1))))) (fun (r : Option (GMachine × Int)) => some (.inr (.ret r))))) (bnd (run (F_spec_OneTapeMachine_L3 s21 r31) 0) (Out.elim (fun (s56 : Int) => bnd ((cond (decide ((s21.1.length : Int) = 1000)) (some (.ret (some ((⟨0, 0, ([] : (List GRule))⟩ : GMachine), 5)))) (bnd (app s21.1 ([r31.next] : List (List Int))) fun z98 => some (.brk (z98, (s21.1.length : Int))))) : Option (Out ((List (List Int)) × Int) (Option (GMachine × Int)))) (Out.elim (fun (s91 : (List (List Int)) × Int) => bnd (app s21.2.1 ([(⟨r31.write, r31.move, s91.2⟩ : GRule)] : List GRule)) fun z109 => some (.inl (s91.1, z109, (w64 (s21.2.2 + 1))))) (fun (r : Option (GMachine × Int)) => some (.inr (.ret r))))) (fun (r : Option (((List (List Int)) × (List GRule) × Int) ⊕ Out ((List (List Int)) × (List GRule) × Int) (Option (GMachine × Int)))) => r))))) (some (.inr (.brk (s21.1, s21.2.1, s21.2.2)))))

noncomputable def F_spec_OneTapeMachine_L1 (p0 : GMulti) (s18 : (List (List Int)) × (List GRule) × Int) : Option (((List (List Int)) × (List GRule) × Int) ⊕ Out ((List (List Int)) × (List GRule) × Int) (Option (GMachine × Int))) :=
  (cond (decide (s18.2.2 < (s18.1.length : Int))) (bnd (run (F_spec_OneTapeMachine_L2 p0 s18) (s18.1, s18.2.1, 0)) (Out.elim (fun (s21 : (List (List Int)) × (List GRule) × Int) => some (.inl (s21.1, s21.2.1, (w64 (s18.2.2 + 1))))) (fun (r : Option (GMachine × Int)) => some (.inr (.ret r))))) (some (.inr (.brk (s18.1, s18.2.1, s18.2.2)))))

noncomputable def F_spec_OneTapeMachine (p0 : GMulti) : Option (GMachine × Int) :=
  bnd (F_spec_l06Is p0) fun r3 => (cond (!r3) (some ((⟨0, 0, ([] : (List GRule))⟩ : GMachine), 1)) (bnd (F_spec_l13Look p0 0) fun r11 => bnd (run (F_spec_OneTapeMachine_L1 p0) (([r11] : List (List Int)), ([] : List GRule), 0)) (Out.elim (fun (s18 : (List (List Int)) × (List GRule) × Int) => some ((⟨(w64 (2 * p0.Symbols)), (s18.1.length : Int), s18.2.1⟩ : GMachine), 0)) (fun (r : Option (GMachine × Int)) => r))))


noncomputable def F_impl_within (p0 : Int) (p1 : Int) (p2 : Int) : Option (Bool) :=
  (cond (decide (p1 ≤ p0)) (some (decide (p0 ≤ p2))) (some false))


noncomputable def F_impl_size_int64 (p0 : (List Int)) : Option (Int) :=
  some (p0.length : Int)

noncomputable def F_impl_allWithin_L1 (p0 : (List Int)) (p1 : Int) (p2 : Int) (s1 : Int) : Option ((Int) ⊕ Out (Int) Bool) :=
  (cond (decide (s1 < (p0.length : Int))) (bnd (idx p0 s1) fun y4 => bnd (F_impl_within y4 p1 p2) fun r8 => (cond (!r8) (some (.inr (.ret false))) (some (.inl (w64 (s1 + 1)))))) (some (.inr (.brk s1))))

noncomputable def F_impl_allWithin (p0 : (List Int)) (p1 : Int) (p2 : Int) : Option (Bool) :=
  bnd (run (F_impl_allWithin_L1 p0 p1 p2) 0) (Out.elim (fun (s1 : Int) => some true) (fun (r : Bool) => some r))


noncomputable def F_impl_validMultiRule (p0 : GMulti) (p1 : GMultiRule) : Option (Bool) :=
  bnd (bnd (F_impl_within p1.State 0 (w64 (p0.States - 1))) fun r5 => (cond (!r5) (some (.ret false)) (bnd (F_impl_within p1.Next 0 (w64 (p0.States - 1))) fun r8 => (cond (!r8) (some (.ret false)) (some (.brk ()))))) : Option (Out (Unit) Bool)) (Out.elim (fun (s3 : Unit) => bnd (bnd (F_impl_size_int64 p1.Read) fun r16 => (cond (decide (r16 ≠ p0.Tapes)) (some (.ret false)) (bnd (F_impl_size_int64 p1.Write) fun r19 => (cond (decide (r19 ≠ p0.Tapes)) (some (.ret false)) (bnd (F_impl_size_int64 p1.Move) fun r22 => (cond (decide (r22 ≠ p0.Tapes)) (some (.ret false)) (some (.brk ()))))))) : Option (Out (Unit) Bool)) (Out.elim (fun (s11 : Unit) => bnd (F_impl_allWithin p1.Read 0 (w64 (p0.Symbols - 1))) fun r25 => (cond r25 (bnd (F_impl_allWithin p1.Write 0 (w64 (p0.Symbols - 1))) fun r28 => (cond r28 (bnd (F_impl_allWithin p1.Move (-1) 1) fun r31 => some r31) (some false))) (some false))) (fun (r : Bool) => some r))) (fun (r : Bool) => some r))


noncomputable def F_cmp_isNaN_int64 (p0 : Int) : Option (Bool) :=
  some (decide (p0 ≠ p0))


noncomputable def F_cmp_Compare_int64 (p0 : Int) (p1 : Int) : Option (Int) :=
  bnd (F_cmp_isNaN_int64 p0) fun r1 => bnd (F_cmp_isNaN_int64 p1) fun r3 => (cond r1 (cond r3 (some 0) (some (-1))) (cond r3 (some 1) (cond (decide (p0 < p1)) (some (-1)) (cond (decide (p1 < p0)) (some 1) (some 0)))))

noncomputable def F_slices_Compare_Sint64_int64_L1 (p0 : (List Int)) (p1 : (List Int)) (s1 : Int) : Option ((Int) ⊕ Out (Int) Int) :=
  (cond (decide (s1 < (p0.length : Int))) (bnd (idx p0 s1) fun y4 => (cond (decide ((p1.length : Int) ≤ s1)) (some (.inr (.ret 1))) (bnd (idx p1 s1) fun y9 => bnd (F_cmp_Compare_int64 y4 y9) fun r13 => (cond (decide (r13 ≠ 0)) (some (.inr (.ret r13))) (some (.inl (w64 (s1 + 1)))))))) (some (.inr (.brk s1))))

noncomputable def F_slices_Compare_Sint64_int64 (p0 : (List Int)) (p1 : (List Int)) : Option (Int) :=
  bnd (run (F_slices_Compare_Sint64_int64_L1 p0 p1) 0) (Out.elim (fun (s1 : Int) => (cond (decide ((p0.length : Int) < (p1.length : Int))) (some (-1)) (some 0))) (fun (r : Int) => some r))


noncomputable def F_impl_compareMultiRules (p0 : GMultiRule) (p1 : GMultiRule) : Option (Int) :=
  (cond (decide (p0.State ≠ p1.State)) (cond (decide (p0.State < p1.State)) (some (-1)) (some 1)) (bnd (F_slices_Compare_Sint64_int64 p0.Read p1.Read) fun r5 => some r5))

noncomputable def F_impl_ValidMulti_L1 (p0 : GMulti) (s14 : Int) : Option ((Int) ⊕ Out (Int) Bool) :=
  (cond (decide (s14 < (p0.Rules.length : Int))) (bnd (idx p0.Rules s14) fun y17 => bnd (F_impl_validMultiRule p0 y17) fun r25 => (cond (!r25) (some (.inr (.ret false))) (cond (decide (0 < s14)) (bnd (idx p0.Rules (w64 (s14 - 1))) fun y29 => bnd (F_impl_compareMultiRules y29 y17) fun r35 => (cond (decide (0 ≤ r35)) (some (.inr (.ret false))) (some (.inl (w64 (s14 + 1)))))) (some (.inl (w64 (s14 + 1))))))) (some (.inr (.brk s14))))

noncomputable def F_impl_ValidMulti (p0 : GMulti) : Option (Bool) :=
  bnd (bnd (F_impl_within p0.Tapes 2 3) fun r4 => (cond (!r4) (some (.ret false)) (bnd (F_impl_within p0.Symbols 2 3) fun r7 => (cond (!r7) (some (.ret false)) (bnd (F_impl_within p0.States 1 16) fun r10 => (cond (!r10) (some (.ret false)) (cond (decide (60 < (p0.Rules.length : Int))) (some (.ret false)) (some (.brk ())))))))) : Option (Out (Unit) Bool)) (Out.elim (fun (s2 : Unit) => bnd (run (F_impl_ValidMulti_L1 p0) 0) (Out.elim (fun (s14 : Int) => some true) (fun (r : Bool) => some r))) (fun (r : Bool) => some r))


noncomputable def F_impl_look (p0 : Int) : Option (GmultiPlace) :=
  some (⟨0, p0, 0, 0, 0, 0, 0, 0⟩ : GmultiPlace)


noncomputable def F_impl_leave (p0 : Int) (p1 : Int) : Option (GmultiPlace) :=
  (cond (decide (p1 = 0)) (bnd (F_impl_look p0) fun r3 => some r3) (some (⟨4, p0, 0, p1, 0, 0, 0, 0⟩ : GmultiPlace)))


noncomputable def F_impl_size_impl_multiPlace (p0 : (List GmultiPlace)) : Option (Int) :=
  some (p0.length : Int)


noncomputable def F_impl_noRule : Option (GRule) :=
  some (⟨0, 0, (-1)⟩ : GRule)

noncomputable def F_impl_OneTapeMachine_L1 (p0 : GMulti) (s15 : List (Greading × Int) × Int) : Option ((List (Greading × Int) × Int) ⊕ Out (List (Greading × Int) × Int) (Option (GMachine × Int))) :=
  (cond (decide (s15.2 < (p0.Rules.length : Int))) (bnd (idx p0.Rules s15.2) fun y18 => some (.inl ((mput s15.1 (⟨y18.State, (y18.Read.getD 0 0), (y18.Read.getD 1 0), (y18.Read.getD 2 0)⟩ : Greading) s15.2), (w64 (s15.2 + 1))))) (some (.inr (.brk (s15.1, s15.2)))))

noncomputable def F_impl_OneTapeMachine_L6 (p0 : GMulti) (s62 : (List GRule) × (List GmultiPlace) × List (GmultiPlace × Int) × Int) (y70 : GmultiPlace) (s107 : Int × Int × Int × Bool × Int) : Option ((Int × Int × Int × Bool × Int) ⊕ Out (Int × Int × Int × Bool × Int) (Option (Int × Int × Int × Int × Int × Int × Int × Int × Int × Int × Bool))) :=
  (cond (decide (s107.2.2.2.2 < p0.Tapes)) (cond s107.2.2.2.1 (bnd (idx ([(if y70.tape = ((0 : Nat) : Int) then (w64 ((w64 (s62.2.2.2 - p0.Symbols)) + 1)) else y70.found_0), (if y70.tape = ((1 : Nat) : Int) then (w64 ((w64 (s62.2.2.2 - p0.Symbols)) + 1)) else y70.found_1), (if y70.tape = ((2 : Nat) : Int) then (w64 ((w64 (s62.2.2.2 - p0.Symbols)) + 1)) else y70.found_2)] : List Int) s107.2.2.2.2) fun y111 => bnd (idx ([s107.1, s107.2.1, s107.2.2.1] : List Int) s107.2.2.2.2) fun y113 => some (.inl ((if s107.2.2.2.2 = ((0 : Nat) : Int) then (if (w64 (y111 - 1)) > 0 then (w64 (y111 - 1)) else 0) else s107.1), (if s107.2.2.2.2 = ((1 : Nat) : Int) then (if (w64 (y111 - 1)) > 0 then (w64 (y111 - 1)) else 0) else s107.2.1), (if s107.2.2.2.2 = ((2 : Nat) : Int) then (if (w64 (y111 - 1)) > 0 then (w64 (y111 - 1)) else 0) else s107.2.2.1), true, (w64 (s107.2.2.2.2 + 1))))) (bnd (idx ([(if y70.tape = ((0 : Nat) : Int) then (w64 ((w64 (s62.2.2.2 - p0.Symbols)) + 1)) else y70.found_0), (if y70.tape = ((1 : Nat) : Int) then (w64 ((w64 (s62.2.2.2 - p0.Symbols)) + 1)) else y70.found_1), (if y70.tape = ((2 : Nat) : Int) then (w64 ((w64 (s62.2.2.2 - p0.Symbols)) + 1)) else y70.found_2)] : List Int) s107.2.2.2.2) fun y115 => bnd (idx ([(if y70.tape = ((0 : Nat) : Int) then (w64 ((w64 (s62.2.2.2 - p0.Symbols)) + 1)) else y70.found_0), (if y70.tape = ((1 : Nat) : Int) then (w64 ((w64 (s62.2.2.2 - p0.Symbols)) + 1)) else y70.found_1), (if y70.tape = ((2 : Nat) : Int) then (w64 ((w64 (s62.2.2.2 - p0.Symbols)) + 1)) else y70.found_2)] : List Int) s107.2.2.2.2) fun y117 => bnd (idx ([s107.1, s107.2.1, s107.2.2.1] : List Int) s107.2.2.2.2) fun y119 => some (.inl ((if s107.2.2.2.2 = ((0 : Nat) : Int) then (if (w64 (y117 - 1)) > 0 then (w64 (y117 - 1)) else 0) else s107.1), (if s107.2.2.2.2 = ((1 : Nat) : Int) then (if (w64 (y117 - 1)) > 0 then (w64 (y117 - 1)) else 0) else s107.2.1), (if s107.2.2.2.2 = ((2 : Nat) : Int) then (if (w64 (y117 - 1)) > 0 then (w64 (y117 - 1)) else 0) else s107.2.2.1), (decide (y115 = 0)), (w64 (s107.2.2.2.2 + 1)))))) (some (.inr (.brk (s107.1, s107.2.1, s107.2.2.1, s107.2.2.2.1, s107.2.2.2.2)))))

noncomputable def F_impl_OneTapeMachine_L7 (p0 : GMulti) (s15 : List (Greading × Int) × Int) (y70 : GmultiPlace) (s107 : Int × Int × Int × Bool × Int) : Option (Int × Int × Int × Int × Int × Int × Int × Int × Int × Int × Bool) :=
  bnd (idx p0.Rules ((mget s15.1 (⟨y70.at_, s107.1, s107.2.1, s107.2.2.1⟩ : Greading)).getD 0)) fun y128 => bnd (nneg y70.tape) fun u133 => bnd (idx y128.Move y70.tape) fun y135 => (cond (decide (y135 = 0)) (bnd (bnd (idx y128.Write y70.tape) fun y142 => bnd (nneg p0.Tapes) fun u152 => (cond (decide ((ior 0 (w64 (1 * 2 ^ min (y70.tape : Int).toNat 64))) = (w64 ((w64 (1 * 2 ^ min (p0.Tapes : Int).toNat 64)) - 1)))) (bnd (idx p0.Rules ((mget s15.1 (⟨y70.at_, s107.1, s107.2.1, s107.2.2.1⟩ : Greading)).getD 0)) fun y155 => bnd (F_impl_leave y155.Next (w64 ((w64 (y70.tape + p0.Tapes)) - 1))) fun r163 => some (.brk ((w64 (y142 + p0.Symbols)), (-1), r163.kind, r163.at_, r163.tape, r163.count, r163.found_0, r163.found_1, r163.found_2, r163.done))) (bnd (nz p0.Tapes) fun u166 => some (.brk ((w64 (y142 + p0.Symbols)), (-1), 3, ((mget s15.1 (⟨y70.at_, s107.1, s107.2.1, s107.2.2.1⟩ : Greading)).getD 0), (Int.tmod (w64 ((w64 (y70.tape + p0.Tapes)) - 1)) p0.Tapes), 0, 0, 0, 0, (ior 0 (w64 (1 * 2 ^ min (y70.tape : Int).toNat 64))))))) : Option (Out (Int × Int × Int × Int × Int × Int × Int × Int × Int × Int) (Option (Int × Int × Int × Int × Int × Int × Int × Int × Int × Int × Bool)))) (Out.elim (fun (s140 : Int × Int × Int × Int × Int × Int × Int × Int × Int × Int) => some (s140.1, s140.2.1, s140.2.2.1, s140.2.2.2.1, s140.2.2.2.2.1, s140.2.2.2.2.2.1, s140.2.2.2.2.2.2.1, s140.2.2.2.2.2.2.2.1, s140.2.2.2.2.2.2.2.2.1, s140.2.2.2.2.2.2.2.2.2, false)) (fun (r : Option (Int × Int × Int × Int × Int × Int × Int × Int × Int × Int × Bool)) => r))) (bnd (idx y128.Write y70.tape) fun y169 => bnd (idx y128.Move y70.tape) fun y173 => some (y169, y173, 1, ((mget s15.1 (⟨y70.at_, s107.1, s107.2.1, s107.2.2.1⟩ : Greading)).getD 0), y70.tape, (w64 (p0.Tapes - 1)), 0, 0, 0, (ior 0 (w64 (1 * 2 ^ min (y70.tape : Int).toNat 64))), false)))

noncomputable def F_impl_OneTapeMachine_L5 (p0 : GMulti) (s15 : List (Greading × Int) × Int) (s62 : (List GRule) × (List GmultiPlace) × List (GmultiPlace × Int) × Int) (y70 : GmultiPlace) : Option (Int × Int × Int × Int × Int × Int × Int × Int × Int × Int × Bool) :=
  bnd (nz p0.Tapes) fun u90 => bnd ((cond (decide (p0.Symbols ≤ s62.2.2.2)) (bnd (idx ([y70.found_0, y70.found_1, y70.found_2] : List Int) y70.tape) fun y98 => some (.brk (decide (y98 = 0)))) (some (.brk false))) : Option (Out (Bool) (Option (Int × Int × Int × Int × Int × Int × Int × Int × Int × Int × Bool)))) (Out.elim (fun (s95 : Bool) => (cond s95 (bnd (idx ([y70.found_0, y70.found_1, y70.found_2] : List Int) y70.tape) fun y101 => bnd (run (F_impl_OneTapeMachine_L6 p0 s62 y70) (0, 0, 0, false, 0)) (Out.elim (fun (s107 : Int × Int × Int × Bool × Int) => (cond (!s107.2.2.2.1) (cond ((mget s15.1 (⟨y70.at_, s107.1, s107.2.1, s107.2.2.1⟩ : Greading)).isSome) (bnd (F_impl_OneTapeMachine_L7 p0 s15 y70 s107) (fun (s124 : Int × Int × Int × Int × Int × Int × Int × Int × Int × Int × Bool) => some (s124.1, s124.2.1, s124.2.2.1, s124.2.2.2.1, s124.2.2.2.2.1, s124.2.2.2.2.2.1, s124.2.2.2.2.2.2.1, s124.2.2.2.2.2.2.2.1, s124.2.2.2.2.2.2.2.2.1, s124.2.2.2.2.2.2.2.2.2.1, s124.2.2.2.2.2.2.2.2.2.2))) (some (0, 0, 0, 0, 0, 0, 0, 0, 0, 0, true))) (some (s62.2.2.2, 1, y70.kind, y70.at_, (Int.tmod (w64 (y70.tape + 1)) p0.Tapes), y70.count, (if y70.tape = ((0 : Nat) : Int) then (w64 ((w64 (s62.2.2.2 - p0.Symbols)) + 1)) else y70.found_0), (if y70.tape = ((1 : Nat) : Int) then (w64 ((w64 (s62.2.2.2 - p0.Symbols)) + 1)) else y70.found_1), (if y70.tape = ((2 : Nat) : Int) then (w64 ((w64 (s62.2.2.2 - p0.Symbols)) + 1)) else y70.found_2), y70.done, false)))) (fun (r : Option (Int × Int × Int × Int × Int × Int × Int × Int × Int × Int × Bool)) => r))) (some (s62.2.2.2, 1, y70.kind, y70.at_, (Int.tmod (w64 (y70.tape + 1)) p0.Tapes), y70.count, y70.found_0, y70.found_1, y70.found_2, y70.done, false)))) (fun (r : Option (Int × Int × Int × Int × Int × Int × Int × Int × Int × Int × Bool)) => r))

noncomputable def F_impl_OneTapeMachine_L8 (p0 : GMulti) (y70 : GmultiPlace) : Option (Int × Int × Int × Int × Int × Int × Int × Int × Int × Int × Bool) :=
  bnd (idx p0.Rules y70.at_) fun y195 => bnd (nneg y70.tape) fun u200 => bnd (idx y195.Move y70.tape) fun y202 => (cond (decide (y202 = 0)) (bnd (bnd (idx y195.Write y70.tape) fun y209 => bnd (nneg p0.Tapes) fun u219 => (cond (decide ((ior y70.done (w64 (1 * 2 ^ min (y70.tape : Int).toNat 64))) = (w64 ((w64 (1 * 2 ^ min (p0.Tapes : Int).toNat 64)) - 1)))) (bnd (idx p0.Rules y70.at_) fun y222 => bnd (F_impl_leave y222.Next (w64 ((w64 (y70.tape + p0.Tapes)) - 1))) fun r230 => some (.brk ((w64 (y209 + p0.Symbols)), (-1), r230.kind, r230.at_, r230.tape, r230.count, r230.found_0, r230.found_1, r230.found_2, r230.done))) (bnd (nz p0.Tapes) fun u233 => some (.brk ((w64 (y209 + p0.Symbols)), (-1), 3, y70.at_, (Int.tmod (w64 ((w64 (y70.tape + p0.Tapes)) - 1)) p0.Tapes), 0, 0, 0, 0, (ior y70.done (w64 (1 * 2 ^ min (y70.tape : Int).toNat 64))))))) : Option (Out (Int × Int × Int × Int × Int × Int × Int × Int × Int × Int) (Option (Int × Int × Int × Int × Int × Int × Int × Int × Int × Int × Bool)))) (Out.elim (fun (s207 : Int × Int × Int × Int × Int × Int × Int × Int × Int × Int) => some (s207.1, s207.2.1, s207.2.2.1, s207.2.2.2.1, s207.2.2.2.2.1, s207.2.2.2.2.2.1, s207.2.2.2.2.2.2.1, s207.2.2.2.2.2.2.2.1, s207.2.2.2.2.2.2.2.2.1, s207.2.2.2.2.2.2.2.2.2, false)) (fun (r : Option (Int × Int × Int × Int × Int × Int × Int × Int × Int × Int × Bool)) => r))) (bnd (idx y195.Write y70.tape) fun y236 => bnd (idx y195.Move y70.tape) fun y240 => some (y236, y240, 1, y70.at_, y70.tape, (w64 (p0.Tapes - 1)), 0, 0, 0, (ior y70.done (w64 (1 * 2 ^ min (y70.tape : Int).toNat 64))), false)))

noncomputable def F_impl_OneTapeMachine_L9 (p0 : GMulti) (y70 : GmultiPlace) : Option (Int × Int × Int × Int × Int × Int × Int × Int) :=
  bnd (nneg p0.Tapes) fun u278 => (cond (decide (y70.done = (w64 ((w64 (1 * 2 ^ min (p0.Tapes : Int).toNat 64)) - 1)))) (bnd (idx p0.Rules y70.at_) fun y281 => bnd (F_impl_leave y281.Next (w64 ((w64 (y70.tape + p0.Tapes)) - 1))) fun r289 => some (r289.kind, r289.at_, r289.tape, r289.count, r289.found_0, r289.found_1, r289.found_2, r289.done)) (bnd (nz p0.Tapes) fun u292 => some (3, y70.at_, (Int.tmod (w64 ((w64 (y70.tape + p0.Tapes)) - 1)) p0.Tapes), 0, 0, 0, 0, y70.done)))

noncomputable def F_impl_OneTapeMachine_L4 (p0 : GMulti) (s15 : List (Greading × Int) × Int) (s62 : (List GRule) × (List GmultiPlace) × List (GmultiPlace × Int) × Int) (y70 : GmultiPlace) : Option (Int × Int × Int × Int × Int × Int × Int × Int × Int × Int × Bool) :=
  (cond (decide (y70.kind = 0)) (bnd (F_impl_OneTapeMachine_L5 p0 s15 s62 y70) (fun (s84 : Int × Int × Int × Int × Int × Int × Int × Int × Int × Int × Bool) => some (s84.1, s84.2.1, s84.2.2.1, s84.2.2.2.1, s84.2.2.2.2.1, s84.2.2.2.2.2.1, s84.2.2.2.2.2.2.1, s84.2.2.2.2.2.2.2.1, s84.2.2.2.2.2.2.2.2.1, s84.2.2.2.2.2.2.2.2.2.1, s84.2.2.2.2.2.2.2.2.2.2))) (cond (decide (y70.kind = 4)) (bnd (F_impl_leave y70.at_ (w64 (y70.count - 1))) fun r181 => some (s62.2.2.2, (-1), r181.kind, r181.at_, r181.tape, r181.count, r181.found_0, r181.found_1, r181.found_2, r181.done, false)) (cond (decide (y70.kind = 3)) (bnd ((cond (decide (p0.Symbols ≤ s62.2.2.2)) (bnd (nneg y70.tape) fun u187 => (cond (decide ((iand (Int.fdiv y70.done (2 ^ min (y70.tape : Int).toNat 64)) 1) = 0)) (bnd (F_impl_OneTapeMachine_L8 p0 y70) (fun (s191 : Int × Int × Int × Int × Int × Int × Int × Int × Int × Int × Bool) => some (.ret (some (s191.1, s191.2.1, s191.2.2.1, s191.2.2.2.1, s191.2.2.2.2.1, s191.2.2.2.2.2.1, s191.2.2.2.2.2.2.1, s191.2.2.2.2.2.2.2.1, s191.2.2.2.2.2.2.2.2.1, s191.2.2.2.2.2.2.2.2.2.1, s191.2.2.2.2.2.2.2.2.2.2))))) (some (.brk ())))) (some (.brk ()))) : Option (Out (Unit) (Option (Int × Int × Int × Int × Int × Int × Int × Int × Int × Int × Bool)))) (Out.elim (fun (s184 : Unit) => bnd (nz p0.Tapes) fun u248 => some (s62.2.2.2, (-1), y70.kind, y70.at_, (Int.tmod (w64 ((w64 (y70.tape + p0.Tapes)) - 1)) p0.Tapes), 0, y70.found_0, y70.found_1, y70.found_2, y70.done, false)) (fun (r : Option (Int × Int × Int × Int × Int × Int × Int × Int × Int × Int × Bool)) => r))) (bnd (idx p0.Rules y70.at_) fun y250 => bnd (idx y250.Move y70.tape) fun y255 => bnd ((cond (decide (y70.kind = 1)) (some (.brk (decide (0 < y70.count)))) (some (.brk false))) : Option (Out (Bool) (Option (Int × Int × Int × Int × Int × Int × Int × Int × Int × Int × Bool)))) (Out.elim (fun (s259 : Bool) => (cond s259 (some (s62.2.2.2, y255, y70.kind, y70.at_, y70.tape, (w64 (y70.count - 1)), y70.found_0, y70.found_1, y70.found_2, y70.done, false)) (cond (decide (y70.kind = 1)) (bnd (nz p0.Symbols) fun u267 => some ((w64 ((Int.tmod s62.2.2.2 p0.Symbols) + p0.Symbols)), (w64 (0 - y255)), 2, y70.at_, y70.tape, (w64 (p0.Tapes - 1)), y70.found_0, y70.found_1, y70.found_2, y70.done, false)) (cond (decide (0 < y70.count)) (some (s62.2.2.2, (w64 (0 - y255)), y70.kind, y70.at_, y70.tape, (w64 (y70.count - 1)), y70.found_0, y70.found_1, y70.found_2, y70.done, false)) (bnd (F_impl_OneTapeMachine_L9 p0 y70) (fun (s274 : Int × Int × Int × Int × Int × Int × Int × Int) => some (s62.2.2.2, (-1), s274.1, s274.2.1, s274.2.2.1, s274.2.2.2.1, s274.2.2.2.2.1, s274.2.2.2.2.2.1, s274.2.2.2.2.2.2.1, s274.2.2.2.2.2.2.2, false))))))) (fun (r : Option (Int × Int × Int × Int × Int × Int × Int × Int × Int × Int × Bool)) => r))))))

noncomputable def F_impl_OneTapeMachine_L3 (p0 : GMulti) (s15 : List (Greading × Int) × Int) (s59 : (List GRule) × (List GmultiPlace) × List (GmultiPlace × Int) × Int) (s62 : (List GRule) × (List GmultiPlace) × List (GmultiPlace × Int) × Int) : Option (((List GRule) × (List GmultiPlace) × List (GmultiPlace × Int) × Int) ⊕ Out ((List GRule) × (List GmultiPlace) × List (GmultiPlace × Int) × Int) (Option (GMachine × Int))) :=
  (cond (decide (s62.2.2.2 < (w64 (2 * p0.Symbols)))) (bnd F_impl_noRule fun r65 => bnd (bnd (idx s62.2.1 s59.2.2.2) fun y70 => bnd (F_impl_OneTapeMachine_L4 p0 s15 s62 y70) (fun (s76 : Int × Int × Int × Int × Int × Int × Int × Int × Int × Int × Bool) => (cond (!s76.2.2.2.2.2.2.2.2.2.2) (cond (!((mget s62.2.2.1 (⟨s76.2.2.1, s76.2.2.2.1, s76.2.2.2.2.1, s76.2.2.2.2.2.1, s76.2.2.2.2.2.2.1, s76.2.2.2.2.2.2.2.1, s76.2.2.2.2.2.2.2.2.1, s76.2.2.2.2.2.2.2.2.2.1⟩ : GmultiPlace)).isSome)) (bnd (F_impl_size_impl_multiPlace s62.2.1) fun r303 => bnd (app s62.2.1 ([(⟨s76.2.2.1, s76.2.2.2.1, s76.2.2.2.2.1, s76.2.2.2.2.2.1, s76.2.2.2.2.2.2.1, s76.2.2.2.2.2.2.2.1, s76.2.2.2.2.2.2.2.2.1, s76.2.2.2.2.2.2.2.2.2.1⟩ : GmultiPlace)] : List GmultiPlace)) fun z312 => some (.brk (z312, (mput s62.2.2.1 (⟨s76.2.2.1, s76.2.2.2.1, s76.2.2.2.2.1, s76.2.2.2.2.2.1, s76.2.2.2.2.2.2.1, s76.2.2.2.2.2.2.2.1, s76.2.2.2.2.2.2.2.2.1, s76.2.2.2.2.2.2.2.2.2.1⟩ : GmultiPlace) r303), s76.1, s76.2.1, r303))) (some (.brk (s62.2.1, s62.2.2.1, s76.1, s76.2.1, ((mget s62.2.2.1 (⟨s76.2.2.1, s76.2.2.2.1, s76.2.2.2.2.1, s76.2.2.2.2.2.1, s76.2.2.2.2.2.2.1, s76.2.2.2.2.2.2.2.1, s76.2.2.2.2.2.2.2.2.1, s76.2.2.2.2.2.2.2.2.2.1⟩ : GmultiPlace)).getD 0))))) (some (.brk (s62.2.1, s62.2.2.1, r65.Write, r65.Move, r65.Next))))) : Option (Out ((List GmultiPlace) × List (GmultiPlace × Int) × Int × Int × Int) (Option (GMachine × Int)))) (Out.elim (fun (s68 : (List GmultiPlace) × List (GmultiPlace × Int) × Int × Int × Int) => bnd (app s62.1 ([(⟨s68.2.2.1, s68.2.2.2.1, s68.2.2.2.2⟩ : GRule)] : List GRule)) fun z323 => some (.inl (z323, s68.1, s68.2.1, (w64 (s62.2.2.2 + 1))))) (fun (r : Option (GMachine × Int)) => some (.inr (.ret r))))) (some (.inr (.brk (s62.1, s62.2.1, s62.2.2.1, s62.2.2.2)))))

noncomputable def F_impl_OneTapeMachine_L2 (p0 : GMulti) (s15 : List (Greading × Int) × Int) (s59 : (List GRule) × (List GmultiPlace) × List (GmultiPlace × Int) × Int) : Option (((List GRule) × (List GmultiPlace) × List (GmultiPlace × Int) × Int) ⊕ Out ((List GRule) × (List GmultiPlace) × List (GmultiPlace × Int) × Int) (Option (GMachine × Int))) :=
  (cond (decide (s59.2.2.2 < (s59.2.1.length : Int))) (bnd (run (F_impl_OneTapeMachine_L3 p0 s15 s59) (s59.1, s59.2.1, s59.2.2.1, 0)) (Out.elim (fun (s62 : (List GRule) × (List GmultiPlace) × List (GmultiPlace × Int) × Int) => (cond (decide (1000 < (s62.2.1.length : Int))) (some (.inr (.ret (some ((⟨0, 0, ([] : (List GRule))⟩ : GMachine), 5))))) (some (.inl (s62.1, s62.2.1, s62.2.2.1, (w64 (s59.2.2.2 + 1))))))) (fun (r : Option (GMachine × Int)) => some (.inr (.ret r))))) (some (.inr (.brk (s59.1, s59.2.1, s59.2.2.1, s59.2.2.2)))))

noncomputable def F_impl_OneTapeMachine (p0 : GMulti) : Option (GMachine × Int) :=
  bnd (F_impl_ValidMulti p0) fun r3 => (cond (!r3) (some ((⟨0, 0, ([] : (List GRule))⟩ : GMachine), 1)) (bnd (run (F_impl_OneTapeMachine_L1 p0) (([] : List (Greading × Int)), 0)) (Out.elim (fun (s15 : List (Greading × Int) × Int) => bnd (F_impl_look 0) fun r31 => bnd ((cond (!((mget ([] : List (GmultiPlace × Int)) r31).isSome)) (bnd (F_impl_size_impl_multiPlace ([] : (List GmultiPlace))) fun r43 => bnd (app ([] : (List GmultiPlace)) ([r31] : List GmultiPlace)) fun z52 => some (.brk (r43, z52, (mput ([] : List (GmultiPlace × Int)) r31 r43)))) (some (.brk (((mget ([] : List (GmultiPlace × Int)) r31).getD 0), ([] : (List GmultiPlace)), ([] : List (GmultiPlace × Int)))))) : Option (Out (Int × (List GmultiPlace) × List (GmultiPlace × Int)) (Option (GMachine × Int)))) (Out.elim (fun (s40 : Int × (List GmultiPlace) × List (GmultiPlace × Int)) => bnd (run (F_impl_OneTapeMachine_L2 p0 s15) (([] : (List GRule)), s40.2.1, s40.2.2, 0)) (Out.elim (fun (s59 : (List GRule) × (List GmultiPlace) × List (GmultiPlace × Int) × Int) => bnd (F_impl_size_impl_multiPlace s59.2.1) fun r333 => some ((⟨(w64 (2 * p0.Symbols)), r333, s59.1⟩ : GMachine), 0)) (fun (r : Option (GMachine × Int)) => r))) (fun (r : Option (GMachine × Int)) => r))) (fun (r : Option (GMachine × Int)) => r))))


noncomputable def F_laws_eqRule (p0 : GRule) (p1 : GRule) : Option (Bool) :=
  (cond (decide (p0.Write ≠ p1.Write)) (some false) (cond (decide (p0.Move ≠ p1.Move)) (some false) (cond (decide (p0.Next ≠ p1.Next)) (some false) (some true))))

noncomputable def F_laws_eqRuleS_L1 (p0 : (List GRule)) (p1 : (List GRule)) (s2 : Int) : Option ((Int) ⊕ Out (Int) Bool) :=
  (cond (decide (s2 < (p0.length : Int))) (bnd (idx p0 s2) fun y5 => bnd (idx p1 s2) fun y9 => bnd (F_laws_eqRule y5 y9) fun r16 => (cond (!r16) (some (.inr (.ret false))) (some (.inl (w64 (s2 + 1)))))) (some (.inr (.brk s2))))

noncomputable def F_laws_eqRuleS (p0 : (List GRule)) (p1 : (List GRule)) : Option (Bool) :=
  (cond (decide ((p0.length : Int) ≠ (p1.length : Int))) (some false) (bnd (run (F_laws_eqRuleS_L1 p0 p1) 0) (Out.elim (fun (s2 : Int) => some true) (fun (r : Bool) => some r))))


noncomputable def F_laws_eqMachine (p0 : GMachine) (p1 : GMachine) : Option (Bool) :=
  (cond (decide (p0.Symbols ≠ p1.Symbols)) (some false) (cond (decide (p0.States ≠ p1.States)) (some false) (bnd (F_laws_eqRuleS p0.Rules p1.Rules) fun r5 => (cond (!r5) (some false) (some true)))))

noncomputable def F_laws_eqInt64S_L1 (p0 : (List Int)) (p1 : (List Int)) (s2 : Int) : Option ((Int) ⊕ Out (Int) Bool) :=
  (cond (decide (s2 < (p0.length : Int))) (bnd (idx p0 s2) fun y5 => bnd (idx p1 s2) fun y9 => (cond (decide (y5 ≠ y9)) (some (.inr (.ret false))) (some (.inl (w64 (s2 + 1)))))) (some (.inr (.brk s2))))

noncomputable def F_laws_eqInt64S (p0 : (List Int)) (p1 : (List Int)) : Option (Bool) :=
  (cond (decide ((p0.length : Int) ≠ (p1.length : Int))) (some false) (bnd (run (F_laws_eqInt64S_L1 p0 p1) 0) (Out.elim (fun (s2 : Int) => some true) (fun (r : Bool) => some r))))


noncomputable def F_laws_eqMultiRule (p0 : GMultiRule) (p1 : GMultiRule) : Option (Bool) :=
  (cond (decide (p0.State ≠ p1.State)) (some false) (bnd (F_laws_eqInt64S p0.Read p1.Read) fun r4 => (cond (!r4) (some false) (bnd (F_laws_eqInt64S p0.Write p1.Write) fun r7 => (cond (!r7) (some false) (bnd (F_laws_eqInt64S p0.Move p1.Move) fun r10 => (cond (!r10) (some false) (cond (decide (p0.Next ≠ p1.Next)) (some false) (some true)))))))))

noncomputable def F_laws_eqMultiRuleS_L1 (p0 : (List GMultiRule)) (p1 : (List GMultiRule)) (s2 : Int) : Option ((Int) ⊕ Out (Int) Bool) :=
  (cond (decide (s2 < (p0.length : Int))) (bnd (idx p0 s2) fun y5 => bnd (idx p1 s2) fun y9 => bnd (F_laws_eqMultiRule y5 y9) fun r16 => (cond (!r16) (some (.inr (.ret false))) (some (.inl (w64 (s2 + 1)))))) (some (.inr (.brk s2))))

noncomputable def F_laws_eqMultiRuleS (p0 : (List GMultiRule)) (p1 : (List GMultiRule)) : Option (Bool) :=
  (cond (decide ((p0.length : Int) ≠ (p1.length : Int))) (some false) (bnd (run (F_laws_eqMultiRuleS_L1 p0 p1) 0) (Out.elim (fun (s2 : Int) => some true) (fun (r : Bool) => some r))))


noncomputable def F_laws_eqMulti (p0 : GMulti) (p1 : GMulti) : Option (Bool) :=
  (cond (decide (p0.Tapes ≠ p1.Tapes)) (some false) (cond (decide (p0.Symbols ≠ p1.Symbols)) (some false) (cond (decide (p0.States ≠ p1.States)) (some false) (bnd (F_laws_eqMultiRuleS p0.Rules p1.Rules) fun r6 => (cond (!r6) (some false) (some true))))))

noncomputable def F_laws_markInt64S_L1 (s1 : (List Int) × Int × Int) : Option (((List Int) × Int × Int) ⊕ Out ((List Int) × Int × Int) (Int × (List Int))) :=
  (cond (decide (s1.2.2 < (s1.1.length : Int))) (bnd (idx s1.1 s1.2.2) fun y4 => some (.inl ((s1.1.set s1.2.2.toNat s1.2.1), (w64 (s1.2.1 + 1)), (w64 (s1.2.2 + 1))))) (some (.inr (.brk (s1.1, s1.2.1, s1.2.2)))))

noncomputable def F_laws_markInt64S (p0 : (List Int)) (p1 : Int) : Option (Int × (List Int)) :=
  bnd (run (F_laws_markInt64S_L1) (p0, p1, 0)) (Out.elim (fun (s1 : (List Int) × Int × Int) => some (s1.2.1, s1.1)) (fun (r : Int × (List Int)) => some r))

noncomputable def F_laws_markMultiRuleS_L1 (s1 : (List GMultiRule) × Int × Int) : Option (((List GMultiRule) × Int × Int) ⊕ Out ((List GMultiRule) × Int × Int) (Int × (List GMultiRule))) :=
  (cond (decide (s1.2.2 < (s1.1.length : Int))) (bnd (idx s1.1 s1.2.2) fun y4 => bnd (idx (s1.1.set s1.2.2.toNat (⟨s1.2.1, y4.Read, y4.Write, y4.Move, y4.Next⟩ : GMultiRule)) s1.2.2) fun y9 => bnd (F_laws_markInt64S y9.Read (w64 (s1.2.1 + 1))) fun r12 => bnd (idx ((s1.1.set s1.2.2.toNat (⟨s1.2.1, y4.Read, y4.Write, y4.Move, y4.Next⟩ : GMultiRule)).set s1.2.2.toNat (⟨y9.State, r12.2, y9.Write, y9.Move, y9.Next⟩ : GMultiRule)) s1.2.2) fun y14 => bnd (F_laws_markInt64S y14.Write r12.1) fun r17 => bnd (idx (((s1.1.set s1.2.2.toNat (⟨s1.2.1, y4.Read, y4.Write, y4.Move, y4.Next⟩ : GMultiRule)).set s1.2.2.toNat (⟨y9.State, r12.2, y9.Write, y9.Move, y9.Next⟩ : GMultiRule)).set s1.2.2.toNat (⟨y14.State, y14.Read, r17.2, y14.Move, y14.Next⟩ : GMultiRule)) s1.2.2) fun y19 => bnd (F_laws_markInt64S y19.Move r17.1) fun r22 => bnd (idx ((((s1.1.set s1.2.2.toNat (⟨s1.2.1, y4.Read, y4.Write, y4.Move, y4.Next⟩ : GMultiRule)).set s1.2.2.toNat (⟨y9.State, r12.2, y9.Write, y9.Move, y9.Next⟩ : GMultiRule)).set s1.2.2.toNat (⟨y14.State, y14.Read, r17.2, y14.Move, y14.Next⟩ : GMultiRule)).set s1.2.2.toNat (⟨y19.State, y19.Read, y19.Write, r22.2, y19.Next⟩ : GMultiRule)) s1.2.2) fun y24 => some (.inl ((((((s1.1.set s1.2.2.toNat (⟨s1.2.1, y4.Read, y4.Write, y4.Move, y4.Next⟩ : GMultiRule)).set s1.2.2.toNat (⟨y9.State, r12.2, y9.Write, y9.Move, y9.Next⟩ : GMultiRule)).set s1.2.2.toNat (⟨y14.State, y14.Read, r17.2, y14.Move, y14.Next⟩ : GMultiRule)).set s1.2.2.toNat (⟨y19.State, y19.Read, y19.Write, r22.2, y19.Next⟩ : GMultiRule)).set s1.2.2.toNat (⟨y24.State, y24.Read, y24.Write, y24.Move, r22.1⟩ : GMultiRule)), (w64 (r22.1 + 1)), (w64 (s1.2.2 + 1))))) (some (.inr (.brk (s1.1, s1.2.1, s1.2.2)))))

noncomputable def F_laws_markMultiRuleS (p0 : (List GMultiRule)) (p1 : Int) : Option (Int × (List GMultiRule)) :=
  bnd (run (F_laws_markMultiRuleS_L1) (p0, p1, 0)) (Out.elim (fun (s1 : (List GMultiRule) × Int × Int) => some (s1.2.1, s1.1)) (fun (r : Int × (List GMultiRule)) => some r))

noncomputable def F_laws_markRuleS_L1 (s1 : (List GRule) × Int × Int) : Option (((List GRule) × Int × Int) ⊕ Out ((List GRule) × Int × Int) (Int × (List GRule))) :=
  (cond (decide (s1.2.2 < (s1.1.length : Int))) (bnd (idx s1.1 s1.2.2) fun y4 => bnd (idx (s1.1.set s1.2.2.toNat (⟨s1.2.1, y4.Move, y4.Next⟩ : GRule)) s1.2.2) fun y9 => bnd (idx ((s1.1.set s1.2.2.toNat (⟨s1.2.1, y4.Move, y4.Next⟩ : GRule)).set s1.2.2.toNat (⟨y9.Write, (w64 (s1.2.1 + 1)), y9.Next⟩ : GRule)) s1.2.2) fun y11 => some (.inl ((((s1.1.set s1.2.2.toNat (⟨s1.2.1, y4.Move, y4.Next⟩ : GRule)).set s1.2.2.toNat (⟨y9.Write, (w64 (s1.2.1 + 1)), y9.Next⟩ : GRule)).set s1.2.2.toNat (⟨y11.Write, y11.Move, (w64 ((w64 (s1.2.1 + 1)) + 1))⟩ : GRule)), (w64 ((w64 ((w64 (s1.2.1 + 1)) + 1)) + 1)), (w64 (s1.2.2 + 1))))) (some (.inr (.brk (s1.1, s1.2.1, s1.2.2)))))

noncomputable def F_laws_markRuleS (p0 : (List GRule)) (p1 : Int) : Option (Int × (List GRule)) :=
  bnd (run (F_laws_markRuleS_L1) (p0, p1, 0)) (Out.elim (fun (s1 : (List GRule) × Int × Int) => some (s1.2.1, s1.1)) (fun (r : Int × (List GRule)) => some r))

noncomputable def F_laws_heldRuleS_L1 (p0 : (List GRule)) (s1 : Int × Int) : Option ((Int × Int) ⊕ Out (Int × Int) Int) :=
  (cond (decide (s1.2 < (p0.length : Int))) (bnd (idx p0 s1.2) fun y4 => (cond (decide (y4.Write ≠ s1.1)) (some (.inr (.ret (-1)))) (bnd (idx p0 s1.2) fun y10 => (cond (decide (y10.Move ≠ (w64 (s1.1 + 1)))) (some (.inr (.ret (-1)))) (bnd (idx p0 s1.2) fun y16 => (cond (decide (y16.Next ≠ (w64 ((w64 (s1.1 + 1)) + 1)))) (some (.inr (.ret (-1)))) (some (.inl ((w64 ((w64 ((w64 (s1.1 + 1)) + 1)) + 1)), (w64 (s1.2 + 1))))))))))) (some (.inr (.brk (s1.1, s1.2)))))

noncomputable def F_laws_heldRuleS (p0 : (List GRule)) (p1 : Int) : Option (Int) :=
  bnd (run (F_laws_heldRuleS_L1 p0) (p1, 0)) (Out.elim (fun (s1 : Int × Int) => some s1.1) (fun (r : Int) => some r))


noncomputable def F_laws_heldMachine (p0 : GMachine) (p1 : Int) : Option (Int) :=
  bnd (F_laws_heldRuleS p0.Rules p1) fun r2 => (cond (decide (r2 < 0)) (some (-1)) (some r2))


noncomputable def F_laws_FnExactOneTapeMachine (p0 : GMulti) : Option (Bool) :=
  bnd (F_laws_szMulti p0 1048576) fun r2 => (cond (decide (r2 < 0)) (some true) (bnd (F_laws_toMulti p0) fun r5 => bnd (F_spec_OneTapeMachine r5) fun r8 => bnd (F_laws_toMulti p0) fun r12 => bnd (F_impl_OneTapeMachine r12) fun r16 => bnd (bnd (F_laws_eqMachine r16.1 r8.1) fun r22 => (cond (!r22) (some (.ret false)) (cond (decide (r16.2 ≠ r8.2)) (some (.ret false)) (some (.brk ())))) : Option (Out (Unit) Bool)) (Out.elim (fun (s20 : Unit) => bnd (F_laws_toMulti p0) fun r29 => bnd (F_laws_eqMulti r12 r29) fun r32 => (cond (!r32) (some false) (bnd (F_laws_markMultiRuleS r12.Rules 1) fun r37 => bnd ((cond (decide (r37.1 < 0)) (some (.ret false)) (bnd (F_laws_eqMachine r16.1 r8.1) fun r42 => (cond (!r42) (some (.ret false)) (cond (decide (r16.2 ≠ r8.2)) (some (.ret false)) (some (.brk ())))))) : Option (Out (Unit) Bool)) (Out.elim (fun (s39 : Unit) => bnd (F_laws_markRuleS r16.1.Rules 1) fun r48 => bnd (F_laws_heldMachine (⟨r16.1.Symbols, r16.1.States, r48.2⟩ : GMachine) 1) fun r50 => (cond (decide (r50 < 0)) (some false) (cond (decide (r50 ≠ r48.1)) (some false) (bnd (F_laws_toMulti p0) fun r54 => bnd (F_impl_OneTapeMachine r54) fun r57 => bnd (F_laws_eqMachine r57.1 r8.1) fun r61 => (cond (!r61) (some false) (cond (decide (r57.2 ≠ r8.2)) (some false) (bnd (F_laws_heldMachine (⟨r16.1.Symbols, r16.1.States, r48.2⟩ : GMachine) 1) fun r65 => (cond (decide (r65 < 0)) (some false) (cond (decide (r65 ≠ r48.1)) (some false) (some true)))))))))) (fun (r : Bool) => some r))))) (fun (r : Bool) => some r))))

end Go.Fn
