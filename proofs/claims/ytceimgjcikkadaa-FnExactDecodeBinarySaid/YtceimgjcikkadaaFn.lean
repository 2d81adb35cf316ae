/-
  What each function of the program computes, as a plain Lean function: printed by program off the translation. No condition.
-/
import Derived.Test.YtceimgjcikkadaaTy
namespace Go.Fn
open Go Go.Tc
set_option linter.unusedVariables false

noncomputable def F_laws_szRuleS (p0 : (List GRule)) (p1 : Int) : Option (Int) :=
  (cond (decide ((w64 (p1 - (p0.length : Int))) < 0)) (some (-1)) (some (w64 (p1 - (p0.length : Int)))))


noncomputable def F_laws_szMachine (p0 : GMachine) (p1 : Int) : Option (Int) :=
  bnd (F_laws_szRuleS p0.Rules p1) fun r2 => (cond (decide (r2 < 0)) (some (-1)) (some r2))


noncomputable def F_laws_toRule (p0 : GRule) : Option (GRule) :=
  some p0

noncomputable def F_laws_toRuleS_L1 (p0 : (List GRule)) (s4 : (List GRule) × Int) : Option (((List GRule) × Int) ⊕ Out ((List GRule) × Int) (List GRule)) :=
  (cond (decide (s4.2 < (p0.length : Int))) (bnd (idx p0 s4.2) fun y7 => bnd (F_laws_toRule y7) fun r11 => bnd (idx s4.1 s4.2) fun y13 => some (.inl ((s4.1.set s4.2.toNat r11), (w64 (s4.2 + 1))))) (some (.inr (.brk (s4.1, s4.2)))))

noncomputable def F_laws_toRuleS (p0 : (List GRule)) : Option ((List GRule)) :=
  bnd (mke (p0.length : Int) (⟨(0 : Int), (0 : Int), (0 : Int)⟩ : GRule)) fun z1 => bnd (run (F_laws_toRuleS_L1 p0) (z1, 0)) (Out.elim (fun (s4 : (List GRule) × Int) => some s4.1) (fun (r : (List GRule)) => some r))


noncomputable def F_laws_toMachine (p0 : GMachine) : Option (GMachine) :=
  bnd (F_laws_toRuleS p0.Rules) fun r4 => some (⟨p0.Symbols, p0.States, r4⟩ : GMachine)


noncomputable def F_spec_l00In (p0 : Int) (p1 : Int) (p2 : Int) : Option (Bool) :=
  (cond (decide (p1 ≤ p0)) (some (decide (p0 ≤ p2))) (some false))


noncomputable def F_spec_l05None : Option (GRule) :=
  some (⟨0, 0, (-1)⟩ : GRule)


noncomputable def F_spec_l05Rule (p0 : GRule) (p1 : Int) (p2 : Int) : Option (Bool) :=
  bnd F_spec_l05None fun r5 => (cond (decide (p0 = r5)) (some true) (bnd (F_spec_l00In p0.Write 0 (w64 (p1 - 1))) fun r8 => (cond r8 (cond (decide (p0.Move = 1)) (bnd (F_spec_l00In p0.Next 0 (w64 (p2 - 1))) fun r12 => some r12) (cond (decide (p0.Move = (-1))) (bnd (F_spec_l00In p0.Next 0 (w64 (p2 - 1))) fun r15 => some r15) (some false))) (some false))))

noncomputable def F_spec_l05Is_L1 (p0 : GMachine) (s31 : Int) : Option ((Int) ⊕ Out (Int) Bool) :=
  (cond (decide (s31 < (p0.Rules.length : Int))) (bnd (idx p0.Rules s31) fun y38 => bnd (F_spec_l05Rule y38 p0.Symbols p0.States) fun r49 => (cond (!r49) (some (.inr (.ret false))) (some (.inl (w64 (s31 + 1)))))) (some (.inr (.brk s31))))

noncomputable def F_spec_l05Is (p0 : GMachine) : Option (Bool) :=
  bnd (bnd (F_spec_l00In p0.Symbols 2 6) fun r8 => (cond (!r8) (some (.ret false)) (bnd (F_spec_l00In p0.States 1 1000) fun r15 => (cond (!r15) (some (.ret false)) (cond (decide ((p0.Rules.length : Int) ≠ (w64 (p0.Symbols * p0.States)))) (some (.ret false)) (some (.brk ())))))) : Option (Out (Unit) Bool)) (Out.elim (fun (s1 : Unit) => bnd (run (F_spec_l05Is_L1 p0) 0) (Out.elim (fun (s31 : Int) => some true) (fun (r : Bool) => some r))) (fun (r : Bool) => some r))


noncomputable def F_spec_l13Go (p0 : Int) (p1 : Int) (p2 : (List Int)) : Option (Gl13Move) :=
  some (⟨true, p0, p1, p2⟩ : Gl13Move)


noncomputable def F_spec_l13Fold_step (rec_ : GMachine → (List Int) → Int → Option (Gl13Move)) (p0 : GMachine) (p1 : (List Int)) (p2 : Int) : Option (Gl13Move) :=
  bnd (idx p1 1) fun y4 => bnd (idx p1 0) fun y8 => (cond (decide (y8 = 1)) (cond (!(decide (p2 = p0.Symbols))) (bnd (idx p1 2) fun y14 => bnd (F_spec_l13Go p2 1 ([0, y4, y14] : List Int)) fun r19 => some r19) (some (⟨false, 0, 0, ([] : (List Int))⟩ : Gl13Move))) (cond (decide (y8 = 2)) (cond (decide (p2 = p0.Symbols)) (bnd (F_spec_l13Go p2 1 ([3, y4] : List Int)) fun r25 => some r25) (bnd (F_spec_l13Go p2 (-1) ([0, y4, 0] : List Int)) fun r29 => some r29)) (cond (decide (y8 = 3)) (cond (!(decide (p2 = p0.Symbols))) (bnd (F_spec_l13Go p2 1 ([0, y4, 1] : List Int)) fun r35 => some r35) (some (⟨false, 0, 0, ([] : (List Int))⟩ : Gl13Move))) (cond (decide (y8 = 4)) (cond (!(decide (p2 = p0.Symbols))) (bnd (F_spec_l13Go p2 (-1) ([5, y4] : List Int)) fun r41 => some r41) (some (⟨false, 0, 0, ([] : (List Int))⟩ : Gl13Move))) (cond (decide (y8 = 5)) (cond (decide (p2 = p0.Symbols)) (bnd (F_spec_l13Go p2 1 ([0, y4, 0] : List Int)) fun r47 => some r47) (bnd (rec_ p0 ([0, y4, 1] : List Int) p2) fun r51 => some r51)) (bnd ((cond (decide (p2 = p0.Symbols)) (some (.ret (⟨false, 0, 0, ([] : (List Int))⟩ : Gl13Move))) (bnd (idx p0.Rules (w64 ((w64 (y4 * p0.Symbols)) + p2))) fun y61 => bnd F_spec_l05None fun r68 => (cond (decide (y61 = r68)) (some (.ret (⟨false, 0, 0, ([] : (List Int))⟩ : Gl13Move))) (some (.brk ()))))) : Option (Out (Unit) Gl13Move)) (Out.elim (fun (s54 : Unit) => bnd (idx p0.Rules (w64 ((w64 (y4 * p0.Symbols)) + p2))) fun y75 => bnd (idx p1 2) fun y83 => bnd ((cond (decide (y75.Move = 1)) (cond (decide (y83 = 0)) (bnd (F_spec_l13Go y75.Write 1 ([1, y75.Next, y83] : List Int)) fun r92 => some (.ret r92)) (cond (decide (y75.Move = (-1))) (cond (decide (y83 = 1)) (bnd (F_spec_l13Go y75.Write 1 ([1, y75.Next, y83] : List Int)) fun r98 => some (.ret r98)) (some (.brk ()))) (some (.brk ())))) (cond (decide (y75.Move = (-1))) (cond (decide (y83 = 1)) (bnd (F_spec_l13Go y75.Write 1 ([1, y75.Next, y83] : List Int)) fun r104 => some (.ret r104)) (some (.brk ()))) (some (.brk ())))) : Option (Out (Unit) Gl13Move)) (Out.elim (fun (s87 : Unit) => (cond (decide (y83 = 0)) (bnd (F_spec_l13Go y75.Write (-1) ([2, y75.Next] : List Int)) fun r109 => some r109) (bnd (F_spec_l13Go y75.Write (-1) ([4, y75.Next] : List Int)) fun r113 => some r113))) (fun (r : Gl13Move) => some r))) (fun (r : Gl13Move) => some r))))))))
noncomputable def F_spec_l13Fold (p0 : GMachine) (p1 : (List Int)) (p2 : Int) : Option (Gl13Move) := fixR (fun (rec_ : (GMachine × (List Int) × Int) → Option (Gl13Move)) (a_ : GMachine × (List Int) × Int) => F_spec_l13Fold_step (fun p0 p1 p2 => rec_ (p0, p1, p2)) a_.1 a_.2.1 a_.2.2) (p0, p1, p2)

noncomputable def F_spec_l13Look_L1 (p0 : GMulti) (s2 : (List Int) × Int) : Option (((List Int) × Int) ⊕ Out ((List Int) × Int) (List Int)) :=
  (cond (decide (s2.2 < p0.Tapes)) (bnd (app s2.1 ([(-1)] : List Int)) fun z8 => some (.inl (z8, (w64 (s2.2 + 1))))) (some (.inr (.brk (s2.1, s2.2)))))

noncomputable def F_spec_l13Look (p0 : GMulti) (p1 : Int) : Option ((List Int)) :=
  bnd (run (F_spec_l13Look_L1 p0) (([0, p1, 0] : List Int), 0)) (Out.elim (fun (s2 : (List Int) × Int) => some s2.1) (fun (r : (List Int)) => some r))


noncomputable def F_spec_l00Own (p0 : (List Int)) : Option ((List Int)) :=
  bnd (app ([] : List Int) p0) fun z2 => some z2

noncomputable def F_spec_l00Has_L1 (p0 : (List Int)) (p1 : Int) (s1 : Int) : Option ((Int) ⊕ Out (Int) Bool) :=
  (cond (decide (s1 < (p0.length : Int))) (bnd (idx p0 s1) fun y4 => (cond (decide (y4 = p1)) (some (.inr (.ret true))) (some (.inl (w64 (s1 + 1)))))) (some (.inr (.brk s1))))

noncomputable def F_spec_l00Has (p0 : (List Int)) (p1 : Int) : Option (Bool) :=
  bnd (run (F_spec_l00Has_L1 p0 p1) 0) (Out.elim (fun (s1 : Int) => some false) (fun (r : Bool) => some r))

noncomputable def F_spec_l00Same_L1 (p0 : (List Int)) (p1 : (List Int)) (s2 : Int) : Option ((Int) ⊕ Out (Int) Bool) :=
  (cond (decide (s2 < (p0.length : Int))) (bnd (idx p0 s2) fun y5 => bnd (idx p1 s2) fun y9 => (cond (decide (y5 ≠ y9)) (some (.inr (.ret false))) (some (.inl (w64 (s2 + 1)))))) (some (.inr (.brk s2))))

noncomputable def F_spec_l00Same (p0 : (List Int)) (p1 : (List Int)) : Option (Bool) :=
  (cond (decide ((p0.length : Int) ≠ (p1.length : Int))) (some false) (bnd (run (F_spec_l00Same_L1 p0 p1) 0) (Out.elim (fun (s2 : Int) => some true) (fun (r : Bool) => some r))))

noncomputable def F_spec_l06RuleOf_L1 (p0 : GMulti) (p1 : Int) (p2 : (List Int)) (s1 : Int) : Option ((Int) ⊕ Out (Int) Int) :=
  (cond (decide (s1 < (p0.Rules.length : Int))) (bnd (idx p0.Rules s1) fun y8 => (cond (decide (y8.State = p1)) (bnd (idx p0.Rules s1) fun y16 => bnd (F_spec_l00Same y16.Read p2) fun r21 => (cond r21 (some (.inr (.ret s1))) (some (.inl (w64 (s1 + 1)))))) (some (.inl (w64 (s1 + 1)))))) (some (.inr (.brk s1))))

noncomputable def F_spec_l06RuleOf (p0 : GMulti) (p1 : Int) (p2 : (List Int)) : Option (Int) :=
  bnd (run (F_spec_l06RuleOf_L1 p0 p1 p2) 0) (Out.elim (fun (s1 : Int) => some (-1)) (fun (r : Int) => some r))


noncomputable def F_spec_l13Before (p0 : GMulti) (p1 : Int) : Option (Int) :=
  bnd (nz p0.Tapes) fun u5 => some (Int.tmod (w64 ((w64 (p1 + p0.Tapes)) - 1)) p0.Tapes)


noncomputable def F_spec_l13After (p0 : GMulti) (p1 : Int) (p2 : Int) (p3 : Int) : Option ((List Int)) :=
  bnd (nneg p0.Tapes) fun u3 => (cond (decide (p3 = (w64 ((w64 (1 * 2 ^ min (p0.Tapes : Int).toNat 64)) - 1)))) (bnd (idx p0.Rules p1) fun y8 => some ([4, y8.Next, (w64 ((w64 (p2 + p0.Tapes)) - 1))] : List Int)) (bnd (F_spec_l13Before p0 p2) fun r19 => some ([3, p1, r19, p3] : List Int)))


noncomputable def F_spec_l13Put (p0 : GMulti) (p1 : Int) (p2 : Int) (p3 : Int) : Option (Gl13Move) :=
  bnd (idx p0.Rules p1) fun y4 => bnd (nneg p2) fun u9 => bnd (idx y4.Move p2) fun y11 => (cond (decide (y11 = 0)) (bnd (idx y4.Write p2) fun y16 => bnd (F_spec_l13After p0 p1 p2 (ior p3 (w64 (1 * 2 ^ min (p2 : Int).toNat 64)))) fun r25 => bnd (F_spec_l13Go (w64 (y16 + p0.Symbols)) (-1) r25) fun r28 => some r28) (bnd (idx y4.Write p2) fun y31 => bnd (idx y4.Move p2) fun y35 => bnd (F_spec_l13Go y31 y35 ([1, p1, p2, (ior p3 (w64 (1 * 2 ^ min (p2 : Int).toNat 64))), (w64 (p0.Tapes - 1))] : List Int)) fun r45 => some r45))


noncomputable def F_spec_l13Several (p0 : GMulti) (p1 : (List Int)) (p2 : Int) : Option (Gl13Move) :=
  bnd (nz p0.Symbols) fun u4 => bnd (idx p1 0) fun y8 => (cond (decide (y8 = 4)) (bnd (idx p1 2) fun y13 => (cond (decide (y13 = 1)) (bnd (idx p1 1) fun y18 => bnd (F_spec_l13Look p0 y18) fun r22 => bnd (F_spec_l13Go p2 (-1) r22) fun r25 => some r25) (bnd (idx p1 1) fun y28 => bnd (idx p1 2) fun y32 => bnd (F_spec_l13Go p2 (-1) ([4, y28, (w64 (y32 - 1))] : List Int)) fun r40 => some r40))) (bnd (idx p1 0) fun y43 => (cond (decide (y43 = 0)) (bnd (idx p1 1) fun y48 => bnd (idx p1 2) fun y52 => bnd (slc p1 3 (p1.length : Int)) fun z56 => bnd (F_spec_l00Own z56) fun r59 => bnd ((cond (decide (p0.Symbols ≤ p2)) (bnd (idx r59 y52) fun y65 => (cond (decide (y65 < 0)) (bnd (idx r59 y52) fun y71 => some (.brk (r59.set y52.toNat (Int.tmod p2 p0.Symbols)))) (some (.brk r59)))) (some (.brk r59))) : Option (Out ((List Int)) Gl13Move)) (Out.elim (fun (s62 : (List Int)) => bnd (F_spec_l00Has s62 (-1)) fun r73 => (cond r73 (bnd (nz p0.Tapes) fun u78 => bnd (app ([0, y48, (Int.tmod (w64 (y52 + 1)) p0.Tapes)] : List Int) s62) fun z81 => bnd (F_spec_l13Go p2 1 z81) fun r84 => some r84) (bnd (F_spec_l06RuleOf p0 y48 s62) fun r87 => (cond (decide (r87 < 0)) (some (⟨false, 0, 0, ([] : (List Int))⟩ : Gl13Move)) (bnd (F_spec_l13Put p0 r87 y52 0) fun r90 => some r90))))) (fun (r : Gl13Move) => some r))) (bnd (idx p1 1) fun y93 => bnd (idx p1 2) fun y97 => bnd (idx p1 3) fun y101 => bnd (idx p1 0) fun y105 => (cond (decide (y105 = 1)) (bnd (idx p0.Rules y93) fun y112 => bnd (idx y112.Move y97) fun y117 => bnd (idx p1 4) fun y121 => (cond (decide (0 < y121)) (bnd (idx p1 4) fun y126 => bnd (F_spec_l13Go p2 y117 ([1, y93, y97, y101, (w64 (y126 - 1))] : List Int)) fun r131 => some r131) (bnd (F_spec_l13Go (w64 ((Int.tmod p2 p0.Symbols) + p0.Symbols)) (w64 (0 - y117)) ([2, y93, y97, y101, (w64 (p0.Tapes - 1))] : List Int)) fun r142 => some r142))) (cond (decide (y105 = 2)) (bnd (idx p0.Rules y93) fun y148 => bnd (idx y148.Move y97) fun y153 => bnd (idx p1 4) fun y157 => (cond (decide (0 < y157)) (bnd (idx p1 4) fun y162 => bnd (F_spec_l13Go p2 (w64 (0 - y153)) ([2, y93, y97, y101, (w64 (y162 - 1))] : List Int)) fun r167 => some r167) (bnd (F_spec_l13After p0 y93 y97 y101) fun r170 => bnd (F_spec_l13Go p2 (-1) r170) fun r173 => some r173))) (bnd ((cond (decide (p0.Symbols ≤ p2)) (bnd (nneg y97) fun u179 => some (.brk (decide ((iand (Int.fdiv y101 (2 ^ min (y97 : Int).toNat 64)) 1) = 0)))) (some (.brk false))) : Option (Out (Bool) Gl13Move)) (Out.elim (fun (s176 : Bool) => (cond s176 (bnd (F_spec_l13Put p0 y93 y97 y101) fun r182 => some r182) (bnd (F_spec_l13Before p0 y97) fun r185 => bnd (F_spec_l13Go p2 (-1) ([3, y93, r185, y101] : List Int)) fun r188 => some r188))) (fun (r : Gl13Move) => some r)))))))))

noncomputable def F_spec_l13Bits_L1 (p0 : Int) (s1 : Int) : Option ((Int) ⊕ Out (Int) Int) :=
  bnd (nneg s1) fun u3 => (cond (decide ((w64 (1 * 2 ^ min (s1 : Int).toNat 64)) < p0)) (some (.inl (w64 (s1 + 1)))) (some (.inr (.brk s1))))

noncomputable def F_spec_l13Bits (p0 : Int) : Option (Int) :=
  bnd (run (F_spec_l13Bits_L1 p0) 1) (Out.elim (fun (s1 : Int) => some s1) (fun (r : Int) => some r))


noncomputable def F_spec_l13Bit (p0 : Int) (p1 : Int) (p2 : Int) : Option (Int) :=
  bnd (nneg (w64 ((w64 (p1 - 1)) - p2))) fun u1 => some (iand (Int.fdiv p0 (2 ^ min ((w64 ((w64 (p1 - 1)) - p2)) : Int).toNat 64)) 1)


noncomputable def F_spec_l13Binary (p0 : GMachine) (p1 : (List Int)) (p2 : Int) : Option (Gl13Move) :=
  bnd (F_spec_l13Bits p0.Symbols) fun r4 => bnd (idx p1 0) fun y6 => (cond (decide (y6 = 0)) (bnd (idx p1 3) fun y11 => bnd (idx p1 2) fun y15 => (cond (decide (y15 < (w64 (r4 - 1)))) (bnd (idx p1 1) fun y20 => bnd (idx p1 2) fun y24 => bnd (F_spec_l13Go p2 1 ([0, y20, (w64 (y24 + 1)), (w64 ((w64 (2 * y11)) + p2))] : List Int)) fun r32 => some r32) (bnd ((cond (decide (p0.Symbols ≤ (w64 ((w64 (2 * y11)) + p2)))) (some (.ret (⟨false, 0, 0, ([] : (List Int))⟩ : Gl13Move))) (bnd (idx p1 1) fun y42 => bnd (idx p0.Rules (w64 ((w64 (y42 * p0.Symbols)) + (w64 ((w64 (2 * y11)) + p2))))) fun y48 => bnd F_spec_l05None fun r55 => (cond (decide (y48 = r55)) (some (.ret (⟨false, 0, 0, ([] : (List Int))⟩ : Gl13Move))) (some (.brk ()))))) : Option (Out (Unit) Gl13Move)) (Out.elim (fun (s35 : Unit) => bnd (idx p1 1) fun y58 => bnd (idx p0.Rules (w64 ((w64 (y58 * p0.Symbols)) + (w64 ((w64 (2 * y11)) + p2))))) fun y66 => (cond (decide (r4 = 1)) (bnd (F_spec_l13Go y66.Write y66.Move ([0, y66.Next, 0, 0] : List Int)) fun r73 => some r73) (bnd (F_spec_l13Bit y66.Write r4 (w64 (r4 - 1))) fun r76 => bnd (F_spec_l13Go r76 (-1) ([1, (w64 ((w64 (y58 * p0.Symbols)) + (w64 ((w64 (2 * y11)) + p2)))), (w64 (r4 - 2))] : List Int)) fun r79 => some r79))) (fun (r : Gl13Move) => some r))))) (bnd (idx p1 1) fun y84 => bnd (idx p0.Rules y84) fun y88 => bnd (idx p1 0) fun y96 => (cond (decide (y96 = 1)) (bnd (idx p1 2) fun y101 => (cond (decide (0 < y101)) (bnd (bnd (idx p1 1) fun y108 => bnd (F_spec_l13Bit y88.Write r4 y101) fun r115 => bnd (F_spec_l13Go r115 (-1) ([1, y108, (w64 (y101 - 1))] : List Int)) fun r118 => some (.brk (r118.ok, r118.write, r118.move, r118.next)) : Option (Out (Bool × Int × Int × (List Int)) Gl13Move)) (Out.elim (fun (s106 : Bool × Int × Int × (List Int)) => some (⟨s106.1, s106.2.1, s106.2.2.1, s106.2.2.2⟩ : Gl13Move)) (fun (r : Gl13Move) => some r))) (bnd (bnd (idx p1 1) fun y127 => bnd (F_spec_l13Bit y88.Write r4 0) fun r134 => bnd (F_spec_l13Go r134 y88.Move ([2, y127, (w64 (r4 - 1))] : List Int)) fun r137 => some (.brk (r137.ok, r137.write, r137.move, r137.next)) : Option (Out (Bool × Int × Int × (List Int)) Gl13Move)) (Out.elim (fun (s125 : Bool × Int × Int × (List Int)) => some (⟨s125.1, s125.2.1, s125.2.2.1, s125.2.2.2⟩ : Gl13Move)) (fun (r : Gl13Move) => some r))))) (bnd (idx p1 2) fun y144 => (cond (decide (y144 = 1)) (bnd (F_spec_l13Go p2 y88.Move ([0, y88.Next, 0, 0] : List Int)) fun r150 => some r150) (bnd (idx p1 1) fun y153 => bnd (idx p1 2) fun y157 => bnd (F_spec_l13Go p2 y88.Move ([2, y153, (w64 (y157 - 1))] : List Int)) fun r165 => some r165))))))

noncomputable def F_spec_BinaryMachine_L3 (s15 : (List (List Int)) × (List GRule) × Int) (r25 : Gl13Move) (s50 : Int) : Option ((Int) ⊕ Out (Int) (Option (((List (List Int)) × (List GRule) × Int) ⊕ Out ((List (List Int)) × (List GRule) × Int) (Option (GMachine × Int))))) :=
  (cond (decide (s50 < (s15.1.length : Int))) (bnd (idx s15.1 s50) fun y53 => bnd (F_spec_l00Same y53 r25.next) fun r56 => (cond r56 (some (.inr (.ret (bnd ((cond (decide (s50 < 0)) (cond (decide ((s15.1.length : Int) = 1000)) (some (.ret (some ((⟨0, 0, ([] : (List GRule))⟩ : GMachine), 5)))) (bnd (app s15.1 ([r25.next] : List (List Int))) fun z67 => some (.brk (z67, (s15.1.length : Int))))) (some (.brk (s15.1, s50)))) : Option (Out ((List (List Int)) × Int) (Option (GMachine × Int)))) (Out.elim (fun (s59 : (List (List Int)) × Int) => bnd (app s15.2.1 ([(⟨r25.write, r25.move, s59.2⟩ : GRule)] : List GRule)) fun z78 => some (.inl (s59.1, z78, (w64 (s15.2.2 + 1))))) (fun (r : Option (GMachine × Int)) => some (.inr (.ret r)))))))) (some (.inl (w64 (s50 + 1)))))) (some (.inr (.brk s50))))

noncomputable def F_spec_BinaryMachine_L2 (p0 : GMachine) (s12 : (List (List Int)) × (List GRule) × Int) (s15 : (List (List Int)) × (List GRule) × Int) : Option (((List (List Int)) × (List GRule) × Int) ⊕ Out ((List (List Int)) × (List GRule) × Int) (Option (GMachine × Int))) :=
  (cond (decide (s15.2.2 < 2)) (bnd (idx s15.1 s12.2.2) fun y18 => bnd (F_spec_l13Binary p0 y18 s15.2.2) fun r25 => (cond (!r25.ok) (bnd (bnd F_spec_l05None fun r35 => bnd (app s15.2.1 ([r35] : List GRule)) fun z38 => some (.brk z38) : Option (Out ((List GRule)) (Option (GMachine × Int)))) (Out.elim (fun (s30 : (List GRule)) => some (.inl (s15.1, s30, (w64 (s15.2.2 + 1))))) (fun (r : Option (GMachine × Int)) => some (.inr (.ret r))))) (bnd (run (F_spec_BinaryMachine_L3 s15 r25) 0) (Out.elim (fun (s50 : Int) => bnd ((cond (decide ((s15.1.length : Int) = 1000)) (some (.ret (some ((⟨0, 0, ([] : (List GRule))⟩ : GMachine), 5)))) (bnd (app s15.1 ([r25.next] : List (List Int))) fun z92 => some (.brk (z92, (s15.1.length : Int))))) : Option (Out ((List (List Int)) × Int) (Option (GMachine × Int)))) (Out.elim (fun (s85 : (List (List Int)) × Int) => bnd (app s15.2.1 ([(⟨r25.write, r25.move, s85.2⟩ : GRule)] : List GRule)) fun z103 => some (.inl (s85.1, z103, (w64 (s15.2.2 + 1))))) (fun (r : Option (GMachine × Int)) => some (.inr (.ret r))))) (fun (r : Option (((List (List Int)) × (List GRule) × Int) ⊕ Out ((List (List Int)) × (List GRule) × Int) (Option (GMachine × Int)))) => r))))) (some (.inr (.brk (s15.1, s15.2.1, s15.2.2)))))

noncomputable def F_spec_BinaryMachine_L1 (p0 : GMachine) (s12 : (List (List Int)) × (List GRule) × Int) : Option (((List (List Int)) × (List GRule) × Int) ⊕ Out ((List (List Int)) × (List GRule) × Int) (Option (GMachine × Int))) :=
  (cond (decide (s12.2.2 < (s12.1.length : Int))) (bnd (run (F_spec_BinaryMachine_L2 p0 s12) (s12.1, s12.2.1, 0)) (Out.elim (fun (s15 : (List (List Int)) × (List GRule) × Int) => some (.inl (s15.1, s15.2.1, (w64 (s12.2.2 + 1))))) (fun (r : Option (GMachine × Int)) => some (.inr (.ret r))))) (some (.inr (.brk (s12.1, s12.2.1, s12.2.2)))))

noncomputable def F_spec_BinaryMachine (p0 : GMachine) : Option (GMachine × Int) :=
  bnd (F_spec_l05Is p0) fun r3 => (cond (!r3) (some ((⟨0, 0, ([] : (List GRule))⟩ : GMachine), 1)) (bnd (run (F_spec_BinaryMachine_L1 p0) (([([0, 0, 0, 0] : List Int)] : List (List Int)), ([] : List GRule), 0)) (Out.elim (fun (s12 : (List (List Int)) × (List GRule) × Int) => some ((⟨2, (s12.1.length : Int), s12.2.1⟩ : GMachine), 0)) (fun (r : Option (GMachine × Int)) => r))))


noncomputable def F_impl_within (p0 : Int) (p1 : Int) (p2 : Int) : Option (Bool) :=
  (cond (decide (p1 ≤ p0)) (some (decide (p0 ≤ p2))) (some false))


noncomputable def F_impl_size_impl_Rule (p0 : (List GRule)) : Option (Int) :=
  some (p0.length : Int)


noncomputable def F_impl_noRule : Option (GRule) :=
  some (⟨0, 0, (-1)⟩ : GRule)


noncomputable def F_impl_isRule (p0 : GRule) : Option (Bool) :=
  bnd F_impl_noRule fun r5 => some (!(decide (p0 = r5)))


noncomputable def F_impl_validRule (p0 : GMachine) (p1 : GRule) : Option (Bool) :=
  bnd (F_impl_isRule p1) fun r3 => (cond (!r3) (some true) (bnd (F_impl_within p1.Write 0 (w64 (p0.Symbols - 1))) fun r6 => (cond r6 (cond (decide (p1.Move = (-1))) (bnd (F_impl_within p1.Next 0 (w64 (p0.States - 1))) fun r10 => some r10) (cond (decide (p1.Move = 1)) (bnd (F_impl_within p1.Next 0 (w64 (p0.States - 1))) fun r13 => some r13) (some false))) (some false))))


noncomputable def F_impl_ValidMachine_1 (p0 : GRule) (p1 : GMachine) : Option (Bool) :=
  bnd (F_impl_validRule p1 p0) fun r3 => some (!r3)

noncomputable def F_slices_IndexFunc_Simpl_Rule_impl_Rule_L1 (p0 : (List GRule)) (p1 : (GRule → Option Bool)) (s1 : Int) : Option ((Int) ⊕ Out (Int) Int) :=
  (cond (decide (s1 < (p0.length : Int))) (bnd (idx p0 s1) fun y4 => bnd (p1 y4) fun r8 => (cond r8 (some (.inr (.ret s1))) (some (.inl (w64 (s1 + 1)))))) (some (.inr (.brk s1))))

noncomputable def F_slices_IndexFunc_Simpl_Rule_impl_Rule (p0 : (List GRule)) (p1 : (GRule → Option Bool)) : Option (Int) :=
  bnd (run (F_slices_IndexFunc_Simpl_Rule_impl_Rule_L1 p0 p1) 0) (Out.elim (fun (s1 : Int) => some (-1)) (fun (r : Int) => some r))


noncomputable def F_slices_ContainsFunc_Simpl_Rule_impl_Rule (p0 : (List GRule)) (p1 : (GRule → Option Bool)) : Option (Bool) :=
  bnd (F_slices_IndexFunc_Simpl_Rule_impl_Rule p0 p1) fun r1 => some (decide (0 ≤ r1))


noncomputable def F_impl_ValidMachine (p0 : GMachine) : Option (Bool) :=
  bnd (F_impl_within p0.Symbols 2 6) fun r5 => (cond (!r5) (some false) (bnd (F_impl_within p0.States 1 1000) fun r8 => (cond (!r8) (some false) (bnd (F_impl_size_impl_Rule p0.Rules) fun r11 => (cond (decide (r11 ≠ (w64 (p0.States * p0.Symbols)))) (some false) (bnd (F_slices_ContainsFunc_Simpl_Rule_impl_Rule p0.Rules (fun x_ => F_impl_ValidMachine_1 x_ p0)) fun r14 => some (!r14)))))))

noncomputable def F_impl_bitsOf_L1 (p0 : GMachine) (s2 : Int) : Option ((Int) ⊕ Out (Int) Int) :=
  bnd (nneg s2) fun u4 => (cond (decide ((w64 (1 * 2 ^ min (s2 : Int).toNat 64)) < p0.Symbols)) (some (.inl (w64 (s2 + 1)))) (some (.inr (.brk s2))))

noncomputable def F_impl_bitsOf (p0 : GMachine) : Option (Int) :=
  bnd (run (F_impl_bitsOf_L1 p0) 1) (Out.elim (fun (s2 : Int) => some s2) (fun (r : Int) => some r))


noncomputable def F_impl_startOf (p0 : Int) : Option (GbitPlace) :=
  some (⟨0, p0, 0, 0⟩ : GbitPlace)


noncomputable def F_impl_bitAt (p0 : Int) (p1 : Int) (p2 : Int) : Option (Int) :=
  bnd (nneg (w64 ((w64 (p1 - 1)) - p2))) fun u1 => some (iand (Int.fdiv p0 (2 ^ min ((w64 ((w64 (p1 - 1)) - p2)) : Int).toNat 64)) 1)


noncomputable def F_impl_readBit (p0 : GMachine) (p1 : Int) (p2 : GbitPlace) (p3 : Int) : Option (Gaction_bitPlace) :=
  (cond (decide (p2.b < (w64 (p1 - 1)))) (some (⟨p3, 1, 0, p2.a, (w64 (p2.b + 1)), (w64 ((w64 (2 * p2.c)) + p3)), false⟩ : Gaction_bitPlace)) (bnd ((cond (decide (p0.Symbols ≤ (w64 ((w64 (2 * p2.c)) + p3)))) (some (.ret (⟨0, 0, 0, 0, 0, 0, true⟩ : Gaction_bitPlace))) (bnd (idx p0.Rules (w64 ((w64 (p2.a * p0.Symbols)) + (w64 ((w64 (2 * p2.c)) + p3))))) fun y8 => bnd (F_impl_isRule y8) fun r12 => (cond (!r12) (some (.ret (⟨0, 0, 0, 0, 0, 0, true⟩ : Gaction_bitPlace))) (some (.brk ()))))) : Option (Out (Unit) Gaction_bitPlace)) (Out.elim (fun (s5 : Unit) => bnd (idx p0.Rules (w64 ((w64 (p2.a * p0.Symbols)) + (w64 ((w64 (2 * p2.c)) + p3))))) fun y15 => (cond (decide (p1 = 1)) (bnd (F_impl_startOf y15.Next) fun r24 => some (⟨y15.Write, y15.Move, r24.kind, r24.a, r24.b, r24.c, false⟩ : Gaction_bitPlace)) (bnd (F_impl_bitAt y15.Write p1 (w64 (p1 - 1))) fun r26 => some (⟨r26, (-1), 1, (w64 ((w64 (p2.a * p0.Symbols)) + (w64 ((w64 (2 * p2.c)) + p3)))), (w64 (p1 - 2)), 0, false⟩ : Gaction_bitPlace)))) (fun (r : Gaction_bitPlace) => some r))))


noncomputable def F_impl_binary_1 (p0 : GbitPlace) (p1 : Int) (p2 : GMachine) (p3 : Int) : Option (Gaction_bitPlace) :=
  (cond (decide (p0.kind = 0)) (bnd (F_impl_readBit p2 p3 p0 p1) fun r6 => some r6) (cond (decide (p0.kind = 1)) (bnd (idx p2.Rules p0.a) fun y11 => bnd (F_impl_bitAt y11.Write p3 p0.b) fun r17 => (cond (decide (0 < p0.b)) (some (⟨r17, (-1), 1, p0.a, (w64 (p0.b - 1)), 0, false⟩ : Gaction_bitPlace)) (some (⟨r17, y11.Move, 2, p0.a, (w64 (p3 - 1)), 0, false⟩ : Gaction_bitPlace)))) (bnd (idx p2.Rules p0.a) fun y23 => (cond (decide (p0.b = 1)) (bnd (F_impl_startOf y23.Next) fun r30 => some (⟨p1, y23.Move, r30.kind, r30.a, r30.b, r30.c, false⟩ : Gaction_bitPlace)) (some (⟨p1, y23.Move, 2, p0.a, (w64 (p0.b - 1)), 0, false⟩ : Gaction_bitPlace))))))


noncomputable def F_impl_size_impl_bitPlace (p0 : (List GbitPlace)) : Option (Int) :=
  some (p0.length : Int)

noncomputable def F_impl_BinaryMachine_L2 (p0 : GMachine) (r8 : Int) (s38 : (List GRule) × (List GbitPlace) × List (GbitPlace × Int) × Int) (s41 : (List GRule) × (List GbitPlace) × List (GbitPlace × Int) × Int) : Option (((List GRule) × (List GbitPlace) × List (GbitPlace × Int) × Int) ⊕ Out ((List GRule) × (List GbitPlace) × List (GbitPlace × Int) × Int) (Option (GMachine × Int))) :=
  (cond (decide (s41.2.2.2 < 2)) (bnd F_impl_noRule fun r44 => bnd (bnd (idx s41.2.1 s38.2.2.2) fun y49 => bnd (F_impl_binary_1 y49 s41.2.2.2 p0 r8) fun r54 => (cond (!r54.none) (cond (!((mget s41.2.2.1 (⟨r54.next_kind, r54.next_a, r54.next_b, r54.next_c⟩ : GbitPlace)).isSome)) (bnd (F_impl_size_impl_bitPlace s41.2.1) fun r65 => bnd (app s41.2.1 ([(⟨r54.next_kind, r54.next_a, r54.next_b, r54.next_c⟩ : GbitPlace)] : List GbitPlace)) fun z74 => some (.brk (z74, (mput s41.2.2.1 (⟨r54.next_kind, r54.next_a, r54.next_b, r54.next_c⟩ : GbitPlace) r65), r54.write, r54.move, r65))) (some (.brk (s41.2.1, s41.2.2.1, r54.write, r54.move, ((mget s41.2.2.1 (⟨r54.next_kind, r54.next_a, r54.next_b, r54.next_c⟩ : GbitPlace)).getD 0))))) (some (.brk (s41.2.1, s41.2.2.1, r44.Write, r44.Move, r44.Next)))) : Option (Out ((List GbitPlace) × List (GbitPlace × Int) × Int × Int × Int) (Option (GMachine × Int)))) (Out.elim (fun (s47 : (List GbitPlace) × List (GbitPlace × Int) × Int × Int × Int) => bnd (app s41.1 ([(⟨s47.2.2.1, s47.2.2.2.1, s47.2.2.2.2⟩ : GRule)] : List GRule)) fun z85 => some (.inl (z85, s47.1, s47.2.1, (w64 (s41.2.2.2 + 1))))) (fun (r : Option (GMachine × Int)) => some (.inr (.ret r))))) (some (.inr (.brk (s41.1, s41.2.1, s41.2.2.1, s41.2.2.2)))))

noncomputable def F_impl_BinaryMachine_L1 (p0 : GMachine) (r8 : Int) (s38 : (List GRule) × (List GbitPlace) × List (GbitPlace × Int) × Int) : Option (((List GRule) × (List GbitPlace) × List (GbitPlace × Int) × Int) ⊕ Out ((List GRule) × (List GbitPlace) × List (GbitPlace × Int) × Int) (Option (GMachine × Int))) :=
  (cond (decide (s38.2.2.2 < (s38.2.1.length : Int))) (bnd (run (F_impl_BinaryMachine_L2 p0 r8 s38) (s38.1, s38.2.1, s38.2.2.1, 0)) (Out.elim (fun (s41 : (List GRule) × (List GbitPlace) × List (GbitPlace × Int) × Int) => (cond (decide (1000 < (s41.2.1.length : Int))) (some (.inr (.ret (some ((⟨0, 0, ([] : (List GRule))⟩ : GMachine), 5))))) (some (.inl (s41.1, s41.2.1, s41.2.2.1, (w64 (s38.2.2.2 + 1))))))) (fun (r : Option (GMachine × Int)) => some (.inr (.ret r))))) (some (.inr (.brk (s38.1, s38.2.1, s38.2.2.1, s38.2.2.2)))))

noncomputable def F_impl_BinaryMachine (p0 : GMachine) : Option (GMachine × Int) :=
  bnd (F_impl_ValidMachine p0) fun r3 => (cond (!r3) (some ((⟨0, 0, ([] : (List GRule))⟩ : GMachine), 1)) (bnd (F_impl_bitsOf p0) fun r8 => bnd (F_impl_startOf 0) fun r11 => bnd ((cond (!((mget ([] : List (GbitPlace × Int)) r11).isSome)) (bnd (F_impl_size_impl_bitPlace ([] : (List GbitPlace))) fun r22 => bnd (app ([] : (List GbitPlace)) ([r11] : List GbitPlace)) fun z31 => some (.brk (r22, z31, (mput ([] : List (GbitPlace × Int)) r11 r22)))) (some (.brk (((mget ([] : List (GbitPlace × Int)) r11).getD 0), ([] : (List GbitPlace)), ([] : List (GbitPlace × Int)))))) : Option (Out (Int × (List GbitPlace) × List (GbitPlace × Int)) (Option (GMachine × Int)))) (Out.elim (fun (s19 : Int × (List GbitPlace) × List (GbitPlace × Int)) => bnd (run (F_impl_BinaryMachine_L1 p0 r8) (([] : (List GRule)), s19.2.1, s19.2.2, 0)) (Out.elim (fun (s38 : (List GRule) × (List GbitPlace) × List (GbitPlace × Int) × Int) => bnd (F_impl_size_impl_bitPlace s38.2.1) fun r95 => some ((⟨2, r95, s38.1⟩ : GMachine), 0)) (fun (r : Option (GMachine × Int)) => r))) (fun (r : Option (GMachine × Int)) => r))))


noncomputable def F_laws_eqRule (p0 : GRule) (p1 : GRule) : Option (Bool) :=
  (cond (decide (p0.Write ≠ p1.Write)) (some false) (cond (decide (p0.Move ≠ p1.Move)) (some false) (cond (decide (p0.Next ≠ p1.Next)) (some false) (some true))))

noncomputable def F_laws_eqRuleS_L1 (p0 : (List GRule)) (p1 : (List GRule)) (s2 : Int) : Option ((Int) ⊕ Out (Int) Bool) :=
  (cond (decide (s2 < (p0.length : Int))) (bnd (idx p0 s2) fun y5 => bnd (idx p1 s2) fun y9 => bnd (F_laws_eqRule y5 y9) fun r16 => (cond (!r16) (some (.inr (.ret false))) (some (.inl (w64 (s2 + 1)))))) (some (.inr (.brk s2))))

noncomputable def F_laws_eqRuleS (p0 : (List GRule)) (p1 : (List GRule)) : Option (Bool) :=
  (cond (decide ((p0.length : Int) ≠ (p1.length : Int))) (some false) (bnd (run (F_laws_eqRuleS_L1 p0 p1) 0) (Out.elim (fun (s2 : Int) => some true) (fun (r : Bool) => some r))))


noncomputable def F_laws_eqMachine (p0 : GMachine) (p1 : GMachine) : Option (Bool) :=
  (cond (decide (p0.Symbols ≠ p1.Symbols)) (some false) (cond (decide (p0.States ≠ p1.States)) (some false) (bnd (F_laws_eqRuleS p0.Rules p1.Rules) fun r5 => (cond (!r5) (some false) (some true)))))

noncomputable def F_laws_markRuleS_L1 (s1 : (List GRule) × Int × Int) : Option (((List GRule) × Int × Int) ⊕ Out ((List GRule) × Int × Int) (Int × (List GRule))) :=
  (cond (decide (s1.2.2 < (s1.1.length : Int))) (bnd (idx s1.1 s1.2.2) fun y4 => bnd (idx (s1.1.set s1.2.2.toNat (⟨s1.2.1, y4.Move, y4.Next⟩ : GRule)) s1.2.2) fun y9 => bnd (idx ((s1.1.set s1.2.2.toNat (⟨s1.2.1, y4.Move, y4.Next⟩ : GRule)).set s1.2.2.toNat (⟨y9.Write, (w64 (s1.2.1 + 1)), y9.Next⟩ : GRule)) s1.2.2) fun y11 => some (.inl ((((s1.1.set s1.2.2.toNat (⟨s1.2.1, y4.Move, y4.Next⟩ : GRule)).set s1.2.2.toNat (⟨y9.Write, (w64 (s1.2.1 + 1)), y9.Next⟩ : GRule)).set s1.2.2.toNat (⟨y11.Write, y11.Move, (w64 ((w64 (s1.2.1 + 1)) + 1))⟩ : GRule)), (w64 ((w64 ((w64 (s1.2.1 + 1)) + 1)) + 1)), (w64 (s1.2.2 + 1))))) (some (.inr (.brk (s1.1, s1.2.1, s1.2.2)))))

noncomputable def F_laws_markRuleS (p0 : (List GRule)) (p1 : Int) : Option (Int × (List GRule)) :=
  bnd (run (F_laws_markRuleS_L1) (p0, p1, 0)) (Out.elim (fun (s1 : (List GRule) × Int × Int) => some (s1.2.1, s1.1)) (fun (r : Int × (List GRule)) => some r))

noncomputable def F_laws_heldRuleS_L1 (p0 : (List GRule)) (s1 : Int × Int) : Option ((Int × Int) ⊕ Out (Int × Int) Int) :=
  (cond (decide (s1.2 < (p0.length : Int))) (bnd (idx p0 s1.2) fun y4 => (cond (decide (y4.Write ≠ s1.1)) (some (.inr (.ret (-1)))) (bnd (idx p0 s1.2) fun y10 => (cond (decide (y10.Move ≠ (w64 (s1.1 + 1)))) (some (.inr (.ret (-1)))) (bnd (idx p0 s1.2) fun y16 => (cond (decide (y16.Next ≠ (w64 ((w64 (s1.1 + 1)) + 1)))) (some (.inr (.ret (-1)))) (some (.inl ((w64 ((w64 ((w64 (s1.1 + 1)) + 1)) + 1)), (w64 (s1.2 + 1))))))))))) (some (.inr (.brk (s1.1, s1.2)))))

noncomputable def F_laws_heldRuleS (p0 : (List GRule)) (p1 : Int) : Option (Int) :=
  bnd (run (F_laws_heldRuleS_L1 p0) (p1, 0)) (Out.elim (fun (s1 : Int × Int) => some s1.1) (fun (r : Int) => some r))


noncomputable def F_laws_heldMachine (p0 : GMachine) (p1 : Int) : Option (Int) :=
  bnd (F_laws_heldRuleS p0.Rules p1) fun r2 => (cond (decide (r2 < 0)) (some (-1)) (some r2))


noncomputable def F_laws_FnExactBinaryMachine (p0 : GMachine) : Option (Bool) :=
  bnd (F_laws_szMachine p0 1048576) fun r2 => (cond (decide (r2 < 0)) (some true) (bnd (F_laws_toMachine p0) fun r5 => bnd (F_spec_BinaryMachine r5) fun r8 => bnd (F_laws_toMachine p0) fun r12 => bnd (F_impl_BinaryMachine r12) fun r16 => bnd (bnd (F_laws_eqMachine r16.1 r8.1) fun r22 => (cond (!r22) (some (.ret false)) (cond (decide (r16.2 ≠ r8.2)) (some (.ret false)) (some (.brk ())))) : Option (Out (Unit) Bool)) (Out.elim (fun (s20 : Unit) => bnd (F_laws_toMachine p0) fun r29 => bnd (F_laws_eqMachine r12 r29) fun r32 => (cond (!r32) (some false) (bnd (F_laws_markRuleS r12.Rules 1) fun r37 => bnd ((cond (decide (r37.1 < 0)) (some (.ret false)) (bnd (F_laws_eqMachine r16.1 r8.1) fun r42 => (cond (!r42) (some (.ret false)) (cond (decide (r16.2 ≠ r8.2)) (some (.ret false)) (some (.brk ())))))) : Option (Out (Unit) Bool)) (Out.elim (fun (s39 : Unit) => bnd (F_laws_markRuleS r16.1.Rules 1) fun r48 => bnd (F_laws_heldMachine (⟨r16.1.Symbols, r16.1.States, r48.2⟩ : GMachine) 1) fun r50 => (cond (decide (r50 < 0)) (some false) (cond (decide (r50 ≠ r48.1)) (some false) (bnd (F_laws_toMachine p0) fun r54 => bnd (F_impl_BinaryMachine r54) fun r57 => bnd (F_laws_eqMachine r57.1 r8.1) fun r61 => (cond (!r61) (some false) (cond (decide (r57.2 ≠ r8.2)) (some false) (bnd (F_laws_heldMachine (⟨r16.1.Symbols, r16.1.States, r48.2⟩ : GMachine) 1) fun r65 => (cond (decide (r65 < 0)) (some false) (cond (decide (r65 ≠ r48.1)) (some false) (some true)))))))))) (fun (r : Bool) => some r))))) (fun (r : Bool) => some r))))

noncomputable def F_spec_FoldMachine_L3 (s16 : (List (List Int)) × (List GRule) × Int) (r26 : Gl13Move) (s51 : Int) : Option ((Int) ⊕ Out (Int) (Option (((List (List Int)) × (List GRule) × Int) ⊕ Out ((List (List Int)) × (List GRule) × Int) (Option (GMachine × Int))))) :=
  (cond (decide (s51 < (s16.1.length : Int))) (bnd (idx s16.1 s51) fun y54 => bnd (F_spec_l00Same y54 r26.next) fun r57 => (cond r57 (some (.inr (.ret (bnd ((cond (decide (s51 < 0)) (cond (decide ((s16.1.length : Int) = 1000)) (some (.ret (some ((⟨0, 0, ([] : (List GRule))⟩ : GMachine), 5)))) (bnd (app s16.1 ([r26.next] : List (List Int))) fun z68 => some (.brk (z68, (s16.1.length : Int))))) (some (.brk (s16.1, s51)))) : Option (Out ((List (List Int)) × Int) (Option (GMachine × Int)))) (Out.elim (fun (s60 : (List (List Int)) × Int) => bnd (app s16.2.1 ([(⟨r26.write, r26.move, s60.2⟩ : GRule)] : List GRule)) fun z79 => some (.inl (s60.1, z79, (w64 (s16.2.2 + 1))))) (fun (r : Option (GMachine × Int)) => some (.inr (.ret r)))))))) (some (.inl (w64 (s51 + 1)))))) (some (.inr (.brk s51))))

noncomputable def F_spec_FoldMachine_L2 (p0 : GMachine) (s13 : (List (List Int)) × (List GRule) × Int) (s16 : (List (List Int)) × (List GRule) × Int) : Option (((List (List Int)) × (List GRule) × Int) ⊕ Out ((List (List Int)) × (List GRule) × Int) (Option (GMachine × Int))) :=
  (cond (decide (s16.2.2 < (w64 (p0.Symbols + 1)))) (bnd (idx s16.1 s13.2.2) fun y19 => bnd (F_spec_l13Fold p0 y19 s16.2.2) fun r26 => (cond (!r26.ok) (bnd (bnd F_spec_l05None fun r36 => bnd (app s16.2.1 ([r36] : List GRule)) fun z39 => some (.brk z39) : Option (Out ((List GRule)) (Option (GMachine × Int)))) (Out.elim (fun (s31 : (List GRule)) => some (.inl (s16.1, s31, (w64 (s16.2.2 + 1))))) (fun (r : Option (GMachine × Int)) => some (.inr (.ret r))))) (bnd (run (F_spec_FoldMachine_L3 s16 r26) 0) (Out.elim (fun (s51 : Int) => bnd ((cond (decide ((s16.1.length : Int) = 1000)) (some (.ret (some ((⟨0, 0, ([] : (List GRule))⟩ : GMachine), 5)))) (bnd (app s16.1 ([r26.next] : List (List Int))) fun z93 => some (.brk (z93, (s16.1.length : Int))))) : Option (Out ((List (List Int)) × Int) (Option (GMachine × Int)))) (Out.elim (fun (s86 : (List (List Int)) × Int) => bnd (app s16.2.1 ([(⟨r26.write, r26.move, s86.2⟩ : GRule)] : List GRule)) fun z104 => some (.inl (s86.1, z104, (w64 (s16.2.2 + 1))))) (fun (r : Option (GMachine × Int)) => some (.inr (.ret r))))) (fun (r : Option (((List (List Int)) × (List GRule) × Int) ⊕ Out ((List (List Int)) × (List GRule) × Int) (Option (GMachine × Int)))) => r))))) (some (.inr (.brk (s16.1, s16.2.1, s16.2.2)))))

noncomputable def F_spec_FoldMachine_L1 (p0 : GMachine) (s13 : (List (List Int)) × (List GRule) × Int) : Option (((List (List Int)) × (List GRule) × Int) ⊕ Out ((List (List Int)) × (List GRule) × Int) (Option (GMachine × Int))) :=
  (cond (decide (s13.2.2 < (s13.1.length : Int))) (bnd (run (F_spec_FoldMachine_L2 p0 s13) (s13.1, s13.2.1, 0)) (Out.elim (fun (s16 : (List (List Int)) × (List GRule) × Int) => some (.inl (s16.1, s16.2.1, (w64 (s13.2.2 + 1))))) (fun (r : Option (GMachine × Int)) => some (.inr (.ret r))))) (some (.inr (.brk (s13.1, s13.2.1, s13.2.2)))))

noncomputable def F_spec_FoldMachine (p0 : GMachine) : Option (GMachine × Int) :=
  bnd (F_spec_l05Is p0) fun r3 => (cond (!r3) (some ((⟨0, 0, ([] : (List GRule))⟩ : GMachine), 1)) (cond (decide (p0.Symbols = 6)) (some ((⟨0, 0, ([] : (List GRule))⟩ : GMachine), 5)) (bnd (run (F_spec_FoldMachine_L1 p0) (([([0, 0, 0] : List Int)] : List (List Int)), ([] : List GRule), 0)) (Out.elim (fun (s13 : (List (List Int)) × (List GRule) × Int) => some ((⟨(w64 (p0.Symbols + 1)), (s13.1.length : Int), s13.2.1⟩ : GMachine), 0)) (fun (r : Option (GMachine × Int)) => r)))))


noncomputable def F_impl_foldAction_1 (p0 : Int) (p1 : Int) (p2 : Int) (p3 : Int) (p4 : GfoldPlace) : Option (Gaction_foldPlace) :=
  some (⟨p3, p0, p1, p4.q, p2, false⟩ : Gaction_foldPlace)


noncomputable def F_impl_foldMain (p0 : GMachine) (p1 : Int) (p2 : Int) (p3 : Int) : Option (Gaction_foldPlace) :=
  bnd (idx p0.Rules (w64 ((w64 (p1 * p0.Symbols)) + p3))) fun y3 => bnd (F_impl_isRule y3) fun r8 => (cond (!r8) (some (⟨0, 0, 0, 0, 0, true⟩ : Gaction_foldPlace)) (cond ((decide (y3.Move = 1)) == (decide (p2 = 0))) (some (⟨y3.Write, 1, 1, y3.Next, p2, false⟩ : Gaction_foldPlace)) (cond (decide (p2 = 0)) (some (⟨y3.Write, (-1), 2, y3.Next, 0, false⟩ : Gaction_foldPlace)) (some (⟨y3.Write, (-1), 4, y3.Next, 0, false⟩ : Gaction_foldPlace)))))


noncomputable def F_impl_foldAction (p0 : GMachine) (p1 : GfoldPlace) (p2 : Int) : Option (Gaction_foldPlace) :=
  bnd ((cond (decide (p1.kind = 0)) (some (.brk (!(decide (p2 = p0.Symbols))))) (some (.brk false))) : Option (Out (Bool) Gaction_foldPlace)) (Out.elim (fun (s5 : Bool) => (cond s5 (bnd (F_impl_foldMain p0 p1.q p1.half p2) fun r9 => some r9) (bnd ((cond (decide (p1.kind = 1)) (some (.brk (!(decide (p2 = p0.Symbols))))) (some (.brk false))) : Option (Out (Bool) Gaction_foldPlace)) (Out.elim (fun (s11 : Bool) => (cond s11 (bnd (F_impl_foldAction_1 1 0 p1.half p2 p1) fun r15 => some r15) (bnd ((cond (decide (p1.kind = 2)) (some (.brk (decide (p2 = p0.Symbols)))) (some (.brk false))) : Option (Out (Bool) Gaction_foldPlace)) (Out.elim (fun (s17 : Bool) => (cond s17 (bnd (F_impl_foldAction_1 1 3 0 p2 p1) fun r21 => some r21) (cond (decide (p1.kind = 2)) (bnd (F_impl_foldAction_1 (-1) 0 0 p2 p1) fun r24 => some r24) (bnd ((cond (decide (p1.kind = 3)) (some (.brk (!(decide (p2 = p0.Symbols))))) (some (.brk false))) : Option (Out (Bool) Gaction_foldPlace)) (Out.elim (fun (s26 : Bool) => (cond s26 (bnd (F_impl_foldAction_1 1 0 1 p2 p1) fun r30 => some r30) (bnd ((cond (decide (p1.kind = 4)) (some (.brk (!(decide (p2 = p0.Symbols))))) (some (.brk false))) : Option (Out (Bool) Gaction_foldPlace)) (Out.elim (fun (s32 : Bool) => (cond s32 (bnd (F_impl_foldAction_1 (-1) 5 0 p2 p1) fun r36 => some r36) (bnd ((cond (decide (p1.kind = 5)) (some (.brk (decide (p2 = p0.Symbols)))) (some (.brk false))) : Option (Out (Bool) Gaction_foldPlace)) (Out.elim (fun (s38 : Bool) => (cond s38 (bnd (F_impl_foldAction_1 1 0 0 p2 p1) fun r42 => some r42) (cond (decide (p1.kind = 5)) (bnd (F_impl_foldMain p0 p1.q 1 p2) fun r45 => some r45) (some (⟨0, 0, 0, 0, 0, true⟩ : Gaction_foldPlace))))) (fun (r : Gaction_foldPlace) => some r))))) (fun (r : Gaction_foldPlace) => some r))))) (fun (r : Gaction_foldPlace) => some r)))))) (fun (r : Gaction_foldPlace) => some r))))) (fun (r : Gaction_foldPlace) => some r))))) (fun (r : Gaction_foldPlace) => some r))


noncomputable def F_impl_folded_1 (p0 : GfoldPlace) (p1 : Int) (p2 : GMachine) : Option (Gaction_foldPlace) :=
  bnd (F_impl_foldAction p2 p0 p1) fun r4 => some r4


noncomputable def F_impl_size_impl_foldPlace (p0 : (List GfoldPlace)) : Option (Int) :=
  some (p0.length : Int)

noncomputable def F_impl_FoldMachine_L2 (p0 : GMachine) (s36 : (List GRule) × (List GfoldPlace) × List (GfoldPlace × Int) × Int) (s39 : (List GRule) × (List GfoldPlace) × List (GfoldPlace × Int) × Int) : Option (((List GRule) × (List GfoldPlace) × List (GfoldPlace × Int) × Int) ⊕ Out ((List GRule) × (List GfoldPlace) × List (GfoldPlace × Int) × Int) (Option (GMachine × Int))) :=
  (cond (decide (s39.2.2.2 < (w64 (p0.Symbols + 1)))) (bnd F_impl_noRule fun r42 => bnd (bnd (idx s39.2.1 s36.2.2.2) fun y47 => bnd (F_impl_folded_1 y47 s39.2.2.2 p0) fun r52 => (cond (!r52.none) (cond (!((mget s39.2.2.1 (⟨r52.next_kind, r52.next_q, r52.next_half⟩ : GfoldPlace)).isSome)) (bnd (F_impl_size_impl_foldPlace s39.2.1) fun r63 => bnd (app s39.2.1 ([(⟨r52.next_kind, r52.next_q, r52.next_half⟩ : GfoldPlace)] : List GfoldPlace)) fun z72 => some (.brk (z72, (mput s39.2.2.1 (⟨r52.next_kind, r52.next_q, r52.next_half⟩ : GfoldPlace) r63), r52.write, r52.move, r63))) (some (.brk (s39.2.1, s39.2.2.1, r52.write, r52.move, ((mget s39.2.2.1 (⟨r52.next_kind, r52.next_q, r52.next_half⟩ : GfoldPlace)).getD 0))))) (some (.brk (s39.2.1, s39.2.2.1, r42.Write, r42.Move, r42.Next)))) : Option (Out ((List GfoldPlace) × List (GfoldPlace × Int) × Int × Int × Int) (Option (GMachine × Int)))) (Out.elim (fun (s45 : (List GfoldPlace) × List (GfoldPlace × Int) × Int × Int × Int) => bnd (app s39.1 ([(⟨s45.2.2.1, s45.2.2.2.1, s45.2.2.2.2⟩ : GRule)] : List GRule)) fun z83 => some (.inl (z83, s45.1, s45.2.1, (w64 (s39.2.2.2 + 1))))) (fun (r : Option (GMachine × Int)) => some (.inr (.ret r))))) (some (.inr (.brk (s39.1, s39.2.1, s39.2.2.1, s39.2.2.2)))))

noncomputable def F_impl_FoldMachine_L1 (p0 : GMachine) (s36 : (List GRule) × (List GfoldPlace) × List (GfoldPlace × Int) × Int) : Option (((List GRule) × (List GfoldPlace) × List (GfoldPlace × Int) × Int) ⊕ Out ((List GRule) × (List GfoldPlace) × List (GfoldPlace × Int) × Int) (Option (GMachine × Int))) :=
  (cond (decide (s36.2.2.2 < (s36.2.1.length : Int))) (bnd (run (F_impl_FoldMachine_L2 p0 s36) (s36.1, s36.2.1, s36.2.2.1, 0)) (Out.elim (fun (s39 : (List GRule) × (List GfoldPlace) × List (GfoldPlace × Int) × Int) => (cond (decide (1000 < (s39.2.1.length : Int))) (some (.inr (.ret (some ((⟨0, 0, ([] : (List GRule))⟩ : GMachine), 5))))) (some (.inl (s39.1, s39.2.1, s39.2.2.1, (w64 (s36.2.2.2 + 1))))))) (fun (r : Option (GMachine × Int)) => some (.inr (.ret r))))) (some (.inr (.brk (s36.1, s36.2.1, s36.2.2.1, s36.2.2.2)))))

noncomputable def F_impl_FoldMachine (p0 : GMachine) : Option (GMachine × Int) :=
  bnd (F_impl_ValidMachine p0) fun r3 => (cond (!r3) (some ((⟨0, 0, ([] : (List GRule))⟩ : GMachine), 1)) (cond (decide (p0.Symbols = 6)) (some ((⟨0, 0, ([] : (List GRule))⟩ : GMachine), 5)) (bnd ((cond (!((mget ([] : List (GfoldPlace × Int)) (⟨0, 0, 0⟩ : GfoldPlace)).isSome)) (bnd (F_impl_size_impl_foldPlace ([] : (List GfoldPlace))) fun r20 => bnd (app ([] : (List GfoldPlace)) ([(⟨0, 0, 0⟩ : GfoldPlace)] : List GfoldPlace)) fun z29 => some (.brk (r20, z29, (mput ([] : List (GfoldPlace × Int)) (⟨0, 0, 0⟩ : GfoldPlace) r20)))) (some (.brk (((mget ([] : List (GfoldPlace × Int)) (⟨0, 0, 0⟩ : GfoldPlace)).getD 0), ([] : (List GfoldPlace)), ([] : List (GfoldPlace × Int)))))) : Option (Out (Int × (List GfoldPlace) × List (GfoldPlace × Int)) (Option (GMachine × Int)))) (Out.elim (fun (s17 : Int × (List GfoldPlace) × List (GfoldPlace × Int)) => bnd (run (F_impl_FoldMachine_L1 p0) (([] : (List GRule)), s17.2.1, s17.2.2, 0)) (Out.elim (fun (s36 : (List GRule) × (List GfoldPlace) × List (GfoldPlace × Int) × Int) => bnd (F_impl_size_impl_foldPlace s36.2.1) fun r93 => some ((⟨(w64 (p0.Symbols + 1)), r93, s36.1⟩ : GMachine), 0)) (fun (r : Option (GMachine × Int)) => r))) (fun (r : Option (GMachine × Int)) => r)))))


noncomputable def F_laws_FnExactFoldMachine (p0 : GMachine) : Option (Bool) :=
  bnd (F_laws_szMachine p0 1048576) fun r2 => (cond (decide (r2 < 0)) (some true) (bnd (F_laws_toMachine p0) fun r5 => bnd (F_spec_FoldMachine r5) fun r8 => bnd (F_laws_toMachine p0) fun r12 => bnd (F_impl_FoldMachine r12) fun r16 => bnd (bnd (F_laws_eqMachine r16.1 r8.1) fun r22 => (cond (!r22) (some (.ret false)) (cond (decide (r16.2 ≠ r8.2)) (some (.ret false)) (some (.brk ())))) : Option (Out (Unit) Bool)) (Out.elim (fun (s20 : Unit) => bnd (F_laws_toMachine p0) fun r29 => bnd (F_laws_eqMachine r12 r29) fun r32 => (cond (!r32) (some false) (bnd (F_laws_markRuleS r12.Rules 1) fun r37 => bnd ((cond (decide (r37.1 < 0)) (some (.ret false)) (bnd (F_laws_eqMachine r16.1 r8.1) fun r42 => (cond (!r42) (some (.ret false)) (cond (decide (r16.2 ≠ r8.2)) (some (.ret false)) (some (.brk ())))))) : Option (Out (Unit) Bool)) (Out.elim (fun (s39 : Unit) => bnd (F_laws_markRuleS r16.1.Rules 1) fun r48 => bnd (F_laws_heldMachine (⟨r16.1.Symbols, r16.1.States, r48.2⟩ : GMachine) 1) fun r50 => (cond (decide (r50 < 0)) (some false) (cond (decide (r50 ≠ r48.1)) (some false) (bnd (F_laws_toMachine p0) fun r54 => bnd (F_impl_FoldMachine r54) fun r57 => bnd (F_laws_eqMachine r57.1 r8.1) fun r61 => (cond (!r61) (some false) (cond (decide (r57.2 ≠ r8.2)) (some false) (bnd (F_laws_heldMachine (⟨r16.1.Symbols, r16.1.States, r48.2⟩ : GMachine) 1) fun r65 => (cond (decide (r65 < 0)) (some false) (cond (decide (r65 ≠ r48.1)) (some false) (some true)))))))))) (fun (r : Bool) => some r))))) (fun (r : Bool) => some r))))


noncomputable def F_laws_szInt64S (p0 : (List Int)) (p1 : Int) : Option (Int) :=
  (cond (decide ((w64 (p1 - (p0.length : Int))) < 0)) (some (-1)) (some (w64 (p1 - (p0.length : Int)))))


noncomputable def F_laws_szConfig (p0 : GConfig) (p1 : Int) : Option (Int) :=
  bnd (F_laws_szInt64S p0.Left p1) fun r2 => (cond (decide (r2 < 0)) (some (-1)) (bnd (F_laws_szInt64S p0.Right r2) fun r5 => (cond (decide (r5 < 0)) (some (-1)) (some r5))))

noncomputable def F_laws_toInt64S_L1 (p0 : (List Int)) (s4 : (List Int) × Int) : Option (((List Int) × Int) ⊕ Out ((List Int) × Int) (List Int)) :=
  (cond (decide (s4.2 < (p0.length : Int))) (bnd (idx p0 s4.2) fun y7 => bnd (idx s4.1 s4.2) fun y11 => some (.inl ((s4.1.set s4.2.toNat y7), (w64 (s4.2 + 1))))) (some (.inr (.brk (s4.1, s4.2)))))

noncomputable def F_laws_toInt64S (p0 : (List Int)) : Option ((List Int)) :=
  bnd (mke (p0.length : Int) (0 : Int)) fun z1 => bnd (run (F_laws_toInt64S_L1 p0) (z1, 0)) (Out.elim (fun (s4 : (List Int) × Int) => some s4.1) (fun (r : (List Int)) => some r))


noncomputable def F_laws_toConfig (p0 : GConfig) : Option (GConfig) :=
  bnd (F_laws_toInt64S p0.Left) fun r4 => bnd (F_laws_toInt64S p0.Right) fun r7 => some (⟨p0.State, r4, r7⟩ : GConfig)

noncomputable def F_spec_l05Cells_L1 (p0 : GMachine) (p1 : (List Int)) (s1 : Int) : Option ((Int) ⊕ Out (Int) Bool) :=
  (cond (decide (s1 < (p1.length : Int))) (bnd (idx p1 s1) fun y4 => bnd (F_spec_l00In y4 0 (w64 (p0.Symbols - 1))) fun r13 => (cond (!r13) (some (.inr (.ret false))) (some (.inl (w64 (s1 + 1)))))) (some (.inr (.brk s1))))

noncomputable def F_spec_l05Cells (p0 : GMachine) (p1 : (List Int)) : Option (Bool) :=
  bnd (run (F_spec_l05Cells_L1 p0 p1) 0) (Out.elim (fun (s1 : Int) => (cond (decide ((p1.length : Int) ≤ 200)) (cond (decide ((p1.length : Int) = 0)) (some true) (bnd (idx p1 (w64 ((p1.length : Int) - 1))) fun y18 => some (decide (y18 ≠ 0)))) (some false))) (fun (r : Bool) => some r))


noncomputable def F_spec_l05Good (p0 : GMachine) (p1 : GConfig) : Option (Bool) :=
  bnd (F_spec_l00In p1.State 0 (w64 (p0.States - 1))) fun r8 => (cond r8 (bnd (F_spec_l05Cells p0 p1.Left) fun r15 => (cond r15 (bnd (F_spec_l05Cells p0 p1.Right) fun r22 => some r22) (some false))) (some false))


noncomputable def F_spec_l13Cell (p0 : (List Int)) (p1 : Int) : Option (Int) :=
  (cond (decide (p1 < (p0.length : Int))) (bnd (idx p0 p1) fun y2 => some y2) (some 0))

noncomputable def F_spec_l05Trim_L1 (p0 : (List Int)) (s1 : Int) : Option ((Int) ⊕ Out (Int) (List Int)) :=
  (cond (decide (0 < s1)) (bnd (idx p0 (w64 (s1 - 1))) fun y4 => (cond (decide (y4 = 0)) (some (.inl (w64 (s1 - 1)))) (some (.inr (.brk s1))))) (some (.inr (.brk s1))))

noncomputable def F_spec_l05Trim (p0 : (List Int)) : Option ((List Int)) :=
  bnd (run (F_spec_l05Trim_L1 p0) (p0.length : Int)) (Out.elim (fun (s1 : Int) => bnd (slc p0 0 s1) fun z9 => bnd (F_spec_l00Own z9) fun r12 => some r12) (fun (r : (List Int)) => some r))

noncomputable def F_spec_FoldConfig_L3 (s22 : (List (List Int)) × (List GRule) × Int) (r32 : Gl13Move) (s57 : Int) : Option ((Int) ⊕ Out (Int) (Option (((List (List Int)) × (List GRule) × Int) ⊕ Out ((List (List Int)) × (List GRule) × Int) (Option (GConfig × Int))))) :=
  (cond (decide (s57 < (s22.1.length : Int))) (bnd (idx s22.1 s57) fun y60 => bnd (F_spec_l00Same y60 r32.next) fun r63 => (cond r63 (some (.inr (.ret (bnd ((cond (decide (s57 < 0)) (cond (decide ((s22.1.length : Int) = 1000)) (some (.ret (some ((⟨0, ([] : (List Int)), ([] : (List Int))⟩ : GConfig), 5)))) (bnd (app s22.1 ([r32.next] : List (List Int))) fun z74 => some (.brk (z74, (s22.1.length : Int))))) (some (.brk (s22.1, s57)))) : Option (Out ((List (List Int)) × Int) (Option (GConfig × Int)))) (Out.elim (fun (s66 : (List (List Int)) × Int) => bnd (app s22.2.1 ([(⟨r32.write, r32.move, s66.2⟩ : GRule)] : List GRule)) fun z85 => some (.inl (s66.1, z85, (w64 (s22.2.2 + 1))))) (fun (r : Option (GConfig × Int)) => some (.inr (.ret r)))))))) (some (.inl (w64 (s57 + 1)))))) (some (.inr (.brk s57))))

noncomputable def F_spec_FoldConfig_L2 (p0 : GMachine) (s19 : (List (List Int)) × (List GRule) × Int) (s22 : (List (List Int)) × (List GRule) × Int) : Option (((List (List Int)) × (List GRule) × Int) ⊕ Out ((List (List Int)) × (List GRule) × Int) (Option (GConfig × Int))) :=
  (cond (decide (s22.2.2 < (w64 (p0.Symbols + 1)))) (bnd (idx s22.1 s19.2.2) fun y25 => bnd (F_spec_l13Fold p0 y25 s22.2.2) fun r32 => (cond (!r32.ok) (bnd (bnd F_spec_l05None fun r42 => bnd (app s22.2.1 ([r42] : List GRule)) fun z45 => some (.brk z45) : Option (Out ((List GRule)) (Option (GConfig × Int)))) (Out.elim (fun (s37 : (List GRule)) => some (.inl (s22.1, s37, (w64 (s22.2.2 + 1))))) (fun (r : Option (GConfig × Int)) => some (.inr (.ret r))))) (bnd (run (F_spec_FoldConfig_L3 s22 r32) 0) (Out.elim (fun (s57 : Int) => bnd ((cond (decide ((s22.1.length : Int) = 1000)) (some (.ret (some ((⟨0, ([] : (List Int)), ([] : (List Int))⟩ : GConfig), 5)))) (bnd (app s22.1 ([r32.next] : List (List Int))) fun z99 => some (.brk (z99, (s22.1.length : Int))))) : Option (Out ((List (List Int)) × Int) (Option (GConfig × Int)))) (Out.elim (fun (s92 : (List (List Int)) × Int) => bnd (app s22.2.1 ([(⟨r32.write, r32.move, s92.2⟩ : GRule)] : List GRule)) fun z110 => some (.inl (s92.1, z110, (w64 (s22.2.2 + 1))))) (fun (r : Option (GConfig × Int)) => some (.inr (.ret r))))) (fun (r : Option (((List (List Int)) × (List GRule) × Int) ⊕ Out ((List (List Int)) × (List GRule) × Int) (Option (GConfig × Int)))) => r))))) (some (.inr (.brk (s22.1, s22.2.1, s22.2.2)))))

noncomputable def F_spec_FoldConfig_L1 (p0 : GMachine) (s19 : (List (List Int)) × (List GRule) × Int) : Option (((List (List Int)) × (List GRule) × Int) ⊕ Out ((List (List Int)) × (List GRule) × Int) (Option (GConfig × Int))) :=
  (cond (decide (s19.2.2 < (s19.1.length : Int))) (bnd (run (F_spec_FoldConfig_L2 p0 s19) (s19.1, s19.2.1, 0)) (Out.elim (fun (s22 : (List (List Int)) × (List GRule) × Int) => some (.inl (s22.1, s22.2.1, (w64 (s19.2.2 + 1))))) (fun (r : Option (GConfig × Int)) => some (.inr (.ret r))))) (some (.inr (.brk (s19.1, s19.2.1, s19.2.2)))))

noncomputable def F_spec_FoldConfig_L5 (p1 : GConfig) (s132 : (List Int) × Int) : Option (((List Int) × Int) ⊕ Out ((List Int) × Int) (GConfig × Int)) :=
  bnd ((cond (decide (s132.2 < (p1.Left.length : Int))) (some (.brk true)) (some (.brk (decide (s132.2 < (p1.Right.length : Int)))))) : Option (Out (Bool) (GConfig × Int))) (Out.elim (fun (s134 : Bool) => (cond s134 (bnd (F_spec_l13Cell p1.Right s132.2) fun r141 => bnd (F_spec_l13Cell p1.Left s132.2) fun r143 => bnd (app s132.1 ([r141, r143] : List Int)) fun z146 => some (.inl (z146, (w64 (s132.2 + 1))))) (some (.inr (.brk (s132.1, s132.2)))))) (fun (r : GConfig × Int) => some (.inr (.ret r))))

noncomputable def F_spec_FoldConfig_L4 (p0 : GMachine) (p1 : GConfig) (s19 : (List (List Int)) × (List GRule) × Int) (s119 : Int) : Option ((Int) ⊕ Out (Int) (Option (GConfig × Int))) :=
  (cond (decide (s119 < (s19.1.length : Int))) (bnd (idx s19.1 s119) fun y122 => bnd (F_spec_l00Same y122 ([0, p1.State, 0] : List Int)) fun r127 => (cond r127 (some (.inr (.ret (cond (decide (s119 < 0)) (some ((⟨0, ([] : (List Int)), ([] : (List Int))⟩ : GConfig), 6)) (bnd (run (F_spec_FoldConfig_L5 p1) (([] : List Int), 0)) (Out.elim (fun (s132 : (List Int) × Int) => bnd (F_spec_l05Trim s132.1) fun r152 => bnd (F_spec_l05Good (⟨(w64 (p0.Symbols + 1)), (s19.1.length : Int), s19.2.1⟩ : GMachine) (⟨s119, ([p0.Symbols] : List Int), r152⟩ : GConfig)) fun r157 => (cond (!r157) (some ((⟨0, ([] : (List Int)), ([] : (List Int))⟩ : GConfig), 5)) (some ((⟨s119, ([p0.Symbols] : List Int), r152⟩ : GConfig), 0)))) (fun (r : GConfig × Int) => some r))))))) (some (.inl (w64 (s119 + 1)))))) (some (.inr (.brk s119))))

noncomputable def F_spec_FoldConfig (p0 : GMachine) (p1 : GConfig) : Option (GConfig × Int) :=
  bnd (bnd (F_spec_l05Is p0) fun r6 => (cond (!r6) (some (.ret ((⟨0, ([] : (List Int)), ([] : (List Int))⟩ : GConfig), 1))) (bnd (F_spec_l05Good p0 p1) fun r9 => (cond (!r9) (some (.ret ((⟨0, ([] : (List Int)), ([] : (List Int))⟩ : GConfig), 1))) (some (.brk ()))))) : Option (Out (Unit) (GConfig × Int))) (Out.elim (fun (s4 : Unit) => (cond (decide (p0.Symbols = 6)) (some ((⟨0, ([] : (List Int)), ([] : (List Int))⟩ : GConfig), 5)) (bnd (run (F_spec_FoldConfig_L1 p0) (([([0, 0, 0] : List Int)] : List (List Int)), ([] : List GRule), 0)) (Out.elim (fun (s19 : (List (List Int)) × (List GRule) × Int) => bnd (run (F_spec_FoldConfig_L4 p0 p1 s19) 0) (Out.elim (fun (s119 : Int) => some ((⟨0, ([] : (List Int)), ([] : (List Int))⟩ : GConfig), 6)) (fun (r : Option (GConfig × Int)) => r))) (fun (r : Option (GConfig × Int)) => r))))) (fun (r : GConfig × Int) => some r))


noncomputable def F_impl_size_int64 (p0 : (List Int)) : Option (Int) :=
  some (p0.length : Int)

noncomputable def F_impl_allWithin_L1 (p0 : (List Int)) (p1 : Int) (p2 : Int) (s1 : Int) : Option ((Int) ⊕ Out (Int) Bool) :=
  (cond (decide (s1 < (p0.length : Int))) (bnd (idx p0 s1) fun y4 => bnd (F_impl_within y4 p1 p2) fun r8 => (cond (!r8) (some (.inr (.ret false))) (some (.inl (w64 (s1 + 1)))))) (some (.inr (.brk s1))))

noncomputable def F_impl_allWithin (p0 : (List Int)) (p1 : Int) (p2 : Int) : Option (Bool) :=
  bnd (run (F_impl_allWithin_L1 p0 p1 p2) 0) (Out.elim (fun (s1 : Int) => some true) (fun (r : Bool) => some r))


noncomputable def F_impl_validSide (p0 : (List Int)) (p1 : Int) (p2 : Int) : Option (Bool) :=
  bnd (F_impl_size_int64 p0) fun r1 => (cond (decide (r1 ≤ p2)) (bnd (F_impl_allWithin p0 0 (w64 (p1 - 1))) fun r4 => (cond r4 (cond (decide ((p0.length : Int) = 0)) (some true) (bnd (idx p0 (w64 ((p0.length : Int) - 1))) fun y8 => some (decide (y8 ≠ 0)))) (some false))) (some false))


noncomputable def F_impl_configOf (p0 : GMachine) (p1 : GConfig) : Option (Bool) :=
  bnd (F_impl_within p1.State 0 (w64 (p0.States - 1))) fun r3 => (cond r3 (bnd (F_impl_validSide p1.Left p0.Symbols 200) fun r6 => (cond r6 (bnd (F_impl_validSide p1.Right p0.Symbols 200) fun r9 => some r9) (some false))) (some false))


noncomputable def F_impl_ValidConfig (p0 : GMachine) (p1 : GConfig) : Option (Bool) :=
  bnd (F_impl_ValidMachine p0) fun r3 => (cond r3 (bnd (F_impl_configOf p0 p1) fun r6 => some r6) (some false))


noncomputable def F_impl_symbolAt (p0 : (List Int)) (p1 : Int) : Option (Int) :=
  (cond (decide ((p0.length : Int) ≤ p1)) (some 0) (bnd (idx p0 p1) fun y2 => some y2))

noncomputable def F_impl_trimmed_L1 (s1 : (List Int)) : Option (((List Int)) ⊕ Out ((List Int)) (List Int)) :=
  (cond (decide (0 < (s1.length : Int))) (bnd (idx s1 (w64 ((s1.length : Int) - 1))) fun y4 => (cond (decide (y4 = 0)) (bnd (slc s1 0 (w64 ((s1.length : Int) - 1))) fun z9 => some (.inl z9)) (some (.inr (.brk s1))))) (some (.inr (.brk s1))))

noncomputable def F_impl_trimmed (p0 : (List Int)) : Option ((List Int)) :=
  bnd (run (F_impl_trimmed_L1) p0) (Out.elim (fun (s1 : (List Int)) => some s1) (fun (r : (List Int)) => some r))

noncomputable def F_impl_FoldConfig_L2 (p0 : GMachine) (s35 : (List GRule) × (List GfoldPlace) × List (GfoldPlace × Int) × Int) (s38 : (List GRule) × (List GfoldPlace) × List (GfoldPlace × Int) × Int) : Option (((List GRule) × (List GfoldPlace) × List (GfoldPlace × Int) × Int) ⊕ Out ((List GRule) × (List GfoldPlace) × List (GfoldPlace × Int) × Int) (Option (GConfig × Int))) :=
  (cond (decide (s38.2.2.2 < (w64 (p0.Symbols + 1)))) (bnd F_impl_noRule fun r41 => bnd (bnd (idx s38.2.1 s35.2.2.2) fun y46 => bnd (F_impl_folded_1 y46 s38.2.2.2 p0) fun r51 => (cond (!r51.none) (cond (!((mget s38.2.2.1 (⟨r51.next_kind, r51.next_q, r51.next_half⟩ : GfoldPlace)).isSome)) (bnd (F_impl_size_impl_foldPlace s38.2.1) fun r62 => bnd (app s38.2.1 ([(⟨r51.next_kind, r51.next_q, r51.next_half⟩ : GfoldPlace)] : List GfoldPlace)) fun z71 => some (.brk (z71, (mput s38.2.2.1 (⟨r51.next_kind, r51.next_q, r51.next_half⟩ : GfoldPlace) r62), r51.write, r51.move, r62))) (some (.brk (s38.2.1, s38.2.2.1, r51.write, r51.move, ((mget s38.2.2.1 (⟨r51.next_kind, r51.next_q, r51.next_half⟩ : GfoldPlace)).getD 0))))) (some (.brk (s38.2.1, s38.2.2.1, r41.Write, r41.Move, r41.Next)))) : Option (Out ((List GfoldPlace) × List (GfoldPlace × Int) × Int × Int × Int) (Option (GConfig × Int)))) (Out.elim (fun (s44 : (List GfoldPlace) × List (GfoldPlace × Int) × Int × Int × Int) => bnd (app s38.1 ([(⟨s44.2.2.1, s44.2.2.2.1, s44.2.2.2.2⟩ : GRule)] : List GRule)) fun z82 => some (.inl (z82, s44.1, s44.2.1, (w64 (s38.2.2.2 + 1))))) (fun (r : Option (GConfig × Int)) => some (.inr (.ret r))))) (some (.inr (.brk (s38.1, s38.2.1, s38.2.2.1, s38.2.2.2)))))

noncomputable def F_impl_FoldConfig_L1 (p0 : GMachine) (s35 : (List GRule) × (List GfoldPlace) × List (GfoldPlace × Int) × Int) : Option (((List GRule) × (List GfoldPlace) × List (GfoldPlace × Int) × Int) ⊕ Out ((List GRule) × (List GfoldPlace) × List (GfoldPlace × Int) × Int) (Option (GConfig × Int))) :=
  (cond (decide (s35.2.2.2 < (s35.2.1.length : Int))) (bnd (run (F_impl_FoldConfig_L2 p0 s35) (s35.1, s35.2.1, s35.2.2.1, 0)) (Out.elim (fun (s38 : (List GRule) × (List GfoldPlace) × List (GfoldPlace × Int) × Int) => (cond (decide (1000 < (s38.2.1.length : Int))) (some (.inr (.ret (some ((⟨0, ([] : (List Int)), ([] : (List Int))⟩ : GConfig), 5))))) (some (.inl (s38.1, s38.2.1, s38.2.2.1, (w64 (s35.2.2.2 + 1))))))) (fun (r : Option (GConfig × Int)) => some (.inr (.ret r))))) (some (.inr (.brk (s35.1, s35.2.1, s35.2.2.1, s35.2.2.2)))))

noncomputable def F_impl_FoldConfig_L3 (p1 : GConfig) (s93 : (List Int) × Int) : Option (((List Int) × Int) ⊕ Out ((List Int) × Int) (GConfig × Int)) :=
  (cond (decide (s93.2 < (if (p1.Right.length : Int) > (p1.Left.length : Int) then (p1.Right.length : Int) else (p1.Left.length : Int)))) (bnd (F_impl_symbolAt p1.Right s93.2) fun r99 => bnd (F_impl_symbolAt p1.Left s93.2) fun r101 => bnd (app s93.1 ([r99, r101] : List Int)) fun z104 => some (.inl (z104, (w64 (s93.2 + 1))))) (some (.inr (.brk (s93.1, s93.2)))))

noncomputable def F_impl_FoldConfig (p0 : GMachine) (p1 : GConfig) : Option (GConfig × Int) :=
  bnd (F_impl_ValidConfig p0 p1) fun r4 => (cond (!r4) (some ((⟨0, ([] : (List Int)), ([] : (List Int))⟩ : GConfig), 1)) (cond (decide (p0.Symbols = 6)) (some ((⟨0, ([] : (List Int)), ([] : (List Int))⟩ : GConfig), 5)) (bnd ((cond (!((mget ([] : List (GfoldPlace × Int)) (⟨0, 0, 0⟩ : GfoldPlace)).isSome)) (bnd (F_impl_size_impl_foldPlace ([] : (List GfoldPlace))) fun r19 => bnd (app ([] : (List GfoldPlace)) ([(⟨0, 0, 0⟩ : GfoldPlace)] : List GfoldPlace)) fun z28 => some (.brk (r19, z28, (mput ([] : List (GfoldPlace × Int)) (⟨0, 0, 0⟩ : GfoldPlace) r19)))) (some (.brk (((mget ([] : List (GfoldPlace × Int)) (⟨0, 0, 0⟩ : GfoldPlace)).getD 0), ([] : (List GfoldPlace)), ([] : List (GfoldPlace × Int)))))) : Option (Out (Int × (List GfoldPlace) × List (GfoldPlace × Int)) (Option (GConfig × Int)))) (Out.elim (fun (s16 : Int × (List GfoldPlace) × List (GfoldPlace × Int)) => bnd (run (F_impl_FoldConfig_L1 p0) (([] : (List GRule)), s16.2.1, s16.2.2, 0)) (Out.elim (fun (s35 : (List GRule) × (List GfoldPlace) × List (GfoldPlace × Int) × Int) => bnd (F_impl_size_impl_foldPlace s35.2.1) fun r90 => bnd (run (F_impl_FoldConfig_L3 p1) (([] : List Int), 0)) (Out.elim (fun (s93 : (List Int) × Int) => (cond (!((mget s35.2.2.1 (⟨0, p1.State, 0⟩ : GfoldPlace)).isSome)) (some ((⟨0, ([] : (List Int)), ([] : (List Int))⟩ : GConfig), 6)) (bnd (F_impl_trimmed ([p0.Symbols] : List Int)) fun r112 => bnd (F_impl_trimmed s93.1) fun r115 => bnd (F_impl_configOf (⟨(w64 (p0.Symbols + 1)), r90, s35.1⟩ : GMachine) (⟨((mget s35.2.2.1 (⟨0, p1.State, 0⟩ : GfoldPlace)).getD 0), r112, r115⟩ : GConfig)) fun r122 => (cond (!r122) (some ((⟨0, ([] : (List Int)), ([] : (List Int))⟩ : GConfig), 5)) (some ((⟨((mget s35.2.2.1 (⟨0, p1.State, 0⟩ : GfoldPlace)).getD 0), r112, r115⟩ : GConfig), 0)))))) (fun (r : GConfig × Int) => some r))) (fun (r : Option (GConfig × Int)) => r))) (fun (r : Option (GConfig × Int)) => r)))))

noncomputable def F_laws_eqInt64S_L1 (p0 : (List Int)) (p1 : (List Int)) (s2 : Int) : Option ((Int) ⊕ Out (Int) Bool) :=
  (cond (decide (s2 < (p0.length : Int))) (bnd (idx p0 s2) fun y5 => bnd (idx p1 s2) fun y9 => (cond (decide (y5 ≠ y9)) (some (.inr (.ret false))) (some (.inl (w64 (s2 + 1)))))) (some (.inr (.brk s2))))

noncomputable def F_laws_eqInt64S (p0 : (List Int)) (p1 : (List Int)) : Option (Bool) :=
  (cond (decide ((p0.length : Int) ≠ (p1.length : Int))) (some false) (bnd (run (F_laws_eqInt64S_L1 p0 p1) 0) (Out.elim (fun (s2 : Int) => some true) (fun (r : Bool) => some r))))


noncomputable def F_laws_eqConfig (p0 : GConfig) (p1 : GConfig) : Option (Bool) :=
  (cond (decide (p0.State ≠ p1.State)) (some false) (bnd (F_laws_eqInt64S p0.Left p1.Left) fun r4 => (cond (!r4) (some false) (bnd (F_laws_eqInt64S p0.Right p1.Right) fun r7 => (cond (!r7) (some false) (some true))))))

noncomputable def F_laws_markInt64S_L1 (s1 : (List Int) × Int × Int) : Option (((List Int) × Int × Int) ⊕ Out ((List Int) × Int × Int) (Int × (List Int))) :=
  (cond (decide (s1.2.2 < (s1.1.length : Int))) (bnd (idx s1.1 s1.2.2) fun y4 => some (.inl ((s1.1.set s1.2.2.toNat s1.2.1), (w64 (s1.2.1 + 1)), (w64 (s1.2.2 + 1))))) (some (.inr (.brk (s1.1, s1.2.1, s1.2.2)))))

noncomputable def F_laws_markInt64S (p0 : (List Int)) (p1 : Int) : Option (Int × (List Int)) :=
  bnd (run (F_laws_markInt64S_L1) (p0, p1, 0)) (Out.elim (fun (s1 : (List Int) × Int × Int) => some (s1.2.1, s1.1)) (fun (r : Int × (List Int)) => some r))

noncomputable def F_laws_heldInt64S_L1 (p0 : (List Int)) (s1 : Int × Int) : Option ((Int × Int) ⊕ Out (Int × Int) Int) :=
  (cond (decide (s1.2 < (p0.length : Int))) (bnd (idx p0 s1.2) fun y4 => (cond (decide (y4 ≠ s1.1)) (some (.inr (.ret (-1)))) (some (.inl ((w64 (s1.1 + 1)), (w64 (s1.2 + 1))))))) (some (.inr (.brk (s1.1, s1.2)))))

noncomputable def F_laws_heldInt64S (p0 : (List Int)) (p1 : Int) : Option (Int) :=
  bnd (run (F_laws_heldInt64S_L1 p0) (p1, 0)) (Out.elim (fun (s1 : Int × Int) => some s1.1) (fun (r : Int) => some r))


noncomputable def F_laws_heldConfig (p0 : GConfig) (p1 : Int) : Option (Int) :=
  bnd (F_laws_heldInt64S p0.Left p1) fun r2 => (cond (decide (r2 < 0)) (some (-1)) (bnd (F_laws_heldInt64S p0.Right r2) fun r5 => (cond (decide (r5 < 0)) (some (-1)) (some r5))))


noncomputable def F_laws_FnExactFoldConfig (p0 : GMachine) (p1 : GConfig) : Option (Bool) :=
  bnd (F_laws_szMachine p0 1048576) fun r3 => (cond (decide (r3 < 0)) (some true) (bnd (F_laws_szConfig p1 r3) fun r6 => (cond (decide (r6 < 0)) (some true) (bnd (bnd (F_laws_toMachine p0) fun r14 => bnd (F_laws_toConfig p1) fun r17 => bnd (F_spec_FoldConfig r14 r17) fun r20 => some (.brk (r20.1.State, r20.1.Left, r20.1.Right, r20.2)) : Option (Out (Int × (List Int) × (List Int) × Int) Bool)) (Out.elim (fun (s9 : Int × (List Int) × (List Int) × Int) => bnd (F_laws_toMachine p0) fun r39 => bnd (F_laws_toConfig p1) fun r43 => bnd (F_impl_FoldConfig r39 r43) fun r47 => bnd (bnd (F_laws_eqConfig r47.1 (⟨s9.1, s9.2.1, s9.2.2.1⟩ : GConfig)) fun r53 => (cond (!r53) (some (.ret false)) (cond (decide (r47.2 ≠ s9.2.2.2)) (some (.ret false)) (some (.brk ())))) : Option (Out (Unit) Bool)) (Out.elim (fun (s51 : Unit) => bnd (F_laws_toMachine p0) fun r60 => bnd (F_laws_eqMachine r39 r60) fun r63 => (cond (!r63) (some false) (bnd (F_laws_toConfig p1) fun r69 => bnd (F_laws_eqConfig r43 r69) fun r72 => (cond (!r72) (some false) (bnd (F_laws_markRuleS r39.Rules 1) fun r77 => bnd (F_laws_markInt64S r43.Left r77.1) fun r81 => bnd (F_laws_markInt64S r43.Right r81.1) fun r83 => bnd ((cond (decide (r83.1 < 0)) (some (.ret false)) (bnd (F_laws_eqConfig r47.1 (⟨s9.1, s9.2.1, s9.2.2.1⟩ : GConfig)) fun r88 => (cond (!r88) (some (.ret false)) (cond (decide (r47.2 ≠ s9.2.2.2)) (some (.ret false)) (some (.brk ())))))) : Option (Out (Unit) Bool)) (Out.elim (fun (s85 : Unit) => bnd (F_laws_markInt64S r47.1.Left 1) fun r94 => bnd (F_laws_markInt64S r47.1.Right r94.1) fun r96 => bnd (F_laws_heldConfig (⟨r47.1.State, r94.2, r96.2⟩ : GConfig) 1) fun r98 => (cond (decide (r98 < 0)) (some false) (cond (decide (r98 ≠ r96.1)) (some false) (bnd (bnd (F_laws_toMachine p0) fun r107 => bnd (F_laws_toConfig p1) fun r110 => bnd (F_impl_FoldConfig r107 r110) fun r113 => some (.brk (r113.1.State, r113.1.Left, r113.1.Right, r113.2)) : Option (Out (Int × (List Int) × (List Int) × Int) Bool)) (Out.elim (fun (s102 : Int × (List Int) × (List Int) × Int) => bnd (F_laws_eqConfig (⟨s102.1, s102.2.1, s102.2.2.1⟩ : GConfig) (⟨s9.1, s9.2.1, s9.2.2.1⟩ : GConfig)) fun r132 => (cond (!r132) (some false) (cond (decide (s102.2.2.2 ≠ s9.2.2.2)) (some false) (bnd (F_laws_heldConfig (⟨r47.1.State, r94.2, r96.2⟩ : GConfig) 1) fun r136 => (cond (decide (r136 < 0)) (some false) (cond (decide (r136 ≠ r96.1)) (some false) (some true))))))) (fun (r : Bool) => some r)))))) (fun (r : Bool) => some r))))))) (fun (r : Bool) => some r))) (fun (r : Bool) => some r))))))

noncomputable def F_spec_l13Codes_L2 (p0 : (List Int)) (p1 : Int) (p2 : Bool) (s2 : (List Int) × Int) (s5 : (List Int) × Int) : Option (((List Int) × Int) ⊕ Out ((List Int) × Int) (List Int)) :=
  (cond (decide (s5.2 < p1)) (cond p2 (bnd (idx p0 s2.2) fun y9 => bnd (F_spec_l13Bit y9 p1 (w64 ((w64 (p1 - 1)) - s5.2))) fun r13 => bnd (app s5.1 ([r13] : List Int)) fun z16 => some (.inl (z16, (w64 (s5.2 + 1))))) (bnd (idx p0 s2.2) fun y19 => bnd (F_spec_l13Bit y19 p1 s5.2) fun r23 => bnd (app s5.1 ([r23] : List Int)) fun z26 => some (.inl (z26, (w64 (s5.2 + 1)))))) (some (.inr (.brk (s5.1, s5.2)))))

noncomputable def F_spec_l13Codes_L1 (p0 : (List Int)) (p1 : Int) (p2 : Bool) (s2 : (List Int) × Int) : Option (((List Int) × Int) ⊕ Out ((List Int) × Int) (List Int)) :=
  (cond (decide (s2.2 < (p0.length : Int))) (bnd (run (F_spec_l13Codes_L2 p0 p1 p2 s2) (s2.1, 0)) (Out.elim (fun (s5 : (List Int) × Int) => some (.inl (s5.1, (w64 (s2.2 + 1))))) (fun (r : (List Int)) => some (.inr (.ret r))))) (some (.inr (.brk (s2.1, s2.2)))))

noncomputable def F_spec_l13Codes (p0 : (List Int)) (p1 : Int) (p2 : Bool) : Option ((List Int)) :=
  bnd (run (F_spec_l13Codes_L1 p0 p1 p2) (([] : List Int), 0)) (Out.elim (fun (s2 : (List Int) × Int) => some s2.1) (fun (r : (List Int)) => some r))

noncomputable def F_spec_BinaryConfig_L3 (s21 : (List (List Int)) × (List GRule) × Int) (r31 : Gl13Move) (s56 : Int) : Option ((Int) ⊕ Out (Int) (Option (((List (List Int)) × (List GRule) × Int) ⊕ Out ((List (List Int)) × (List GRule) × Int) (Option (GConfig × Int))))) :=
  (cond (decide (s56 < (s21.1.length : Int))) (bnd (idx s21.1 s56) fun y59 => bnd (F_spec_l00Same y59 r31.next) fun r62 => (cond r62 (some (.inr (.ret (bnd ((cond (decide (s56 < 0)) (cond (decide ((s21.1.length : Int) = 1000)) (some (.ret (some ((⟨0, ([] : (List Int)), ([] : (List Int))⟩ : GConfig), 5)))) (bnd (app s21.1 ([r31.next] : List (List Int))) fun z73 => some (.brk (z73, (s21.1.length : Int))))) (some (.brk (s21.1, s56)))) : Option (Out ((List (List Int)) × Int) (Option (GConfig × Int)))) (Out.elim (fun (s65 : (List (List Int)) × Int) => bnd (app s21.2.1 ([(⟨r31.write, r31.move, s65.2⟩ : GRule)] : List GRule)) fun z84 => some (.inl (s65.1, z84, (w64 (s21.2.2 + 1))))) (fun (r : Option (GConfig × Int)) => some (.inr (.ret r)))))))) (some (.inl (w64 (s56 + 1)))))) (some (.inr (.brk s56))))

noncomputable def F_spec_BinaryConfig_L2 (p0 : GMachine) (s18 : (List (List Int)) × (List GRule) × Int) (s21 : (List (List Int)) × (List GRule) × Int) : Option (((List (List Int)) × (List GRule) × Int) ⊕ Out ((List (List Int)) × (List GRule) × Int) (Option (GConfig × Int))) :=
  (cond (decide (s21.2.2 < 2)) (bnd (idx s21.1 s18.2.2) fun y24 => bnd (F_spec_l13Binary p0 y24 s21.2.2) fun r31 => (cond (!r31.ok) (bnd (bnd F_spec_l05None fun r41 => bnd (app s21.2.1 ([r41] : List GRule)) fun z44 => some (.brk z44) : Option (Out ((List GRule)) (Option (GConfig × Int)))) (Out.elim (fun (s36 : (List GRule)) => some (.inl (s21.1, s36, (w64 (s21.2.2 + 1))))) (fun (r : Option (GConfig × Int)) => some (.inr (.ret r))))) (bnd (run (F_spec_BinaryConfig_L3 s21 r31) 0) (Out.elim (fun (s56 : Int) => bnd ((cond (decide ((s21.1.length : Int) = 1000)) (some (.ret (some ((⟨0, ([] : (List Int)), ([] : (List Int))⟩ : GConfig), 5)))) (bnd (app s21.1 ([r31.next] : List (List Int))) fun z98 => some (.brk (z98, (s21.1.length : Int))))) : Option (Out ((List (List Int)) × Int) (Option (GConfig × Int)))) (Out.elim (fun (s91 : (List (List Int)) × Int) => bnd (app s21.2.1 ([(⟨r31.write, r31.move, s91.2⟩ : GRule)] : List GRule)) fun z109 => some (.inl (s91.1, z109, (w64 (s21.2.2 + 1))))) (fun (r : Option (GConfig × Int)) => some (.inr (.ret r))))) (fun (r : Option (((List (List Int)) × (List GRule) × Int) ⊕ Out ((List (List Int)) × (List GRule) × Int) (Option (GConfig × Int)))) => r))))) (some (.inr (.brk (s21.1, s21.2.1, s21.2.2)))))

noncomputable def F_spec_BinaryConfig_L1 (p0 : GMachine) (s18 : (List (List Int)) × (List GRule) × Int) : Option (((List (List Int)) × (List GRule) × Int) ⊕ Out ((List (List Int)) × (List GRule) × Int) (Option (GConfig × Int))) :=
  (cond (decide (s18.2.2 < (s18.1.length : Int))) (bnd (run (F_spec_BinaryConfig_L2 p0 s18) (s18.1, s18.2.1, 0)) (Out.elim (fun (s21 : (List (List Int)) × (List GRule) × Int) => some (.inl (s21.1, s21.2.1, (w64 (s18.2.2 + 1))))) (fun (r : Option (GConfig × Int)) => some (.inr (.ret r))))) (some (.inr (.brk (s18.1, s18.2.1, s18.2.2)))))

noncomputable def F_spec_BinaryConfig_L4 (p0 : GMachine) (p1 : GConfig) (s18 : (List (List Int)) × (List GRule) × Int) (s118 : Int) : Option ((Int) ⊕ Out (Int) (Option (GConfig × Int))) :=
  (cond (decide (s118 < (s18.1.length : Int))) (bnd (idx s18.1 s118) fun y121 => bnd (F_spec_l00Same y121 ([0, p1.State, 0, 0] : List Int)) fun r126 => (cond r126 (some (.inr (.ret (cond (decide (s118 < 0)) (some ((⟨0, ([] : (List Int)), ([] : (List Int))⟩ : GConfig), 6)) (bnd (F_spec_l13Bits p0.Symbols) fun r130 => bnd (F_spec_l13Codes p1.Left r130 true) fun r135 => bnd (F_spec_l05Trim r135) fun r138 => bnd (F_spec_l13Codes p1.Right r130 false) fun r141 => bnd (F_spec_l05Trim r141) fun r144 => bnd (F_spec_l05Good (⟨2, (s18.1.length : Int), s18.2.1⟩ : GMachine) (⟨s118, r138, r144⟩ : GConfig)) fun r148 => (cond (!r148) (some ((⟨0, ([] : (List Int)), ([] : (List Int))⟩ : GConfig), 5)) (some ((⟨s118, r138, r144⟩ : GConfig), 0)))))))) (some (.inl (w64 (s118 + 1)))))) (some (.inr (.brk s118))))

noncomputable def F_spec_BinaryConfig (p0 : GMachine) (p1 : GConfig) : Option (GConfig × Int) :=
  bnd (bnd (F_spec_l05Is p0) fun r6 => (cond (!r6) (some (.ret ((⟨0, ([] : (List Int)), ([] : (List Int))⟩ : GConfig), 1))) (bnd (F_spec_l05Good p0 p1) fun r9 => (cond (!r9) (some (.ret ((⟨0, ([] : (List Int)), ([] : (List Int))⟩ : GConfig), 1))) (some (.brk ()))))) : Option (Out (Unit) (GConfig × Int))) (Out.elim (fun (s4 : Unit) => bnd (run (F_spec_BinaryConfig_L1 p0) (([([0, 0, 0, 0] : List Int)] : List (List Int)), ([] : List GRule), 0)) (Out.elim (fun (s18 : (List (List Int)) × (List GRule) × Int) => bnd (run (F_spec_BinaryConfig_L4 p0 p1 s18) 0) (Out.elim (fun (s118 : Int) => some ((⟨0, ([] : (List Int)), ([] : (List Int))⟩ : GConfig), 6)) (fun (r : Option (GConfig × Int)) => r))) (fun (r : Option (GConfig × Int)) => r))) (fun (r : GConfig × Int) => some r))


noncomputable def F_slices_Clone_Sint64_int64 (p0 : (List Int)) : Option ((List Int)) :=
  bnd (app ([] : List Int) p0) fun z3 => some z3

noncomputable def F_impl_reversed_L1 (s5 : (List Int) × Int × Int) : Option (((List Int) × Int × Int) ⊕ Out ((List Int) × Int × Int) (Option ((List Int)))) :=
  (cond (decide (s5.2.1 < s5.2.2)) (bnd (idx s5.1 s5.2.2) fun y8 => bnd (idx s5.1 s5.2.1) fun y12 => bnd (idx s5.1 s5.2.1) fun y19 => bnd (idx (s5.1.set s5.2.1.toNat y8) s5.2.2) fun y21 => some (.inl (((s5.1.set s5.2.1.toNat y8).set s5.2.2.toNat y12), (w64 (s5.2.1 + 1)), (w64 (s5.2.2 - 1))))) (some (.inr (.brk (s5.1, s5.2.1, s5.2.2)))))

noncomputable def F_impl_reversed (p0 : (List Int)) : Option ((List Int)) :=
  bnd (F_slices_Clone_Sint64_int64 p0) fun r1 => bnd (run (F_impl_reversed_L1) (r1, 0, (w64 ((r1.length : Int) - 1)))) (Out.elim (fun (s5 : (List Int) × Int × Int) => some s5.1) (fun (r : Option ((List Int))) => r))

noncomputable def F_impl_coded_L2 (p1 : Int) (y5 : Int) (s9 : (List Int) × Int) : Option (((List Int) × Int) ⊕ Out ((List Int) × Int) (List Int)) :=
  (cond (decide (s9.2 < p1)) (bnd (F_impl_bitAt y5 p1 s9.2) fun r12 => bnd (app s9.1 ([r12] : List Int)) fun z15 => some (.inl (z15, (w64 (s9.2 + 1))))) (some (.inr (.brk (s9.1, s9.2)))))

noncomputable def F_impl_coded_L1 (p0 : (List Int)) (p1 : Int) (s2 : (List Int) × Int) : Option (((List Int) × Int) ⊕ Out ((List Int) × Int) (List Int)) :=
  (cond (decide (s2.2 < (p0.length : Int))) (bnd (idx p0 s2.2) fun y5 => bnd (run (F_impl_coded_L2 p1 y5) (s2.1, 0)) (Out.elim (fun (s9 : (List Int) × Int) => some (.inl (s9.1, (w64 (s2.2 + 1))))) (fun (r : (List Int)) => some (.inr (.ret r))))) (some (.inr (.brk (s2.1, s2.2)))))

noncomputable def F_impl_coded (p0 : (List Int)) (p1 : Int) : Option ((List Int)) :=
  bnd (run (F_impl_coded_L1 p0 p1) (([] : List Int), 0)) (Out.elim (fun (s2 : (List Int) × Int) => some s2.1) (fun (r : (List Int)) => some r))

noncomputable def F_impl_BinaryConfig_L2 (p0 : GMachine) (r9 : Int) (s39 : (List GRule) × (List GbitPlace) × List (GbitPlace × Int) × Int) (s42 : (List GRule) × (List GbitPlace) × List (GbitPlace × Int) × Int) : Option (((List GRule) × (List GbitPlace) × List (GbitPlace × Int) × Int) ⊕ Out ((List GRule) × (List GbitPlace) × List (GbitPlace × Int) × Int) (Option (GConfig × Int))) :=
  (cond (decide (s42.2.2.2 < 2)) (bnd F_impl_noRule fun r45 => bnd (bnd (idx s42.2.1 s39.2.2.2) fun y50 => bnd (F_impl_binary_1 y50 s42.2.2.2 p0 r9) fun r55 => (cond (!r55.none) (cond (!((mget s42.2.2.1 (⟨r55.next_kind, r55.next_a, r55.next_b, r55.next_c⟩ : GbitPlace)).isSome)) (bnd (F_impl_size_impl_bitPlace s42.2.1) fun r66 => bnd (app s42.2.1 ([(⟨r55.next_kind, r55.next_a, r55.next_b, r55.next_c⟩ : GbitPlace)] : List GbitPlace)) fun z75 => some (.brk (z75, (mput s42.2.2.1 (⟨r55.next_kind, r55.next_a, r55.next_b, r55.next_c⟩ : GbitPlace) r66), r55.write, r55.move, r66))) (some (.brk (s42.2.1, s42.2.2.1, r55.write, r55.move, ((mget s42.2.2.1 (⟨r55.next_kind, r55.next_a, r55.next_b, r55.next_c⟩ : GbitPlace)).getD 0))))) (some (.brk (s42.2.1, s42.2.2.1, r45.Write, r45.Move, r45.Next)))) : Option (Out ((List GbitPlace) × List (GbitPlace × Int) × Int × Int × Int) (Option (GConfig × Int)))) (Out.elim (fun (s48 : (List GbitPlace) × List (GbitPlace × Int) × Int × Int × Int) => bnd (app s42.1 ([(⟨s48.2.2.1, s48.2.2.2.1, s48.2.2.2.2⟩ : GRule)] : List GRule)) fun z86 => some (.inl (z86, s48.1, s48.2.1, (w64 (s42.2.2.2 + 1))))) (fun (r : Option (GConfig × Int)) => some (.inr (.ret r))))) (some (.inr (.brk (s42.1, s42.2.1, s42.2.2.1, s42.2.2.2)))))

noncomputable def F_impl_BinaryConfig_L1 (p0 : GMachine) (r9 : Int) (s39 : (List GRule) × (List GbitPlace) × List (GbitPlace × Int) × Int) : Option (((List GRule) × (List GbitPlace) × List (GbitPlace × Int) × Int) ⊕ Out ((List GRule) × (List GbitPlace) × List (GbitPlace × Int) × Int) (Option (GConfig × Int))) :=
  (cond (decide (s39.2.2.2 < (s39.2.1.length : Int))) (bnd (run (F_impl_BinaryConfig_L2 p0 r9 s39) (s39.1, s39.2.1, s39.2.2.1, 0)) (Out.elim (fun (s42 : (List GRule) × (List GbitPlace) × List (GbitPlace × Int) × Int) => (cond (decide (1000 < (s42.2.1.length : Int))) (some (.inr (.ret (some ((⟨0, ([] : (List Int)), ([] : (List Int))⟩ : GConfig), 5))))) (some (.inl (s42.1, s42.2.1, s42.2.2.1, (w64 (s39.2.2.2 + 1))))))) (fun (r : Option (GConfig × Int)) => some (.inr (.ret r))))) (some (.inr (.brk (s39.1, s39.2.1, s39.2.2.1, s39.2.2.2)))))

noncomputable def F_impl_BinaryConfig (p0 : GMachine) (p1 : GConfig) : Option (GConfig × Int) :=
  bnd (F_impl_ValidConfig p0 p1) fun r4 => (cond (!r4) (some ((⟨0, ([] : (List Int)), ([] : (List Int))⟩ : GConfig), 1)) (bnd (F_impl_bitsOf p0) fun r9 => bnd (F_impl_startOf 0) fun r12 => bnd ((cond (!((mget ([] : List (GbitPlace × Int)) r12).isSome)) (bnd (F_impl_size_impl_bitPlace ([] : (List GbitPlace))) fun r23 => bnd (app ([] : (List GbitPlace)) ([r12] : List GbitPlace)) fun z32 => some (.brk (r23, z32, (mput ([] : List (GbitPlace × Int)) r12 r23)))) (some (.brk (((mget ([] : List (GbitPlace × Int)) r12).getD 0), ([] : (List GbitPlace)), ([] : List (GbitPlace × Int)))))) : Option (Out (Int × (List GbitPlace) × List (GbitPlace × Int)) (Option (GConfig × Int)))) (Out.elim (fun (s20 : Int × (List GbitPlace) × List (GbitPlace × Int)) => bnd (run (F_impl_BinaryConfig_L1 p0 r9) (([] : (List GRule)), s20.2.1, s20.2.2, 0)) (Out.elim (fun (s39 : (List GRule) × (List GbitPlace) × List (GbitPlace × Int) × Int) => bnd (F_impl_size_impl_bitPlace s39.2.1) fun r94 => bnd (F_impl_bitsOf p0) fun r96 => bnd (F_impl_startOf p1.State) fun r101 => bnd (F_impl_reversed p1.Left) fun r103 => bnd (F_impl_coded r103 r96) fun r106 => bnd (F_impl_reversed r106) fun r109 => bnd (F_impl_coded p1.Right r96) fun r112 => (cond (!((mget s39.2.2.1 r101).isSome)) (some ((⟨0, ([] : (List Int)), ([] : (List Int))⟩ : GConfig), 6)) (bnd (F_impl_trimmed r109) fun r120 => bnd (F_impl_trimmed r112) fun r123 => bnd (F_impl_configOf (⟨2, r94, s39.1⟩ : GMachine) (⟨((mget s39.2.2.1 r101).getD 0), r120, r123⟩ : GConfig)) fun r130 => (cond (!r130) (some ((⟨0, ([] : (List Int)), ([] : (List Int))⟩ : GConfig), 5)) (some ((⟨((mget s39.2.2.1 r101).getD 0), r120, r123⟩ : GConfig), 0)))))) (fun (r : Option (GConfig × Int)) => r))) (fun (r : Option (GConfig × Int)) => r))))


noncomputable def F_laws_FnExactBinaryConfig (p0 : GMachine) (p1 : GConfig) : Option (Bool) :=
  bnd (F_laws_szMachine p0 1048576) fun r3 => (cond (decide (r3 < 0)) (some true) (bnd (F_laws_szConfig p1 r3) fun r6 => (cond (decide (r6 < 0)) (some true) (bnd (bnd (F_laws_toMachine p0) fun r14 => bnd (F_laws_toConfig p1) fun r17 => bnd (F_spec_BinaryConfig r14 r17) fun r20 => some (.brk (r20.1.State, r20.1.Left, r20.1.Right, r20.2)) : Option (Out (Int × (List Int) × (List Int) × Int) Bool)) (Out.elim (fun (s9 : Int × (List Int) × (List Int) × Int) => bnd (F_laws_toMachine p0) fun r39 => bnd (F_laws_toConfig p1) fun r43 => bnd (F_impl_BinaryConfig r39 r43) fun r47 => bnd (bnd (F_laws_eqConfig r47.1 (⟨s9.1, s9.2.1, s9.2.2.1⟩ : GConfig)) fun r53 => (cond (!r53) (some (.ret false)) (cond (decide (r47.2 ≠ s9.2.2.2)) (some (.ret false)) (some (.brk ())))) : Option (Out (Unit) Bool)) (Out.elim (fun (s51 : Unit) => bnd (F_laws_toMachine p0) fun r60 => bnd (F_laws_eqMachine r39 r60) fun r63 => (cond (!r63) (some false) (bnd (F_laws_toConfig p1) fun r69 => bnd (F_laws_eqConfig r43 r69) fun r72 => (cond (!r72) (some false) (bnd (F_laws_markRuleS r39.Rules 1) fun r77 => bnd (F_laws_markInt64S r43.Left r77.1) fun r81 => bnd (F_laws_markInt64S r43.Right r81.1) fun r83 => bnd ((cond (decide (r83.1 < 0)) (some (.ret false)) (bnd (F_laws_eqConfig r47.1 (⟨s9.1, s9.2.1, s9.2.2.1⟩ : GConfig)) fun r88 => (cond (!r88) (some (.ret false)) (cond (decide (r47.2 ≠ s9.2.2.2)) (some (.ret false)) (some (.brk ())))))) : Option (Out (Unit) Bool)) (Out.elim (fun (s85 : Unit) => bnd (F_laws_markInt64S r47.1.Left 1) fun r94 => bnd (F_laws_markInt64S r47.1.Right r94.1) fun r96 => bnd (F_laws_heldConfig (⟨r47.1.State, r94.2, r96.2⟩ : GConfig) 1) fun r98 => (cond (decide (r98 < 0)) (some false) (cond (decide (r98 ≠ r96.1)) (some false) (bnd (bnd (F_laws_toMachine p0) fun r107 => bnd (F_laws_toConfig p1) fun r110 => bnd (F_impl_BinaryConfig r107 r110) fun r113 => some (.brk (r113.1.State, r113.1.Left, r113.1.Right, r113.2)) : Option (Out (Int × (List Int) × (List Int) × Int) Bool)) (Out.elim (fun (s102 : Int × (List Int) × (List Int) × Int) => bnd (F_laws_eqConfig (⟨s102.1, s102.2.1, s102.2.2.1⟩ : GConfig) (⟨s9.1, s9.2.1, s9.2.2.1⟩ : GConfig)) fun r132 => (cond (!r132) (some false) (cond (decide (s102.2.2.2 ≠ s9.2.2.2)) (some false) (bnd (F_laws_heldConfig (⟨r47.1.State, r94.2, r96.2⟩ : GConfig) 1) fun r136 => (cond (decide (r136 < 0)) (some false) (cond (decide (r136 ≠ r96.1)) (some false) (some true))))))) (fun (r : Bool) => some r)))))) (fun (r : Bool) => some r))))))) (fun (r : Bool) => some r))) (fun (r : Bool) => some r))))))

noncomputable def F_spec_l03Reverse_L1 (p0 : (List Int)) (s2 : (List Int) × Int) : Option (((List Int) × Int) ⊕ Out ((List Int) × Int) (List Int)) :=
  (cond (decide (0 ≤ s2.2)) (bnd (idx p0 s2.2) fun y5 => bnd (app s2.1 ([y5] : List Int)) fun z10 => some (.inl (z10, (w64 (s2.2 - 1))))) (some (.inr (.brk (s2.1, s2.2)))))

noncomputable def F_spec_l03Reverse (p0 : (List Int)) : Option ((List Int)) :=
  bnd (run (F_spec_l03Reverse_L1 p0) (([] : List Int), (w64 ((p0.length : Int) - 1)))) (Out.elim (fun (s2 : (List Int) × Int) => some s2.1) (fun (r : (List Int)) => some r))

noncomputable def F_spec_l13Symbols_L2 (p0 : (List Int)) (p1 : Int) (p3 : Bool) (s2 : (List Int) × Int) (s5 : Int × Int) : Option ((Int × Int) ⊕ Out (Int × Int) ((List Int) × Bool)) :=
  (cond (decide (s5.2 < p1)) (bnd ((cond p3 (some (.brk (w64 ((w64 ((w64 (s2.2 + p1)) - 1)) - s5.2)))) (some (.brk (w64 (s2.2 + s5.2))))) : Option (Out (Int) ((List Int) × Bool))) (Out.elim (fun (s8 : Int) => (cond (decide (s8 < (p0.length : Int))) (bnd (idx p0 s8) fun y12 => some (.inl ((w64 ((w64 (s5.1 * 2)) + y12)), (w64 (s5.2 + 1))))) (some (.inl ((w64 (s5.1 * 2)), (w64 (s5.2 + 1))))))) (fun (r : (List Int) × Bool) => some (.inr (.ret r))))) (some (.inr (.brk (s5.1, s5.2)))))

noncomputable def F_spec_l13Symbols_L1 (p0 : (List Int)) (p1 : Int) (p2 : Int) (p3 : Bool) (s2 : (List Int) × Int) : Option (((List Int) × Int) ⊕ Out ((List Int) × Int) ((List Int) × Bool)) :=
  (cond (decide (s2.2 < (p0.length : Int))) (bnd (run (F_spec_l13Symbols_L2 p0 p1 p3 s2) (0, 0)) (Out.elim (fun (s5 : Int × Int) => (cond (decide (p2 ≤ s5.1)) (some (.inr (.ret (([] : (List Int)), false)))) (bnd (app s2.1 ([s5.1] : List Int)) fun z18 => some (.inl (z18, (w64 (s2.2 + p1))))))) (fun (r : (List Int) × Bool) => some (.inr (.ret r))))) (some (.inr (.brk (s2.1, s2.2)))))

noncomputable def F_spec_l13Symbols (p0 : (List Int)) (p1 : Int) (p2 : Int) (p3 : Bool) : Option ((List Int) × Bool) :=
  bnd (run (F_spec_l13Symbols_L1 p0 p1 p2 p3) (([] : List Int), 0)) (Out.elim (fun (s2 : (List Int) × Int) => bnd (F_spec_l05Trim s2.1) fun r21 => some (r21, true)) (fun (r : (List Int) × Bool) => some r))

noncomputable def F_spec_DecodeBinary_L3 (s16 : (List (List Int)) × (List GRule) × Int) (r26 : Gl13Move) (s51 : Int) : Option ((Int) ⊕ Out (Int) (Option (((List (List Int)) × (List GRule) × Int) ⊕ Out ((List (List Int)) × (List GRule) × Int) (Option (GConfig × Int))))) :=
  (cond (decide (s51 < (s16.1.length : Int))) (bnd (idx s16.1 s51) fun y54 => bnd (F_spec_l00Same y54 r26.next) fun r57 => (cond r57 (some (.inr (.ret (bnd ((cond (decide (s51 < 0)) (cond (decide ((s16.1.length : Int) = 1000)) (some (.ret (some ((⟨0, ([] : (List Int)), ([] : (List Int))⟩ : GConfig), 5)))) (bnd (app s16.1 ([r26.next] : List (List Int))) fun z68 => some (.brk (z68, (s16.1.length : Int))))) (some (.brk (s16.1, s51)))) : Option (Out ((List (List Int)) × Int) (Option (GConfig × Int)))) (Out.elim (fun (s60 : (List (List Int)) × Int) => bnd (app s16.2.1 ([(⟨r26.write, r26.move, s60.2⟩ : GRule)] : List GRule)) fun z79 => some (.inl (s60.1, z79, (w64 (s16.2.2 + 1))))) (fun (r : Option (GConfig × Int)) => some (.inr (.ret r)))))))) (some (.inl (w64 (s51 + 1)))))) (some (.inr (.brk s51))))

noncomputable def F_spec_DecodeBinary_L2 (p0 : GMachine) (s13 : (List (List Int)) × (List GRule) × Int) (s16 : (List (List Int)) × (List GRule) × Int) : Option (((List (List Int)) × (List GRule) × Int) ⊕ Out ((List (List Int)) × (List GRule) × Int) (Option (GConfig × Int))) :=
  (cond (decide (s16.2.2 < 2)) (bnd (idx s16.1 s13.2.2) fun y19 => bnd (F_spec_l13Binary p0 y19 s16.2.2) fun r26 => (cond (!r26.ok) (bnd (bnd F_spec_l05None fun r36 => bnd (app s16.2.1 ([r36] : List GRule)) fun z39 => some (.brk z39) : Option (Out ((List GRule)) (Option (GConfig × Int)))) (Out.elim (fun (s31 : (List GRule)) => some (.inl (s16.1, s31, (w64 (s16.2.2 + 1))))) (fun (r : Option (GConfig × Int)) => some (.inr (.ret r))))) (bnd (run (F_spec_DecodeBinary_L3 s16 r26) 0) (Out.elim (fun (s51 : Int) => bnd ((cond (decide ((s16.1.length : Int) = 1000)) (some (.ret (some ((⟨0, ([] : (List Int)), ([] : (List Int))⟩ : GConfig), 5)))) (bnd (app s16.1 ([r26.next] : List (List Int))) fun z93 => some (.brk (z93, (s16.1.length : Int))))) : Option (Out ((List (List Int)) × Int) (Option (GConfig × Int)))) (Out.elim (fun (s86 : (List (List Int)) × Int) => bnd (app s16.2.1 ([(⟨r26.write, r26.move, s86.2⟩ : GRule)] : List GRule)) fun z104 => some (.inl (s86.1, z104, (w64 (s16.2.2 + 1))))) (fun (r : Option (GConfig × Int)) => some (.inr (.ret r))))) (fun (r : Option (((List (List Int)) × (List GRule) × Int) ⊕ Out ((List (List Int)) × (List GRule) × Int) (Option (GConfig × Int)))) => r))))) (some (.inr (.brk (s16.1, s16.2.1, s16.2.2)))))

noncomputable def F_spec_DecodeBinary_L1 (p0 : GMachine) (s13 : (List (List Int)) × (List GRule) × Int) : Option (((List (List Int)) × (List GRule) × Int) ⊕ Out ((List (List Int)) × (List GRule) × Int) (Option (GConfig × Int))) :=
  (cond (decide (s13.2.2 < (s13.1.length : Int))) (bnd (run (F_spec_DecodeBinary_L2 p0 s13) (s13.1, s13.2.1, 0)) (Out.elim (fun (s16 : (List (List Int)) × (List GRule) × Int) => some (.inl (s16.1, s16.2.1, (w64 (s13.2.2 + 1))))) (fun (r : Option (GConfig × Int)) => some (.inr (.ret r))))) (some (.inr (.brk (s13.1, s13.2.1, s13.2.2)))))

noncomputable def F_spec_DecodeBinary_L4 (y127 : Int) (s134 : (List Int)) : Option (((List Int)) ⊕ Out ((List Int)) (GConfig × Int)) :=
  (cond (decide ((s134.length : Int) < y127)) (bnd (app s134 ([0] : List Int)) fun z138 => some (.inl z138)) (some (.inr (.brk s134))))

noncomputable def F_spec_DecodeBinary (p0 : GMachine) (p1 : GConfig) : Option (GConfig × Int) :=
  bnd (F_spec_l05Is p0) fun r4 => (cond (!r4) (some ((⟨0, ([] : (List Int)), ([] : (List Int))⟩ : GConfig), 1)) (bnd (run (F_spec_DecodeBinary_L1 p0) (([([0, 0, 0, 0] : List Int)] : List (List Int)), ([] : List GRule), 0)) (Out.elim (fun (s13 : (List (List Int)) × (List GRule) × Int) => bnd (F_spec_l05Good (⟨2, (s13.1.length : Int), s13.2.1⟩ : GMachine) p1) fun r111 => (cond (!r111) (some ((⟨0, ([] : (List Int)), ([] : (List Int))⟩ : GConfig), 2)) (bnd (idx s13.1 p1.State) fun y114 => bnd (idx y114 0) fun y122 => (cond (decide (y122 ≠ 0)) (some ((⟨0, ([] : (List Int)), ([] : (List Int))⟩ : GConfig), 6)) (bnd (idx y114 2) fun y127 => bnd (F_spec_l00Own p1.Left) fun r131 => bnd (run (F_spec_DecodeBinary_L4 y127) r131) (Out.elim (fun (s134 : (List Int)) => bnd (slc s134 0 y127) fun z141 => bnd (F_spec_l03Reverse z141) fun r147 => bnd (app r147 p1.Right) fun z150 => bnd (F_spec_l13Bits p0.Symbols) fun r153 => bnd (slc s134 y127 (s134.length : Int)) fun z155 => bnd (F_spec_l13Symbols z155 r153 p0.Symbols true) fun r161 => bnd (F_spec_l13Symbols z150 r153 p0.Symbols false) fun r164 => (cond (!r161.2) (some ((⟨0, ([] : (List Int)), ([] : (List Int))⟩ : GConfig), 9)) (cond (!r164.2) (some ((⟨0, ([] : (List Int)), ([] : (List Int))⟩ : GConfig), 9)) (bnd (idx y114 1) fun y169 => some ((⟨y169, r161.1, r164.1⟩ : GConfig), 0))))) (fun (r : GConfig × Int) => some r))))))) (fun (r : Option (GConfig × Int)) => r))))

noncomputable def F_slices_Concat_Sint64_int64_L1 (p0 : (List (List Int))) (s1 : Int × Int) : Option ((Int × Int) ⊕ Out (Int × Int) (List Int)) :=
  (cond (decide (s1.2 < (p0.length : Int))) (bnd (idx p0 s1.2) fun y4 => (cond (decide ((w64 (s1.1 + (y4.length : Int))) < 0)) none (some (.inl ((w64 (s1.1 + (y4.length : Int))), (w64 (s1.2 + 1))))))) (some (.inr (.brk (s1.1, s1.2)))))

noncomputable def F_slices_Concat_Sint64_int64_L2 (p0 : (List (List Int))) (s20 : (List Int) × Int) : Option (((List Int) × Int) ⊕ Out ((List Int) × Int) (List Int)) :=
  (cond (decide (s20.2 < (p0.length : Int))) (bnd (idx p0 s20.2) fun y23 => bnd (app s20.1 y23) fun z27 => some (.inl (z27, (w64 (s20.2 + 1))))) (some (.inr (.brk (s20.1, s20.2)))))

noncomputable def F_slices_Concat_Sint64_int64_L3 (p0 : (List (List Int))) (s30 : (List Int) × Int) : Option (((List Int) × Int) ⊕ Out ((List Int) × Int) (List Int)) :=
  (cond (decide (s30.2 < (p0.length : Int))) (bnd (idx p0 s30.2) fun y33 => bnd (app s30.1 y33) fun z37 => some (.inl (z37, (w64 (s30.2 + 1))))) (some (.inr (.brk (s30.1, s30.2)))))

noncomputable def F_slices_Concat_Sint64_int64 (p0 : (List (List Int))) : Option ((List Int)) :=
  bnd (run (F_slices_Concat_Sint64_int64_L1 p0) (0, 0)) (Out.elim (fun (s1 : Int × Int) => bnd ((cond (decide (s1.1 < 0)) none (some (.brk ()))) : Option (Out (Unit) (Option ((List Int))))) (Out.elim (fun (s10 : Unit) => (cond (decide (0 < (w64 (s1.1 - (w64 (((0 : Nat) : Int) - ((0 : Nat) : Int))))))) (bnd (mke (w64 (s1.1 - (w64 (((0 : Nat) : Int) - ((0 : Nat) : Int))))) (0 : Int)) fun z14 => bnd (slc z14 0 ((0 : Nat) : Int)) fun z17 => bnd (run (F_slices_Concat_Sint64_int64_L2 p0) (z17, 0)) (Out.elim (fun (s20 : (List Int) × Int) => some s20.1) (fun (r : (List Int)) => some r))) (bnd (run (F_slices_Concat_Sint64_int64_L3 p0) (([] : (List Int)), 0)) (Out.elim (fun (s30 : (List Int) × Int) => some s30.1) (fun (r : (List Int)) => some r))))) (fun (r : Option ((List Int))) => r))) (fun (r : (List Int)) => some r))


noncomputable def F_impl_joined (p0 : (List (List Int))) : Option ((List Int)) :=
  bnd (F_slices_Concat_Sint64_int64 p0) fun r1 => some r1

noncomputable def F_impl_decodedSide_L2 (p0 : (List Int)) (p1 : Int) (s2 : (List Int) × Int) (s5 : Int × Int) : Option ((Int × Int) ⊕ Out (Int × Int) ((List Int) × Bool)) :=
  (cond (decide (s5.2 < p1)) (cond (decide ((w64 (s2.2 + s5.2)) < (p0.length : Int))) (bnd (idx p0 (w64 (s2.2 + s5.2))) fun y9 => some (.inl ((w64 ((w64 (s5.1 * 2)) + y9)), (w64 (s5.2 + 1))))) (some (.inl ((w64 (s5.1 * 2)), (w64 (s5.2 + 1)))))) (some (.inr (.brk (s5.1, s5.2)))))

noncomputable def F_impl_decodedSide_L1 (p0 : (List Int)) (p1 : Int) (p2 : Int) (s2 : (List Int) × Int) : Option (((List Int) × Int) ⊕ Out ((List Int) × Int) ((List Int) × Bool)) :=
  (cond (decide (s2.2 < (p0.length : Int))) (bnd (run (F_impl_decodedSide_L2 p0 p1 s2) (0, 0)) (Out.elim (fun (s5 : Int × Int) => (cond (decide (p2 ≤ s5.1)) (some (.inr (.ret (([] : (List Int)), false)))) (bnd (app s2.1 ([s5.1] : List Int)) fun z15 => some (.inl (z15, (w64 (s2.2 + p1))))))) (fun (r : (List Int) × Bool) => some (.inr (.ret r))))) (some (.inr (.brk (s2.1, s2.2)))))

noncomputable def F_impl_decodedSide_L3 (s19 : (List Int)) : Option (((List Int)) ⊕ Out ((List Int)) (Option ((List Int) × Bool))) :=
  (cond (decide (0 < (s19.length : Int))) (bnd (idx s19 (w64 ((s19.length : Int) - 1))) fun y22 => (cond (decide (y22 = 0)) (bnd (slc s19 0 (w64 ((s19.length : Int) - 1))) fun z28 => some (.inl z28)) (some (.inr (.brk s19))))) (some (.inr (.brk s19))))

noncomputable def F_impl_decodedSide (p0 : (List Int)) (p1 : Int) (p2 : Int) : Option ((List Int) × Bool) :=
  bnd (run (F_impl_decodedSide_L1 p0 p1 p2) (([] : List Int), 0)) (Out.elim (fun (s2 : (List Int) × Int) => bnd (run (F_impl_decodedSide_L3) s2.1) (Out.elim (fun (s19 : (List Int)) => some (s19, true)) (fun (r : Option ((List Int) × Bool)) => r))) (fun (r : (List Int) × Bool) => some r))

noncomputable def F_impl_decodedLeft_L1 (p1 : Int) (s4 : (List Int)) : Option (((List Int)) ⊕ Out ((List Int)) ((List Int) × Bool)) :=
  bnd (F_impl_size_int64 s4) fun r6 => bnd (nz p1) fun u8 => (cond (decide ((Int.tmod r6 p1) ≠ 0)) (bnd (app s4 ([0] : List Int)) fun z12 => some (.inl z12)) (some (.inr (.brk s4))))

noncomputable def F_impl_decodedLeft_L2 (p1 : Int) (s4 : (List Int)) (s22 : (List Int)) : Option (((List Int)) ⊕ Out ((List Int)) ((List Int) × Bool)) :=
  bnd (F_impl_size_int64 s22) fun r24 => bnd (F_impl_size_int64 s4) fun r26 => bnd (nz p1) fun u28 => (cond (decide (r24 < (w64 (Int.tdiv r26 p1)))) (bnd (app s22 ([0] : List Int)) fun z32 => some (.inl z32)) (some (.inr (.brk s22))))

noncomputable def F_impl_decodedLeft (p0 : (List Int)) (p1 : Int) (p2 : Int) : Option ((List Int) × Bool) :=
  bnd (F_slices_Clone_Sint64_int64 p0) fun r1 => bnd (run (F_impl_decodedLeft_L1 p1) r1) (Out.elim (fun (s4 : (List Int)) => bnd (F_impl_reversed s4) fun r15 => bnd (F_impl_decodedSide r15 p1 p2) fun r18 => (cond (!r18.2) (some (([] : (List Int)), false)) (bnd (run (F_impl_decodedLeft_L2 p1 s4) r18.1) (Out.elim (fun (s22 : (List Int)) => bnd (F_impl_reversed s22) fun r35 => bnd (F_impl_trimmed r35) fun r38 => some (r38, true)) (fun (r : (List Int) × Bool) => some r))))) (fun (r : (List Int) × Bool) => some r))

noncomputable def F_impl_DecodeBinary_L2 (p0 : GMachine) (r9 : Int) (s39 : (List GRule) × (List GbitPlace) × List (GbitPlace × Int) × Int) (s42 : (List GRule) × (List GbitPlace) × List (GbitPlace × Int) × Int) : Option (((List GRule) × (List GbitPlace) × List (GbitPlace × Int) × Int) ⊕ Out ((List GRule) × (List GbitPlace) × List (GbitPlace × Int) × Int) (Option (GConfig × Int))) :=
  (cond (decide (s42.2.2.2 < 2)) (bnd F_impl_noRule fun r45 => bnd (bnd (idx s42.2.1 s39.2.2.2) fun y50 => bnd (F_impl_binary_1 y50 s42.2.2.2 p0 r9) fun r55 => (cond (!r55.none) (cond (!((mget s42.2.2.1 (⟨r55.next_kind, r55.next_a, r55.next_b, r55.next_c⟩ : GbitPlace)).isSome)) (bnd (F_impl_size_impl_bitPlace s42.2.1) fun r66 => bnd (app s42.2.1 ([(⟨r55.next_kind, r55.next_a, r55.next_b, r55.next_c⟩ : GbitPlace)] : List GbitPlace)) fun z75 => some (.brk (z75, (mput s42.2.2.1 (⟨r55.next_kind, r55.next_a, r55.next_b, r55.next_c⟩ : GbitPlace) r66), r55.write, r55.move, r66))) (some (.brk (s42.2.1, s42.2.2.1, r55.write, r55.move, ((mget s42.2.2.1 (⟨r55.next_kind, r55.next_a, r55.next_b, r55.next_c⟩ : GbitPlace)).getD 0))))) (some (.brk (s42.2.1, s42.2.2.1, r45.Write, r45.Move, r45.Next)))) : Option (Out ((List GbitPlace) × List (GbitPlace × Int) × Int × Int × Int) (Option (GConfig × Int)))) (Out.elim (fun (s48 : (List GbitPlace) × List (GbitPlace × Int) × Int × Int × Int) => bnd (app s42.1 ([(⟨s48.2.2.1, s48.2.2.2.1, s48.2.2.2.2⟩ : GRule)] : List GRule)) fun z86 => some (.inl (z86, s48.1, s48.2.1, (w64 (s42.2.2.2 + 1))))) (fun (r : Option (GConfig × Int)) => some (.inr (.ret r))))) (some (.inr (.brk (s42.1, s42.2.1, s42.2.2.1, s42.2.2.2)))))

noncomputable def F_impl_DecodeBinary_L1 (p0 : GMachine) (r9 : Int) (s39 : (List GRule) × (List GbitPlace) × List (GbitPlace × Int) × Int) : Option (((List GRule) × (List GbitPlace) × List (GbitPlace × Int) × Int) ⊕ Out ((List GRule) × (List GbitPlace) × List (GbitPlace × Int) × Int) (Option (GConfig × Int))) :=
  (cond (decide (s39.2.2.2 < (s39.2.1.length : Int))) (bnd (run (F_impl_DecodeBinary_L2 p0 r9 s39) (s39.1, s39.2.1, s39.2.2.1, 0)) (Out.elim (fun (s42 : (List GRule) × (List GbitPlace) × List (GbitPlace × Int) × Int) => (cond (decide (1000 < (s42.2.1.length : Int))) (some (.inr (.ret (some ((⟨0, ([] : (List Int)), ([] : (List Int))⟩ : GConfig), 5))))) (some (.inl (s42.1, s42.2.1, s42.2.2.1, (w64 (s39.2.2.2 + 1))))))) (fun (r : Option (GConfig × Int)) => some (.inr (.ret r))))) (some (.inr (.brk (s39.1, s39.2.1, s39.2.2.1, s39.2.2.2)))))

noncomputable def F_impl_DecodeBinary_L3 (s112 : Int × Int × Int × Int × Int) (s134 : (List Int) × (List Int) × Int) : Option (((List Int) × (List Int) × Int) ⊕ Out ((List Int) × (List Int) × Int) (Option (GConfig × Int))) :=
  (cond (decide (s134.2.2 < s112.2.2.1)) (cond (decide (0 < (s134.1.length : Int))) (bnd (idx s134.1 0) fun y138 => bnd (slc s134.1 1 (s134.1.length : Int)) fun z142 => bnd (F_impl_joined ([([y138] : List Int), s134.2.1] : List (List Int))) fun r147 => some (.inl (z142, r147, (w64 (s134.2.2 + 1))))) (bnd (F_impl_joined ([([0] : List Int), s134.2.1] : List (List Int))) fun r152 => some (.inl (s134.1, r152, (w64 (s134.2.2 + 1)))))) (some (.inr (.brk (s134.1, s134.2.1, s134.2.2)))))

noncomputable def F_impl_DecodeBinary (p0 : GMachine) (p1 : GConfig) : Option (GConfig × Int) :=
  bnd (F_impl_ValidMachine p0) fun r4 => (cond (!r4) (some ((⟨0, ([] : (List Int)), ([] : (List Int))⟩ : GConfig), 1)) (bnd (F_impl_bitsOf p0) fun r9 => bnd (F_impl_startOf 0) fun r12 => bnd ((cond (!((mget ([] : List (GbitPlace × Int)) r12).isSome)) (bnd (F_impl_size_impl_bitPlace ([] : (List GbitPlace))) fun r23 => bnd (app ([] : (List GbitPlace)) ([r12] : List GbitPlace)) fun z32 => some (.brk (r23, z32, (mput ([] : List (GbitPlace × Int)) r12 r23)))) (some (.brk (((mget ([] : List (GbitPlace × Int)) r12).getD 0), ([] : (List GbitPlace)), ([] : List (GbitPlace × Int)))))) : Option (Out (Int × (List GbitPlace) × List (GbitPlace × Int)) (Option (GConfig × Int)))) (Out.elim (fun (s20 : Int × (List GbitPlace) × List (GbitPlace × Int)) => bnd (run (F_impl_DecodeBinary_L1 p0 r9) (([] : (List GRule)), s20.2.1, s20.2.2, 0)) (Out.elim (fun (s39 : (List GRule) × (List GbitPlace) × List (GbitPlace × Int) × Int) => bnd (F_impl_size_impl_bitPlace s39.2.1) fun r94 => bnd (F_impl_configOf (⟨2, r94, s39.1⟩ : GMachine) p1) fun r99 => (cond (!r99) (some ((⟨0, ([] : (List Int)), ([] : (List Int))⟩ : GConfig), 2)) (bnd (idx s39.2.1 p1.State) fun y102 => (cond (decide (y102.kind ≠ 0)) (some ((⟨0, ([] : (List Int)), ([] : (List Int))⟩ : GConfig), 6)) (bnd (bnd (idx s39.2.1 p1.State) fun y114 => bnd (F_impl_bitsOf p0) fun r121 => some (.brk (y114.kind, y114.a, y114.b, y114.c, r121)) : Option (Out (Int × Int × Int × Int × Int) (Option (GConfig × Int)))) (Out.elim (fun (s112 : Int × Int × Int × Int × Int) => bnd (F_slices_Clone_Sint64_int64 p1.Left) fun r128 => bnd (F_slices_Clone_Sint64_int64 p1.Right) fun r131 => bnd (run (F_impl_DecodeBinary_L3 s112) (r128, r131, 0)) (Out.elim (fun (s134 : (List Int) × (List Int) × Int) => bnd (F_impl_decodedLeft s134.1 s112.2.2.2.2 p0.Symbols) fun r155 => bnd (F_impl_decodedSide s134.2.1 s112.2.2.2.2 p0.Symbols) fun r158 => (cond (!r155.2) (some ((⟨0, ([] : (List Int)), ([] : (List Int))⟩ : GConfig), 9)) (cond (!r158.2) (some ((⟨0, ([] : (List Int)), ([] : (List Int))⟩ : GConfig), 9)) (some ((⟨s112.2.1, r155.1, r158.1⟩ : GConfig), 0))))) (fun (r : Option (GConfig × Int)) => r))) (fun (r : Option (GConfig × Int)) => r))))))) (fun (r : Option (GConfig × Int)) => r))) (fun (r : Option (GConfig × Int)) => r))))


noncomputable def F_laws_FnExactDecodeBinary (p0 : GMachine) (p1 : GConfig) : Option (Bool) :=
  bnd (F_laws_szMachine p0 1048576) fun r3 => (cond (decide (r3 < 0)) (some true) (bnd (F_laws_szConfig p1 r3) fun r6 => (cond (decide (r6 < 0)) (some true) (bnd (bnd (F_laws_toMachine p0) fun r14 => bnd (F_laws_toConfig p1) fun r17 => bnd (F_spec_DecodeBinary r14 r17) fun r20 => some (.brk (r20.1.State, r20.1.Left, r20.1.Right, r20.2)) : Option (Out (Int × (List Int) × (List Int) × Int) Bool)) (Out.elim (fun (s9 : Int × (List Int) × (List Int) × Int) => bnd (F_laws_toMachine p0) fun r39 => bnd (F_laws_toConfig p1) fun r43 => bnd (F_impl_DecodeBinary r39 r43) fun r47 => bnd (bnd (F_laws_eqConfig r47.1 (⟨s9.1, s9.2.1, s9.2.2.1⟩ : GConfig)) fun r53 => (cond (!r53) (some (.ret false)) (cond (decide (r47.2 ≠ s9.2.2.2)) (some (.ret false)) (some (.brk ())))) : Option (Out (Unit) Bool)) (Out.elim (fun (s51 : Unit) => bnd (F_laws_toMachine p0) fun r60 => bnd (F_laws_eqMachine r39 r60) fun r63 => (cond (!r63) (some false) (bnd (F_laws_toConfig p1) fun r69 => bnd (F_laws_eqConfig r43 r69) fun r72 => (cond (!r72) (some false) (bnd (F_laws_markRuleS r39.Rules 1) fun r77 => bnd (F_laws_markInt64S r43.Left r77.1) fun r81 => bnd (F_laws_markInt64S r43.Right r81.1) fun r83 => bnd ((cond (decide (r83.1 < 0)) (some (.ret false)) (bnd (F_laws_eqConfig r47.1 (⟨s9.1, s9.2.1, s9.2.2.1⟩ : GConfig)) fun r88 => (cond (!r88) (some (.ret false)) (cond (decide (r47.2 ≠ s9.2.2.2)) (some (.ret false)) (some (.brk ())))))) : Option (Out (Unit) Bool)) (Out.elim (fun (s85 : Unit) => bnd (F_laws_markInt64S r47.1.Left 1) fun r94 => bnd (F_laws_markInt64S r47.1.Right r94.1) fun r96 => bnd (F_laws_heldConfig (⟨r47.1.State, r94.2, r96.2⟩ : GConfig) 1) fun r98 => (cond (decide (r98 < 0)) (some false) (cond (decide (r98 ≠ r96.1)) (some false) (bnd (bnd (F_laws_toMachine p0) fun r107 => bnd (F_laws_toConfig p1) fun r110 => bnd (F_impl_DecodeBinary r107 r110) fun r113 => some (.brk (r113.1.State, r113.1.Left, r113.1.Right, r113.2)) : Option (Out (Int × (List Int) × (List Int) × Int) Bool)) (Out.elim (fun (s102 : Int × (List Int) × (List Int) × Int) => bnd (F_laws_eqConfig (⟨s102.1, s102.2.1, s102.2.2.1⟩ : GConfig) (⟨s9.1, s9.2.1, s9.2.2.1⟩ : GConfig)) fun r132 => (cond (!r132) (some false) (cond (decide (s102.2.2.2 ≠ s9.2.2.2)) (some false) (bnd (F_laws_heldConfig (⟨r47.1.State, r94.2, r96.2⟩ : GConfig) 1) fun r136 => (cond (decide (r136 < 0)) (some false) (cond (decide (r136 ≠ r96.1)) (some false) (some true))))))) (fun (r : Bool) => some r)))))) (fun (r : Bool) => some r))))))) (fun (r : Bool) => some r))) (fun (r : Bool) => some r))))))

end Go.Fn
