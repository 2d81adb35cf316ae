/-
  What each function of the program computes, as a plain Lean function: printed by program off the translation. No condition.
-/
import Derived.Test.YtneglngdbcefgaaTy
namespace Go.Fn
open Go Go.Tc
set_option linter.unusedVariables false

noncomputable def F_laws_szRuleS (p0 : (List GRule)) (p1 : Int) : Option (Int) :=
  (cond (decide ((w64 (p1 - (p0.length : Int))) < 0)) (some (-1)) (some (w64 (p1 - (p0.length : Int)))))

noncomputable def F_laws_szMachine (p0 : GMachine) (p1 : Int) : Option (Int) :=
  bnd (F_laws_szRuleS p0.Rules p1) fun r2 => (cond (decide (r2 < 0)) (some (-1)) (some r2))

noncomputable def F_laws_szInt64S (p0 : (List Int)) (p1 : Int) : Option (Int) :=
  (cond (decide ((w64 (p1 - (p0.length : Int))) < 0)) (some (-1)) (some (w64 (p1 - (p0.length : Int)))))

noncomputable def F_laws_szConfig (p0 : GConfig) (p1 : Int) : Option (Int) :=
  bnd (F_laws_szInt64S p0.Left p1) fun r2 => (cond (decide (r2 < 0)) (some (-1)) (bnd (F_laws_szInt64S p0.Right r2) fun r5 => (cond (decide (r5 < 0)) (some (-1)) (some r5))))

noncomputable def F_laws_toRule (p0 : GRule) : Option (GRule) :=
  some p0

noncomputable def F_laws_toRuleS_L1 (p0 : (List GRule)) (s4 : (List GRule) × Int) : Option (((List GRule) × Int) ⊕ Out ((List GRule) × Int) (List GRule)) :=
  (cond (decide (s4.2 < (p0.length : Int))) (bnd (idx p0 s4.2) fun y7 => bnd (F_laws_toRule y7) fun r11 => bnd (idx s4.1 s4.2) fun y13 => some (.inl ((s4.1.set s4.2.toNat r11), (w64 (s4.2 + 1))))) (some (.inr (.brk (s4.1, s4.2)))))

noncomputable def F_laws_toRuleS (p0 : (List GRule)) : Option ((List GRule)) :=
  bnd (mke (p0.length : Int) (⟨(0 : Int), (0 : Int), (0 : Int)⟩ : GRule)) fun z1 => bnd (run (F_laws_toRuleS_L1 p0) (z1, 0)) (Out.elim (fun (s4 : (List GRule) × Int) => some s4.1) (fun (r : (List GRule)) => some r))

noncomputable def F_laws_toMachine (p0 : GMachine) : Option (GMachine) :=
  bnd (F_laws_toRuleS p0.Rules) fun r4 => some (⟨p0.Symbols, p0.States, r4⟩ : GMachine)

noncomputable def F_laws_toInt64S_L1 (p0 : (List Int)) (s4 : (List Int) × Int) : Option (((List Int) × Int) ⊕ Out ((List Int) × Int) (List Int)) :=
  (cond (decide (s4.2 < (p0.length : Int))) (bnd (idx p0 s4.2) fun y7 => bnd (idx s4.1 s4.2) fun y11 => some (.inl ((s4.1.set s4.2.toNat y7), (w64 (s4.2 + 1))))) (some (.inr (.brk (s4.1, s4.2)))))

noncomputable def F_laws_toInt64S (p0 : (List Int)) : Option ((List Int)) :=
  bnd (mke (p0.length : Int) (0 : Int)) fun z1 => bnd (run (F_laws_toInt64S_L1 p0) (z1, 0)) (Out.elim (fun (s4 : (List Int) × Int) => some s4.1) (fun (r : (List Int)) => some r))

noncomputable def F_laws_toConfig (p0 : GConfig) : Option (GConfig) :=
  bnd (F_laws_toInt64S p0.Left) fun r4 => bnd (F_laws_toInt64S p0.Right) fun r7 => some (⟨p0.State, r4, r7⟩ : GConfig)

noncomputable def F_spec_l00In (p0 : Int) (p1 : Int) (p2 : Int) : Option (Bool) :=
  (cond (decide (p1 ≤ p0)) (some (decide (p0 ≤ p2))) (some false))

noncomputable def F_spec_l05None : Option (GRule) :=
  some (⟨0, 0, (-1)⟩ : GRule)

noncomputable def F_spec_l05Rule (p0 : GRule) (p1 : Int) (p2 : Int) : Option (Bool) :=
  bnd F_spec_l05None fun r5 => (cond (decide (p0 = r5)) (some true) (bnd (F_spec_l00In p0.Write 0 (w64 (p1 - 1))) fun r8 => (cond r8 (cond (decide (p0.Move = 1)) (bnd (F_spec_l00In p0.Next 0 (w64 (p2 - 1))) fun r12 => some r12) (cond (decide (p0.Move = (-1))) (bnd (F_spec_l00In p0.Next 0 (w64 (p2 - 1))) fun r15 => some r15) (some false))) (some false))))

noncomputable def F_spec_l05Is_L1 (p0 : GMachine) (s31 : Int) : Option ((Int) ⊕ Out (Int) Bool) :=
  (cond (decide (s31 < (p0.Rules.length : Int))) (bnd (idx p0.Rules s31) fun y38 => bnd (F_spec_l05Rule y38 p0.Symbols p0.States) fun r49 => (cond (!r49) (some (.inr (.ret false))) (some (.inl (w64 (s31 + 1)))))) (some (.inr (.brk s31))))

noncomputable def F_spec_l05Is (p0 : GMachine) : Option (Bool) :=
  bnd (bnd (F_spec_l00In p0.Symbols 2 6) fun r8 => (cond (!r8) (some (.ret false)) (bnd (F_spec_l00In p0.States 1 1000) fun r15 => (cond (!r15) (some (.ret false)) (cond (decide ((p0.Rules.length : Int) ≠ (w64 (p0.Symbols * p0.States)))) (some (.ret false)) (some (.brk ())))))) : Option (Out (Unit) Bool)) (Out.elim (fun (s1 : Unit) => bnd (run (F_spec_l05Is_L1 p0) 0) (Out.elim (fun (s31 : Int) => some true) (fun (r : Bool) => some r))) (fun (r : Bool) => some r))

noncomputable def F_spec_l05Cells_L1 (p0 : GMachine) (p1 : (List Int)) (s1 : Int) : Option ((Int) ⊕ Out (Int) Bool) :=
  (cond (decide (s1 < (p1.length : Int))) (bnd (idx p1 s1) fun y4 => bnd (F_spec_l00In y4 0 (w64 (p0.Symbols - 1))) fun r13 => (cond (!r13) (some (.inr (.ret false))) (some (.inl (w64 (s1 + 1)))))) (some (.inr (.brk s1))))

noncomputable def F_spec_l05Cells (p0 : GMachine) (p1 : (List Int)) : Option (Bool) :=
  bnd (run (F_spec_l05Cells_L1 p0 p1) 0) (Out.elim (fun (s1 : Int) => (cond (decide ((p1.length : Int) ≤ 200)) (cond (decide ((p1.length : Int) = 0)) (some true) (bnd (idx p1 (w64 ((p1.length : Int) - 1))) fun y18 => some (decide (y18 ≠ 0)))) (some false))) (fun (r : Bool) => some r))

noncomputable def F_spec_l05Good (p0 : GMachine) (p1 : GConfig) : Option (Bool) :=
  bnd (F_spec_l00In p1.State 0 (w64 (p0.States - 1))) fun r8 => (cond r8 (bnd (F_spec_l05Cells p0 p1.Left) fun r15 => (cond r15 (bnd (F_spec_l05Cells p0 p1.Right) fun r22 => some r22) (some false))) (some false))

noncomputable def F_spec_l05Budget (p0 : Int) : Option (Bool) :=
  bnd (F_spec_l00In p0 1 20000) fun r1 => some r1

noncomputable def F_spec_l16Border (p0 : GMachine) : Option (Int) :=
  some (w64 (p0.Symbols + p0.States))

noncomputable def F_spec_l32Eraser (p0 : GMachine) : Option (Int) :=
  bnd (F_spec_l16Border p0) fun r1 => some (w64 (r1 + 1))

noncomputable def F_spec_l16Fits (p0 : GMachine) : Option (Bool) :=
  bnd (F_spec_l16Border p0) fun r1 => some (decide (r1 ≤ 9))

noncomputable def F_spec_l16Rules_L2 (p0 : GMachine) (s4 : (List GRewrite) × Int) (y11 : GRule) (s50 : (List GRewrite) × Int) : Option (((List GRewrite) × Int) ⊕ Out ((List GRewrite) × Int) ((List GRewrite) × Bool)) :=
  (cond (decide (s50.2 < p0.Symbols)) (bnd (app s50.1 ([(⟨([s50.2, (w64 (p0.Symbols + (w64 (Int.tdiv s4.2 p0.Symbols)))), (Int.tmod s4.2 p0.Symbols)] : List Int), ([(w64 (p0.Symbols + y11.Next)), s50.2, y11.Write] : List Int)⟩ : GRewrite)] : List GRewrite)) fun z58 => some (.inl (z58, (w64 (s50.2 + 1))))) (some (.inr (.brk (s50.1, s50.2)))))

noncomputable def F_spec_l16Rules_L3 (p0 : GMachine) (r2 : Int) (s4 : (List GRewrite) × Int) (y11 : GRule) (s68 : (List GRewrite) × Int) : Option (((List GRewrite) × Int) ⊕ Out ((List GRewrite) × Int) ((List GRewrite) × Bool)) :=
  (cond (decide (s68.2 < p0.Symbols)) (bnd (app s68.1 ([(⟨([s68.2, (w64 (p0.Symbols + (w64 (Int.tdiv s4.2 p0.Symbols)))), r2] : List Int), ([(w64 (p0.Symbols + y11.Next)), s68.2, y11.Write, r2] : List Int)⟩ : GRewrite)] : List GRewrite)) fun z76 => some (.inl (z76, (w64 (s68.2 + 1))))) (some (.inr (.brk (s68.1, s68.2)))))

noncomputable def F_spec_l16Rules_L1 (p0 : GMachine) (r2 : Int) (s4 : (List GRewrite) × Int) : Option (((List GRewrite) × Int) ⊕ Out ((List GRewrite) × Int) ((List GRewrite) × Bool)) :=
  (cond (decide (s4.2 < (p0.Rules.length : Int))) (bnd (idx p0.Rules s4.2) fun y11 => bnd F_spec_l05None fun r19 => (cond (decide (y11 = r19)) (some (.inl (s4.1, (w64 (s4.2 + 1))))) (bnd (nz p0.Symbols) fun u26 => bnd (nz p0.Symbols) fun u30 => (cond (decide (y11.Move = 1)) (bnd (app s4.1 ([(⟨([(w64 (p0.Symbols + (w64 (Int.tdiv s4.2 p0.Symbols)))), (Int.tmod s4.2 p0.Symbols)] : List Int), ([y11.Write, (w64 (p0.Symbols + y11.Next))] : List Int)⟩ : GRewrite)] : List GRewrite)) fun z38 => bnd ((cond (decide ((Int.tmod s4.2 p0.Symbols) = 0)) (bnd (app z38 ([(⟨([(w64 (p0.Symbols + (w64 (Int.tdiv s4.2 p0.Symbols)))), r2] : List Int), ([y11.Write, (w64 (p0.Symbols + y11.Next)), r2] : List Int)⟩ : GRewrite)] : List GRewrite)) fun z47 => some (.brk z47)) (some (.brk z38))) : Option (Out ((List GRewrite)) ((List GRewrite) × Bool))) (Out.elim (fun (s41 : (List GRewrite)) => some (.inl (s41, (w64 (s4.2 + 1))))) (fun (r : (List GRewrite) × Bool) => some (.inr (.ret r))))) (bnd (run (F_spec_l16Rules_L2 p0 s4 y11) (s4.1, 0)) (Out.elim (fun (s50 : (List GRewrite) × Int) => bnd (app s50.1 ([(⟨([r2, (w64 (p0.Symbols + (w64 (Int.tdiv s4.2 p0.Symbols)))), (Int.tmod s4.2 p0.Symbols)] : List Int), ([r2, (w64 (p0.Symbols + y11.Next)), 0, y11.Write] : List Int)⟩ : GRewrite)] : List GRewrite)) fun z64 => (cond (decide ((Int.tmod s4.2 p0.Symbols) = 0)) (bnd (run (F_spec_l16Rules_L3 p0 r2 s4 y11) (z64, 0)) (Out.elim (fun (s68 : (List GRewrite) × Int) => bnd (app s68.1 ([(⟨([r2, (w64 (p0.Symbols + (w64 (Int.tdiv s4.2 p0.Symbols)))), r2] : List Int), ([r2, (w64 (p0.Symbols + y11.Next)), 0, y11.Write, r2] : List Int)⟩ : GRewrite)] : List GRewrite)) fun z82 => some (.inl (z82, (w64 (s4.2 + 1))))) (fun (r : (List GRewrite) × Bool) => some (.inr (.ret r))))) (some (.inl (z64, (w64 (s4.2 + 1))))))) (fun (r : (List GRewrite) × Bool) => some (.inr (.ret r))))))))) (some (.inr (.brk (s4.1, s4.2)))))

noncomputable def F_spec_l16Rules (p0 : GMachine) : Option ((List GRewrite) × Bool) :=
  bnd (F_spec_l16Border p0) fun r2 => bnd (run (F_spec_l16Rules_L1 p0 r2) (([] : List GRewrite), 0)) (Out.elim (fun (s4 : (List GRewrite) × Int) => (cond (decide (0 < (s4.1.length : Int))) (cond (decide ((s4.1.length : Int) ≤ 60)) (bnd (F_spec_l16Fits p0) fun r87 => some (s4.1, r87)) (some (s4.1, false))) (some (s4.1, false)))) (fun (r : (List GRewrite) × Bool) => some r))

noncomputable def F_spec_l32Halt_L1 (p0 : GMachine) (r7 : Int) (s9 : (List GRewrite) × Int) : Option (((List GRewrite) × Int) ⊕ Out ((List GRewrite) × Int) ((List GRewrite) × Int × Bool)) :=
  (cond (decide (s9.2 < (p0.Rules.length : Int))) (bnd (idx p0.Rules s9.2) fun y16 => bnd F_spec_l05None fun r23 => (cond (!(decide (y16 = r23))) (some (.inl (s9.1, (w64 (s9.2 + 1))))) (bnd (nz p0.Symbols) fun u30 => bnd (nz p0.Symbols) fun u34 => bnd (app s9.1 ([(⟨([(w64 (p0.Symbols + (w64 (Int.tdiv s9.2 p0.Symbols)))), (Int.tmod s9.2 p0.Symbols)] : List Int), ([r7] : List Int)⟩ : GRewrite)] : List GRewrite)) fun z39 => bnd (nz p0.Symbols) fun u44 => (cond (decide ((Int.tmod s9.2 p0.Symbols) = 0)) (bnd (F_spec_l16Border p0) fun r47 => bnd (F_spec_l16Border p0) fun r50 => bnd (app z39 ([(⟨([(w64 (p0.Symbols + (w64 (Int.tdiv s9.2 p0.Symbols)))), r47] : List Int), ([r7, r50] : List Int)⟩ : GRewrite)] : List GRewrite)) fun z54 => some (.inl (z54, (w64 (s9.2 + 1))))) (some (.inl (z39, (w64 (s9.2 + 1))))))))) (some (.inr (.brk (s9.1, s9.2)))))

noncomputable def F_spec_l32Halt_L2 (p0 : GMachine) (r7 : Int) (s57 : (List GRewrite) × Int) : Option (((List GRewrite) × Int) ⊕ Out ((List GRewrite) × Int) ((List GRewrite) × Int × Bool)) :=
  (cond (decide (s57.2 < p0.Symbols)) (bnd (app s57.1 ([(⟨([r7, s57.2] : List Int), ([r7] : List Int)⟩ : GRewrite), (⟨([s57.2, r7] : List Int), ([r7] : List Int)⟩ : GRewrite)] : List GRewrite)) fun z67 => some (.inl (z67, (w64 (s57.2 + 1))))) (some (.inr (.brk (s57.1, s57.2)))))

noncomputable def F_spec_l32Halt (p0 : GMachine) : Option ((List GRewrite) × Int × Bool) :=
  bnd (F_spec_l32Eraser p0) fun r1 => (cond (decide (5 < r1)) (some (([] : (List GRewrite)), 0, false)) (bnd (F_spec_l16Rules p0) fun r4 => bnd (F_spec_l32Eraser p0) fun r7 => bnd (run (F_spec_l32Halt_L1 p0 r7) (r4.1, 0)) (Out.elim (fun (s9 : (List GRewrite) × Int) => bnd (run (F_spec_l32Halt_L2 p0 r7) (s9.1, 0)) (Out.elim (fun (s57 : (List GRewrite) × Int) => some (s57.1, (r4.1.length : Int), (decide ((s57.1.length : Int) ≤ 60)))) (fun (r : (List GRewrite) × Int × Bool) => some r))) (fun (r : (List GRewrite) × Int × Bool) => some r))))

noncomputable def F_spec_l03Reverse_L1 (p0 : (List Int)) (s2 : (List Int) × Int) : Option (((List Int) × Int) ⊕ Out ((List Int) × Int) (List Int)) :=
  (cond (decide (0 ≤ s2.2)) (bnd (idx p0 s2.2) fun y5 => bnd (app s2.1 ([y5] : List Int)) fun z10 => some (.inl (z10, (w64 (s2.2 - 1))))) (some (.inr (.brk (s2.1, s2.2)))))

noncomputable def F_spec_l03Reverse (p0 : (List Int)) : Option ((List Int)) :=
  bnd (run (F_spec_l03Reverse_L1 p0) (([] : List Int), (w64 ((p0.length : Int) - 1)))) (Out.elim (fun (s2 : (List Int) × Int) => some s2.1) (fun (r : (List Int)) => some r))

noncomputable def F_spec_l16Word (p0 : GMachine) (p1 : GConfig) : Option ((List Int)) :=
  bnd (F_spec_l16Border p0) fun r1 => bnd (F_spec_l03Reverse p1.Left) fun r6 => bnd (app ([r1] : List Int) r6) fun z9 => bnd (app z9 ([(w64 (p0.Symbols + p1.State))] : List Int)) fun z20 => bnd (app z20 p1.Right) fun z25 => bnd (F_spec_l16Border p0) fun r28 => bnd (app z25 ([r28] : List Int)) fun z31 => some z31

noncomputable def F_spec_l00Same_L1 (p0 : (List Int)) (p1 : (List Int)) (s2 : Int) : Option ((Int) ⊕ Out (Int) Bool) :=
  (cond (decide (s2 < (p0.length : Int))) (bnd (idx p0 s2) fun y5 => bnd (idx p1 s2) fun y9 => (cond (decide (y5 ≠ y9)) (some (.inr (.ret false))) (some (.inl (w64 (s2 + 1)))))) (some (.inr (.brk s2))))

noncomputable def F_spec_l00Same (p0 : (List Int)) (p1 : (List Int)) : Option (Bool) :=
  (cond (decide ((p0.length : Int) ≠ (p1.length : Int))) (some false) (bnd (run (F_spec_l00Same_L1 p0 p1) 0) (Out.elim (fun (s2 : Int) => some true) (fun (r : Bool) => some r))))

noncomputable def F_spec_l03At (p0 : (List Int)) (p1 : Int) (p2 : (List Int)) : Option (Bool) :=
  (cond (decide ((w64 (p1 + (p2.length : Int))) ≤ (p0.length : Int))) (bnd (slc p0 p1 (w64 (p1 + (p2.length : Int)))) fun z2 => bnd (F_spec_l00Same z2 p2) fun r5 => some r5) (some false))

noncomputable def F_spec_l00Own (p0 : (List Int)) : Option ((List Int)) :=
  bnd (app ([] : List Int) p0) fun z2 => some z2

noncomputable def F_spec_l03Put (p0 : (List Int)) (p1 : Int) (p2 : Int) (p3 : (List Int)) : Option ((List Int)) :=
  bnd (slc p0 0 p1) fun z1 => bnd (F_spec_l00Own z1) fun r4 => bnd (app r4 p3) fun z7 => bnd (slc p0 (w64 (p1 + p2)) (p0.length : Int)) fun z10 => bnd (app z7 z10) fun z13 => some z13

noncomputable def F_spec_l10Apply (p0 : (List GRewrite)) (p1 : (List Int)) (p2 : Int) (p3 : Int) : Option ((List Int) × Int) :=
  bnd (idx p0 p2) fun y1 => bnd (F_spec_l03At p1 p3 y1.From) fun r6 => (cond (!r6) (some (([] : (List Int)), 3)) (cond (decide (400 < (w64 ((w64 ((p1.length : Int) - (y1.From.length : Int))) + (y1.To.length : Int))))) (some (([] : (List Int)), 5)) (bnd (F_spec_l03Put p1 p3 (y1.From.length : Int) y1.To) fun r21 => some (r21, 0))))

noncomputable def F_spec_l10Key_L1 (p0 : (List Int)) (s4 : (List (Ik .u8)) × Int) : Option (((List (Ik .u8)) × Int) ⊕ Out ((List (Ik .u8)) × Int) ByteArray) :=
  (cond (decide (s4.2 < (p0.length : Int))) (bnd (idx p0 s4.2) fun y7 => bnd (idx s4.1 s4.2) fun y11 => some (.inl ((s4.1.set s4.2.toNat (⟨(wk .u8 y7)⟩ : Ik .u8)), (w64 (s4.2 + 1))))) (some (.inr (.brk (s4.1, s4.2)))))

noncomputable def F_spec_l10Key (p0 : (List Int)) : Option (ByteArray) :=
  bnd (mke (p0.length : Int) (⟨0⟩ : Ik .u8)) fun z1 => bnd (run (F_spec_l10Key_L1 p0) (z1, 0)) (Out.elim (fun (s4 : (List (Ik .u8)) × Int) => some (strOf s4.1)) (fun (r : ByteArray) => some r))

noncomputable def F_spec_l10Next_L3 (s7 : (List (List Int)) × (List (List Int)) × Bool × (List ByteArray) × Int) (r17 : ByteArray) (s20 : Int × Int) : Option ((Int × Int) ⊕ Out (Int × Int) (Option (((List (List Int)) × (List (List Int)) × Bool × (List ByteArray) × Int) ⊕ Out ((List (List Int)) × (List (List Int)) × Bool × (List ByteArray) × Int) ((List (List Int)) × (List (List Int)) × Bool)))) :=
  (cond (decide (s20.1 < s20.2)) (bnd (idx s7.2.2.2.1 (w64 (Int.tdiv (w64 (s20.1 + s20.2)) 2))) fun y23 => (cond (Op.bytesLess y23.toList r17.toList) (some (.inl ((w64 ((w64 (Int.tdiv (w64 (s20.1 + s20.2)) 2)) + 1)), s20.2))) (some (.inl (s20.1, (w64 (Int.tdiv (w64 (s20.1 + s20.2)) 2))))))) (some (.inr (.brk (s20.1, s20.2)))))

noncomputable def F_spec_l10Next_L2 (p0 : (List GRewrite)) (p1 : (List Int)) (s4 : (List (List Int)) × (List (List Int)) × Bool × (List ByteArray) × Int) (s7 : (List (List Int)) × (List (List Int)) × Bool × (List ByteArray) × Int) : Option (((List (List Int)) × (List (List Int)) × Bool × (List ByteArray) × Int) ⊕ Out ((List (List Int)) × (List (List Int)) × Bool × (List ByteArray) × Int) ((List (List Int)) × (List (List Int)) × Bool)) :=
  (cond (decide (s7.2.2.2.2 ≤ (p1.length : Int))) (bnd (F_spec_l10Apply p0 p1 s4.2.2.2.2 s7.2.2.2.2) fun r10 => bnd ((cond (decide (r10.2 = 5)) (some (.brk false)) (some (.brk s7.2.2.1))) : Option (Out (Bool) ((List (List Int)) × (List (List Int)) × Bool))) (Out.elim (fun (s13 : Bool) => (cond (decide (r10.2 ≠ 0)) (some (.inl (s7.1, s7.2.1, s13, s7.2.2.2.1, (w64 (s7.2.2.2.2 + 1))))) (bnd (F_spec_l10Key r10.1) fun r17 => bnd (run (F_spec_l10Next_L3 s7 r17) (0, (s7.2.2.2.1.length : Int))) (Out.elim (fun (s20 : Int × Int) => bnd ((cond (decide (s20.1 < (s7.2.2.2.1.length : Int))) (bnd (idx s7.2.2.2.1 s20.1) fun y32 => (cond (y32.toList == r17.toList) (some (.ret (some (.inl (s7.1, s7.2.1, s13, s7.2.2.2.1, (w64 (s7.2.2.2.2 + 1))))))) (some (.brk ())))) (some (.brk ()))) : Option (Out (Unit) (Option (((List (List Int)) × (List (List Int)) × Bool × (List ByteArray) × Int) ⊕ Out ((List (List Int)) × (List (List Int)) × Bool × (List ByteArray) × Int) ((List (List Int)) × (List (List Int)) × Bool))))) (Out.elim (fun (s29 : Unit) => bnd (app s7.2.2.2.1 ([(⟨#[]⟩ : ByteArray)] : List ByteArray)) fun z39 => bnd (slc z39 (w64 (s20.1 + 1)) (z39.length : Int)) fun z45 => bnd (slc z39 s20.1 (z39.length : Int)) fun z47 => bnd (idx (cpyAt z39 (w64 (s20.1 + 1)) (z39.length : Int) z47) s20.1) fun y49 => bnd (app s7.1 ([r10.1] : List (List Int))) fun z54 => bnd (app s7.2.1 ([([s4.2.2.2.2, s7.2.2.2.2] : List Int)] : List (List Int))) fun z59 => some (.inl (z54, z59, s13, ((cpyAt z39 (w64 (s20.1 + 1)) (z39.length : Int) z47).set s20.1.toNat r17), (w64 (s7.2.2.2.2 + 1))))) (fun (r : Option (((List (List Int)) × (List (List Int)) × Bool × (List ByteArray) × Int) ⊕ Out ((List (List Int)) × (List (List Int)) × Bool × (List ByteArray) × Int) ((List (List Int)) × (List (List Int)) × Bool))) => r))) (fun (r : Option (((List (List Int)) × (List (List Int)) × Bool × (List ByteArray) × Int) ⊕ Out ((List (List Int)) × (List (List Int)) × Bool × (List ByteArray) × Int) ((List (List Int)) × (List (List Int)) × Bool))) => r))))) (fun (r : (List (List Int)) × (List (List Int)) × Bool) => some (.inr (.ret r))))) (some (.inr (.brk (s7.1, s7.2.1, s7.2.2.1, s7.2.2.2.1, s7.2.2.2.2)))))

noncomputable def F_spec_l10Next_L1 (p0 : (List GRewrite)) (p1 : (List Int)) (s4 : (List (List Int)) × (List (List Int)) × Bool × (List ByteArray) × Int) : Option (((List (List Int)) × (List (List Int)) × Bool × (List ByteArray) × Int) ⊕ Out ((List (List Int)) × (List (List Int)) × Bool × (List ByteArray) × Int) ((List (List Int)) × (List (List Int)) × Bool)) :=
  (cond (decide (s4.2.2.2.2 < (p0.length : Int))) (bnd (run (F_spec_l10Next_L2 p0 p1 s4) (s4.1, s4.2.1, s4.2.2.1, s4.2.2.2.1, 0)) (Out.elim (fun (s7 : (List (List Int)) × (List (List Int)) × Bool × (List ByteArray) × Int) => some (.inl (s7.1, s7.2.1, s7.2.2.1, s7.2.2.2.1, (w64 (s4.2.2.2.2 + 1))))) (fun (r : (List (List Int)) × (List (List Int)) × Bool) => some (.inr (.ret r))))) (some (.inr (.brk (s4.1, s4.2.1, s4.2.2.1, s4.2.2.2.1, s4.2.2.2.2)))))

noncomputable def F_spec_l10Next (p0 : (List GRewrite)) (p1 : (List Int)) : Option ((List (List Int)) × (List (List Int)) × Bool) :=
  bnd (run (F_spec_l10Next_L1 p0 p1) (([] : List (List Int)), ([] : List (List Int)), true, ([] : List ByteArray), 0)) (Out.elim (fun (s4 : (List (List Int)) × (List (List Int)) × Bool × (List ByteArray) × Int) => some (s4.1, s4.2.1, s4.2.2.1)) (fun (r : (List (List Int)) × (List (List Int)) × Bool) => some r))

noncomputable def F_spec_l05Trim_L1 (p0 : (List Int)) (s1 : Int) : Option ((Int) ⊕ Out (Int) (List Int)) :=
  (cond (decide (0 < s1)) (bnd (idx p0 (w64 (s1 - 1))) fun y4 => (cond (decide (y4 = 0)) (some (.inl (w64 (s1 - 1)))) (some (.inr (.brk s1))))) (some (.inr (.brk s1))))

noncomputable def F_spec_l05Trim (p0 : (List Int)) : Option ((List Int)) :=
  bnd (run (F_spec_l05Trim_L1 p0) (p0.length : Int)) (Out.elim (fun (s1 : Int) => bnd (slc p0 0 s1) fun z9 => bnd (F_spec_l00Own z9) fun r12 => some r12) (fun (r : (List Int)) => some r))

noncomputable def F_spec_l16Config_L1 (p0 : GMachine) (p1 : (List Int)) (r2 : Int) (s17 : Int × Int) : Option ((Int × Int) ⊕ Out (Int × Int) (GConfig × Bool)) :=
  (cond (decide (s17.2 < (w64 ((p1.length : Int) - 1)))) (bnd (bnd (idx p1 s17.2) fun y22 => (cond (decide (p0.Symbols ≤ y22)) (cond (decide (0 ≤ s17.1)) (some (.brk true)) (bnd (idx p1 s17.2) fun y30 => some (.brk (decide (r2 ≤ y30))))) (some (.brk false))) : Option (Out (Bool) (GConfig × Bool))) (Out.elim (fun (s20 : Bool) => (cond s20 (some (.inr (.ret ((⟨0, ([] : (List Int)), ([] : (List Int))⟩ : GConfig), false)))) (bnd (idx p1 s17.2) fun y35 => (cond (decide (p0.Symbols ≤ y35)) (some (.inl (s17.2, (w64 (s17.2 + 1))))) (some (.inl (s17.1, (w64 (s17.2 + 1))))))))) (fun (r : GConfig × Bool) => some (.inr (.ret r))))) (some (.inr (.brk (s17.1, s17.2)))))

noncomputable def F_spec_l16Config (p0 : GMachine) (p1 : (List Int)) : Option (GConfig × Bool) :=
  bnd (F_spec_l16Border p0) fun r2 => bnd ((cond (decide ((p1.length : Int) < 3)) (some (.ret ((⟨0, ([] : (List Int)), ([] : (List Int))⟩ : GConfig), false))) (bnd (idx p1 0) fun y7 => (cond (decide (y7 ≠ r2)) (some (.ret ((⟨0, ([] : (List Int)), ([] : (List Int))⟩ : GConfig), false))) (bnd (idx p1 (w64 ((p1.length : Int) - 1))) fun y12 => (cond (decide (y12 ≠ r2)) (some (.ret ((⟨0, ([] : (List Int)), ([] : (List Int))⟩ : GConfig), false))) (some (.brk ()))))))) : Option (Out (Unit) (GConfig × Bool))) (Out.elim (fun (s4 : Unit) => bnd (run (F_spec_l16Config_L1 p0 p1 r2) ((-1), 1)) (Out.elim (fun (s17 : Int × Int) => (cond (decide (s17.1 < 0)) (some ((⟨0, ([] : (List Int)), ([] : (List Int))⟩ : GConfig), false)) (bnd (idx p1 s17.1) fun y43 => bnd (slc p1 1 s17.1) fun z49 => bnd (slc p1 (w64 (s17.1 + 1)) (w64 ((p1.length : Int) - 1))) fun z52 => bnd (F_spec_l03Reverse z49) fun r58 => bnd (F_spec_l05Trim r58) fun r61 => bnd (F_spec_l05Trim z52) fun r64 => bnd (F_spec_l05Good p0 (⟨(w64 (y43 - p0.Symbols)), r61, r64⟩ : GConfig)) fun r71 => some ((⟨(w64 (y43 - p0.Symbols)), r61, r64⟩ : GConfig), r71)))) (fun (r : GConfig × Bool) => some r))) (fun (r : GConfig × Bool) => some r))

noncomputable def F_spec_l03Find_L1 (p0 : (List Int)) (p1 : (List Int)) (s1 : Int) : Option ((Int) ⊕ Out (Int) Int) :=
  (cond (decide ((w64 (s1 + (p1.length : Int))) ≤ (p0.length : Int))) (bnd (F_spec_l03At p0 s1 p1) fun r4 => (cond r4 (some (.inr (.ret s1))) (some (.inl (w64 (s1 + 1)))))) (some (.inr (.brk s1))))

noncomputable def F_spec_l03Find (p0 : (List Int)) (p1 : (List Int)) (p2 : Int) : Option (Int) :=
  bnd (run (F_spec_l03Find_L1 p0 p1) p2) (Out.elim (fun (s1 : Int) => some (-1)) (fun (r : Int) => some r))

noncomputable def F_spec_l32Step_L1 (p0 : (List GRewrite)) (p1 : (List Int)) (p3 : Int) (p4 : Int) (s1 : Int) : Option ((Int) ⊕ Out (Int) ((List Int) × (List Int) × Bool)) :=
  (cond (decide (s1 < p3)) (bnd (idx p0 s1) fun y4 => bnd (F_spec_l03Find p1 y4.From 0) fun r9 => (cond (decide (0 ≤ r9)) (bnd (idx p0 s1) fun y12 => bnd (idx p0 s1) fun y17 => bnd (F_spec_l03Put p1 r9 (y12.From.length : Int) y17.To) fun r25 => some (.inr (.ret (([s1, r9] : List Int), r25, true)))) (some (.inl (w64 (s1 + p4)))))) (some (.inr (.brk s1))))

noncomputable def F_spec_l32Step (p0 : (List GRewrite)) (p1 : (List Int)) (p2 : Int) (p3 : Int) (p4 : Int) : Option ((List Int) × (List Int) × Bool) :=
  bnd (run (F_spec_l32Step_L1 p0 p1 p3 p4) p2) (Out.elim (fun (s1 : Int) => some (([] : (List Int)), ([] : (List Int)), false)) (fun (r : (List Int) × (List Int) × Bool) => some r))

noncomputable def F_spec_HaltDerivation_L3 (p0 : GMachine) (r14 : (List GRewrite) × Int × Bool) (s52 : (List (List Int)) × (List Int) × Int) (s55 : (List (List Int)) × (List Int)) : Option (((List (List Int)) × (List Int)) ⊕ Out ((List (List Int)) × (List Int)) ((List (List Int)) × Int)) :=
  (cond (decide ((s55.1.length : Int) ≤ 100)) (bnd (F_spec_l32Step r14.1 s55.2 (w64 ((w64 ((r14.1.length : Int) - (w64 (2 * p0.Symbols)))) + s52.2.2)) (r14.1.length : Int) 2) fun r58 => (cond (!r58.2.2) (some (.inr (.brk (s55.1, s55.2)))) (bnd (app s55.1 ([r58.1] : List (List Int))) fun z63 => some (.inl (z63, r58.2.1))))) (some (.inr (.brk (s55.1, s55.2)))))

noncomputable def F_spec_HaltDerivation_L2 (p0 : GMachine) (r14 : (List GRewrite) × Int × Bool) (s52 : (List (List Int)) × (List Int) × Int) : Option (((List (List Int)) × (List Int) × Int) ⊕ Out ((List (List Int)) × (List Int) × Int) ((List (List Int)) × Int)) :=
  (cond (decide (s52.2.2 < 2)) (bnd (run (F_spec_HaltDerivation_L3 p0 r14 s52) (s52.1, s52.2.1)) (Out.elim (fun (s55 : (List (List Int)) × (List Int)) => some (.inl (s55.1, s55.2, (w64 (s52.2.2 + 1))))) (fun (r : (List (List Int)) × Int) => some (.inr (.ret r))))) (some (.inr (.brk (s52.1, s52.2.1, s52.2.2)))))

noncomputable def F_spec_HaltDerivation_L1 (p0 : GMachine) (p2 : Int) (r14 : (List GRewrite) × Int × Bool) (z24 : (List GRewrite)) (s29 : (List Int) × (List (List Int))) : Option (((List Int) × (List (List Int))) ⊕ Out ((List Int) × (List (List Int))) (Option ((List (List Int)) × Int))) :=
  bnd (F_spec_l10Next z24 s29.1) fun r31 => bnd ((cond (decide ((r31.1.length : Int) = 0)) (cond r31.2.2 (some (.ret (bnd (F_spec_l16Config p0 s29.1) fun r38 => bnd ((cond (!r38.2) (some (.ret (([] : (List (List Int))), 5))) (some (.brk ()))) : Option (Out (Unit) ((List (List Int)) × Int))) (Out.elim (fun (s42 : Unit) => bnd (F_spec_l32Step r14.1 s29.1 r14.2.1 (w64 ((r14.1.length : Int) - (w64 (2 * p0.Symbols)))) 1) fun r45 => bnd (app s29.2 ([r45.1] : List (List Int))) fun z49 => bnd (run (F_spec_HaltDerivation_L2 p0 r14) (z49, r45.2.1, 0)) (Out.elim (fun (s52 : (List (List Int)) × (List Int) × Int) => (cond (decide (100 < (s52.1.length : Int))) (some (([] : (List (List Int))), 5)) (some (s52.1, 0)))) (fun (r : (List (List Int)) × Int) => some r))) (fun (r : (List (List Int)) × Int) => some r))))) (some (.brk ()))) (some (.brk ()))) : Option (Out (Unit) (Option ((List (List Int)) × Int)))) (Out.elim (fun (s34 : Unit) => (cond (decide ((s29.2.length : Int) = p2)) (some (.inr (.ret (bnd (F_spec_l16Config p0 s29.1) fun r68 => bnd ((cond (!r68.2) (some (.ret (([] : (List (List Int))), 5))) (some (.brk ()))) : Option (Out (Unit) ((List (List Int)) × Int))) (Out.elim (fun (s72 : Unit) => some (([] : (List (List Int))), 3)) (fun (r : (List (List Int)) × Int) => some r)))))) (cond (decide ((r31.1.length : Int) = 0)) (some (.inr (.ret (bnd (F_spec_l16Config p0 ([] : (List Int))) fun r76 => some (([] : (List (List Int))), 5))))) (bnd (idx r31.1 0) fun y80 => bnd (idx r31.2.1 0) fun y85 => bnd (app s29.2 ([y85] : List (List Int))) fun z91 => some (.inl (y80, z91)))))) (fun (r : Option ((List (List Int)) × Int)) => some (.inr (.ret r))))

noncomputable def F_spec_HaltDerivation (p0 : GMachine) (p1 : GConfig) (p2 : Int) : Option ((List (List Int)) × Int) :=
  bnd (bnd (F_spec_l05Is p0) fun r5 => (cond (!r5) (some (.ret (([] : (List (List Int))), 1))) (bnd (F_spec_l05Good p0 p1) fun r8 => (cond (!r8) (some (.ret (([] : (List (List Int))), 1))) (some (.brk ()))))) : Option (Out (Unit) ((List (List Int)) × Int))) (Out.elim (fun (s3 : Unit) => bnd (F_spec_l05Budget p2) fun r11 => (cond (!r11) (some (([] : (List (List Int))), 2)) (bnd (F_spec_l32Halt p0) fun r14 => bnd (F_spec_l16Word p0 p1) fun r17 => bnd ((cond (!r14.2.2) (some (.ret (([] : (List (List Int))), 5))) (cond (decide (400 < (r17.length : Int))) (some (.ret (([] : (List (List Int))), 5))) (some (.brk ())))) : Option (Out (Unit) ((List (List Int)) × Int))) (Out.elim (fun (s20 : Unit) => bnd (slc r14.1 0 r14.2.1) fun z24 => bnd (run (F_spec_HaltDerivation_L1 p0 p2 r14 z24) (r17, ([] : List (List Int)))) (Out.elim (fun (s29 : (List Int) × (List (List Int))) => none) (fun (r : Option ((List (List Int)) × Int)) => r))) (fun (r : (List (List Int)) × Int) => some r))))) (fun (r : (List (List Int)) × Int) => some r))

noncomputable def F_impl_within (p0 : Int) (p1 : Int) (p2 : Int) : Option (Bool) :=
  (cond (decide (p1 ≤ p0)) (some (decide (p0 ≤ p2))) (some false))

noncomputable def F_impl_size_impl_Rule (p0 : (List GRule)) : Option (Int) :=
  some (p0.length : Int)

noncomputable def F_impl_noRule : Option (GRule) :=
  some (⟨0, 0, (-1)⟩ : GRule)

noncomputable def F_impl_isRule (p0 : GRule) : Option (Bool) :=
  bnd F_impl_noRule fun r5 => some (!(decide (p0 = r5)))

noncomputable def F_impl_validRule (p0 : GMachine) (p1 : GRule) : Option (Bool) :=
  bnd (F_impl_isRule p1) fun r3 => (cond (!r3) (some true) (bnd (F_impl_within p1.Write 0 (w64 (p0.Symbols - 1))) fun r6 => (cond r6 (cond (decide (p1.Move = (-1))) (bnd (F_impl_within p1.Next 0 (w64 (p0.States - 1))) fun r10 => some r10) (cond (decide (p1.Move = 1)) (bnd (F_impl_within p1.Next 0 (w64 (p0.States - 1))) fun r13 => some r13) (some false))) (some false))))

noncomputable def F_impl_ValidMachine_1 (p0 : GRule) (p1 : GMachine) : Option (Bool) :=
  bnd (F_impl_validRule p1 p0) fun r3 => some (!r3)

noncomputable def F_slices_IndexFunc_Simpl_Rule_impl_Rule_L1 (p0 : (List GRule)) (p1 : (GRule → Option Bool)) (s1 : Int) : Option ((Int) ⊕ Out (Int) Int) :=
  (cond (decide (s1 < (p0.length : Int))) (bnd (idx p0 s1) fun y4 => bnd (p1 y4) fun r8 => (cond r8 (some (.inr (.ret s1))) (some (.inl (w64 (s1 + 1)))))) (some (.inr (.brk s1))))

noncomputable def F_slices_IndexFunc_Simpl_Rule_impl_Rule (p0 : (List GRule)) (p1 : (GRule → Option Bool)) : Option (Int) :=
  bnd (run (F_slices_IndexFunc_Simpl_Rule_impl_Rule_L1 p0 p1) 0) (Out.elim (fun (s1 : Int) => some (-1)) (fun (r : Int) => some r))

noncomputable def F_slices_ContainsFunc_Simpl_Rule_impl_Rule (p0 : (List GRule)) (p1 : (GRule → Option Bool)) : Option (Bool) :=
  bnd (F_slices_IndexFunc_Simpl_Rule_impl_Rule p0 p1) fun r1 => some (decide (0 ≤ r1))

noncomputable def F_impl_ValidMachine (p0 : GMachine) : Option (Bool) :=
  bnd (F_impl_within p0.Symbols 2 6) fun r5 => (cond (!r5) (some false) (bnd (F_impl_within p0.States 1 1000) fun r8 => (cond (!r8) (some false) (bnd (F_impl_size_impl_Rule p0.Rules) fun r11 => (cond (decide (r11 ≠ (w64 (p0.States * p0.Symbols)))) (some false) (bnd (F_slices_ContainsFunc_Simpl_Rule_impl_Rule p0.Rules (fun x_ => F_impl_ValidMachine_1 x_ p0)) fun r14 => some (!r14)))))))

noncomputable def F_impl_size_int64 (p0 : (List Int)) : Option (Int) :=
  some (p0.length : Int)

noncomputable def F_impl_allWithin_L1 (p0 : (List Int)) (p1 : Int) (p2 : Int) (s1 : Int) : Option ((Int) ⊕ Out (Int) Bool) :=
  (cond (decide (s1 < (p0.length : Int))) (bnd (idx p0 s1) fun y4 => bnd (F_impl_within y4 p1 p2) fun r8 => (cond (!r8) (some (.inr (.ret false))) (some (.inl (w64 (s1 + 1)))))) (some (.inr (.brk s1))))

noncomputable def F_impl_allWithin (p0 : (List Int)) (p1 : Int) (p2 : Int) : Option (Bool) :=
  bnd (run (F_impl_allWithin_L1 p0 p1 p2) 0) (Out.elim (fun (s1 : Int) => some true) (fun (r : Bool) => some r))

noncomputable def F_impl_validSide (p0 : (List Int)) (p1 : Int) (p2 : Int) : Option (Bool) :=
  bnd (F_impl_size_int64 p0) fun r1 => (cond (decide (r1 ≤ p2)) (bnd (F_impl_allWithin p0 0 (w64 (p1 - 1))) fun r4 => (cond r4 (cond (decide ((p0.length : Int) = 0)) (some true) (bnd (idx p0 (w64 ((p0.length : Int) - 1))) fun y8 => some (decide (y8 ≠ 0)))) (some false))) (some false))

noncomputable def F_impl_configOf (p0 : GMachine) (p1 : GConfig) : Option (Bool) :=
  bnd (F_impl_within p1.State 0 (w64 (p0.States - 1))) fun r3 => (cond r3 (bnd (F_impl_validSide p1.Left p0.Symbols 200) fun r6 => (cond r6 (bnd (F_impl_validSide p1.Right p0.Symbols 200) fun r9 => some r9) (some false))) (some false))

noncomputable def F_impl_ValidConfig (p0 : GMachine) (p1 : GConfig) : Option (Bool) :=
  bnd (F_impl_ValidMachine p0) fun r3 => (cond r3 (bnd (F_impl_configOf p0 p1) fun r6 => some r6) (some false))

noncomputable def F_impl_budgetOk (p0 : Int) : Option (Bool) :=
  bnd (F_impl_within p0 1 20000) fun r1 => some r1

noncomputable def F_impl_runCode (p0 : GMachine) (p1 : GConfig) (p2 : Int) : Option (Int) :=
  bnd (F_impl_ValidConfig p0 p1) fun r3 => (cond (!r3) (some 1) (bnd (F_impl_budgetOk p2) fun r6 => (cond (!r6) (some 2) (some 0))))

noncomputable def F_impl_alphabetOf (p0 : GMachine) : Option (Galphabet × Int) :=
  (cond (decide (9 < (w64 (p0.Symbols + p0.States)))) (some ((⟨0, 0⟩ : Galphabet), 5)) (some ((⟨p0.Symbols, (w64 (p0.Symbols + p0.States))⟩ : Galphabet), 0)))

noncomputable def F_impl_eraserOf (p0 : GMachine) : Option (Galphabet × Int × Int) :=
  bnd (F_impl_alphabetOf p0) fun r3 => (cond (decide (r3.2 ≠ 0)) (some ((⟨0, 0⟩ : Galphabet), 0, 5)) (cond (decide (5 < (w64 (r3.1.border + 1)))) (some ((⟨0, 0⟩ : Galphabet), 0, 5)) (some (r3.1, (w64 (r3.1.border + 1)), 0))))

noncomputable def F_impl_alphabet_rewritesOf_L1 (p0 : Galphabet) (p1 : GMachine) (p2 : Int) (p3 : Int) (p4 : GRule) (s24 : (List GRewrite) × Int) : Option (((List GRewrite) × Int) ⊕ Out ((List GRewrite) × Int) (List GRewrite)) :=
  (cond (decide (s24.2 < p1.Symbols)) (bnd (app s24.1 ([(⟨([s24.2, (w64 (p0.state + p2)), p3] : List Int), ([(w64 (p0.state + p4.Next)), s24.2, p4.Write] : List Int)⟩ : GRewrite)] : List GRewrite)) fun z31 => some (.inl (z31, (w64 (s24.2 + 1))))) (some (.inr (.brk (s24.1, s24.2)))))

noncomputable def F_impl_alphabet_rewritesOf_L2 (p0 : Galphabet) (p1 : GMachine) (p2 : Int) (p4 : GRule) (s42 : (List GRewrite) × Int) : Option (((List GRewrite) × Int) ⊕ Out ((List GRewrite) × Int) (List GRewrite)) :=
  (cond (decide (s42.2 < p1.Symbols)) (bnd (app s42.1 ([(⟨([s42.2, (w64 (p0.state + p2)), p0.border] : List Int), ([(w64 (p0.state + p4.Next)), s42.2, p4.Write, p0.border] : List Int)⟩ : GRewrite)] : List GRewrite)) fun z49 => some (.inl (z49, (w64 (s42.2 + 1))))) (some (.inr (.brk (s42.1, s42.2)))))

noncomputable def F_impl_alphabet_rewritesOf (p0 : Galphabet) (p1 : GMachine) (p2 : Int) (p3 : Int) (p4 : GRule) : Option ((List GRewrite)) :=
  (cond (decide (p4.Move = 1)) (bnd (app ([] : List GRewrite) ([(⟨([(w64 (p0.state + p2)), p3] : List Int), ([p4.Write, (w64 (p0.state + p4.Next))] : List Int)⟩ : GRewrite)] : List GRewrite)) fun z11 => bnd ((cond (decide (p3 = 0)) (bnd (app z11 ([(⟨([(w64 (p0.state + p2)), p0.border] : List Int), ([p4.Write, (w64 (p0.state + p4.Next)), p0.border] : List Int)⟩ : GRewrite)] : List GRewrite)) fun z21 => some (.brk z21)) (some (.brk z11))) : Option (Out ((List GRewrite)) (List GRewrite))) (Out.elim (fun (s14 : (List GRewrite)) => some s14) (fun (r : (List GRewrite)) => some r))) (bnd (run (F_impl_alphabet_rewritesOf_L1 p0 p1 p2 p3 p4) (([] : List GRewrite), 0)) (Out.elim (fun (s24 : (List GRewrite) × Int) => bnd (app s24.1 ([(⟨([p0.border, (w64 (p0.state + p2)), p3] : List Int), ([p0.border, (w64 (p0.state + p4.Next)), 0, p4.Write] : List Int)⟩ : GRewrite)] : List GRewrite)) fun z38 => (cond (decide (p3 = 0)) (bnd (run (F_impl_alphabet_rewritesOf_L2 p0 p1 p2 p4) (z38, 0)) (Out.elim (fun (s42 : (List GRewrite) × Int) => bnd (app s42.1 ([(⟨([p0.border, (w64 (p0.state + p2)), p0.border] : List Int), ([p0.border, (w64 (p0.state + p4.Next)), 0, p4.Write, p0.border] : List Int)⟩ : GRewrite)] : List GRewrite)) fun z56 => some z56) (fun (r : (List GRewrite)) => some r))) (some z38))) (fun (r : (List GRewrite)) => some r))))

noncomputable def F_impl_alphabet_machineRewrites_L1 (p0 : Galphabet) (p1 : GMachine) (s4 : (List GRewrite) × Int) : Option (((List GRewrite) × Int) ⊕ Out ((List GRewrite) × Int) (List GRewrite)) :=
  (cond (decide (s4.2 < (p1.Rules.length : Int))) (bnd (idx p1.Rules s4.2) fun y7 => bnd (F_impl_isRule y7) fun r12 => (cond r12 (bnd (nz p1.Symbols) fun u15 => bnd (nz p1.Symbols) fun u17 => bnd (F_impl_alphabet_rewritesOf p0 p1 (w64 (Int.tdiv s4.2 p1.Symbols)) (Int.tmod s4.2 p1.Symbols) y7) fun r22 => bnd (app s4.1 r22) fun z25 => some (.inl (z25, (w64 (s4.2 + 1))))) (some (.inl (s4.1, (w64 (s4.2 + 1))))))) (some (.inr (.brk (s4.1, s4.2)))))

noncomputable def F_impl_alphabet_machineRewrites (p0 : Galphabet) (p1 : GMachine) : Option ((List GRewrite)) :=
  bnd (run (F_impl_alphabet_machineRewrites_L1 p0 p1) (([] : List GRewrite), 0)) (Out.elim (fun (s4 : (List GRewrite) × Int) => some s4.1) (fun (r : (List GRewrite)) => some r))

noncomputable def F_impl_freeRules_L1 (p0 : GMachine) (s3 : (List Int) × Int) : Option (((List Int) × Int) ⊕ Out ((List Int) × Int) (List Int)) :=
  (cond (decide (s3.2 < (p0.Rules.length : Int))) (bnd (idx p0.Rules s3.2) fun y6 => bnd (F_impl_isRule y6) fun r11 => (cond (!r11) (bnd (app s3.1 ([s3.2] : List Int)) fun z15 => some (.inl (z15, (w64 (s3.2 + 1))))) (some (.inl (s3.1, (w64 (s3.2 + 1))))))) (some (.inr (.brk (s3.1, s3.2)))))

noncomputable def F_impl_freeRules (p0 : GMachine) : Option ((List Int)) :=
  bnd (run (F_impl_freeRules_L1 p0) (([] : List Int), 0)) (Out.elim (fun (s3 : (List Int) × Int) => some s3.1) (fun (r : (List Int)) => some r))

noncomputable def F_impl_haltRewrites_L1 (p0 : GMachine) (r2 : Galphabet × Int × Int) (r10 : (List Int)) (s13 : (List GRewrite) × Int) : Option (((List GRewrite) × Int) ⊕ Out ((List GRewrite) × Int) ((List GRewrite) × Int × Int)) :=
  (cond (decide (s13.2 < (r10.length : Int))) (bnd (idx r10 s13.2) fun y16 => bnd (nz p0.Symbols) fun u21 => bnd (nz p0.Symbols) fun u23 => bnd (app s13.1 ([(⟨([(w64 (r2.1.state + (w64 (Int.tdiv y16 p0.Symbols)))), (Int.tmod y16 p0.Symbols)] : List Int), ([r2.2.1] : List Int)⟩ : GRewrite)] : List GRewrite)) fun z29 => (cond (decide ((Int.tmod y16 p0.Symbols) = 0)) (bnd (app z29 ([(⟨([(w64 (r2.1.state + (w64 (Int.tdiv y16 p0.Symbols)))), r2.1.border] : List Int), ([r2.2.1, r2.1.border] : List Int)⟩ : GRewrite)] : List GRewrite)) fun z37 => some (.inl (z37, (w64 (s13.2 + 1))))) (some (.inl (z29, (w64 (s13.2 + 1))))))) (some (.inr (.brk (s13.1, s13.2)))))

noncomputable def F_impl_haltRewrites_L2 (p0 : GMachine) (r2 : Galphabet × Int × Int) (s40 : (List GRewrite) × Int) : Option (((List GRewrite) × Int) ⊕ Out ((List GRewrite) × Int) ((List GRewrite) × Int × Int)) :=
  (cond (decide (s40.2 < p0.Symbols)) (bnd (app s40.1 ([(⟨([r2.2.1, s40.2] : List Int), ([r2.2.1] : List Int)⟩ : GRewrite)] : List GRewrite)) fun z47 => bnd (app z47 ([(⟨([s40.2, r2.2.1] : List Int), ([r2.2.1] : List Int)⟩ : GRewrite)] : List GRewrite)) fun z54 => some (.inl (z54, (w64 (s40.2 + 1))))) (some (.inr (.brk (s40.1, s40.2)))))

noncomputable def F_impl_haltRewrites (p0 : GMachine) : Option ((List GRewrite) × Int × Int) :=
  bnd (F_impl_eraserOf p0) fun r2 => (cond (decide (r2.2.2 ≠ 0)) (some (([] : (List GRewrite)), 0, r2.2.2)) (bnd (F_impl_alphabet_machineRewrites r2.1 p0) fun r6 => bnd (F_impl_freeRules p0) fun r10 => bnd (run (F_impl_haltRewrites_L1 p0 r2 r10) (r6, 0)) (Out.elim (fun (s13 : (List GRewrite) × Int) => bnd (run (F_impl_haltRewrites_L2 p0 r2) (s13.1, 0)) (Out.elim (fun (s40 : (List GRewrite) × Int) => (cond (decide (60 < (s40.1.length : Int))) (some (([] : (List GRewrite)), 0, 5)) (some (s40.1, (r6.length : Int), 0)))) (fun (r : (List GRewrite) × Int × Int) => some r))) (fun (r : (List GRewrite) × Int × Int) => some r))))

noncomputable def F_slices_Clone_Sint64_int64 (p0 : (List Int)) : Option ((List Int)) :=
  bnd (app ([] : List Int) p0) fun z3 => some z3

noncomputable def F_impl_reversed_L1 (s5 : (List Int) × Int × Int) : Option (((List Int) × Int × Int) ⊕ Out ((List Int) × Int × Int) (Option ((List Int)))) :=
  (cond (decide (s5.2.1 < s5.2.2)) (bnd (idx s5.1 s5.2.2) fun y8 => bnd (idx s5.1 s5.2.1) fun y12 => bnd (idx s5.1 s5.2.1) fun y19 => bnd (idx (s5.1.set s5.2.1.toNat y8) s5.2.2) fun y21 => some (.inl (((s5.1.set s5.2.1.toNat y8).set s5.2.2.toNat y12), (w64 (s5.2.1 + 1)), (w64 (s5.2.2 - 1))))) (some (.inr (.brk (s5.1, s5.2.1, s5.2.2)))))

noncomputable def F_impl_reversed (p0 : (List Int)) : Option ((List Int)) :=
  bnd (F_slices_Clone_Sint64_int64 p0) fun r1 => bnd (run (F_impl_reversed_L1) (r1, 0, (w64 ((r1.length : Int) - 1)))) (Out.elim (fun (s5 : (List Int) × Int × Int) => some s5.1) (fun (r : Option ((List Int))) => r))

noncomputable def F_slices_Concat_Sint64_int64_L1 (p0 : (List (List Int))) (s1 : Int × Int) : Option ((Int × Int) ⊕ Out (Int × Int) (List Int)) :=
  (cond (decide (s1.2 < (p0.length : Int))) (bnd (idx p0 s1.2) fun y4 => (cond (decide ((w64 (s1.1 + (y4.length : Int))) < 0)) none (some (.inl ((w64 (s1.1 + (y4.length : Int))), (w64 (s1.2 + 1))))))) (some (.inr (.brk (s1.1, s1.2)))))

noncomputable def F_slices_Concat_Sint64_int64_L2 (p0 : (List (List Int))) (s20 : (List Int) × Int) : Option (((List Int) × Int) ⊕ Out ((List Int) × Int) (List Int)) :=
  (cond (decide (s20.2 < (p0.length : Int))) (bnd (idx p0 s20.2) fun y23 => bnd (app s20.1 y23) fun z27 => some (.inl (z27, (w64 (s20.2 + 1))))) (some (.inr (.brk (s20.1, s20.2)))))

noncomputable def F_slices_Concat_Sint64_int64_L3 (p0 : (List (List Int))) (s30 : (List Int) × Int) : Option (((List Int) × Int) ⊕ Out ((List Int) × Int) (List Int)) :=
  (cond (decide (s30.2 < (p0.length : Int))) (bnd (idx p0 s30.2) fun y33 => bnd (app s30.1 y33) fun z37 => some (.inl (z37, (w64 (s30.2 + 1))))) (some (.inr (.brk (s30.1, s30.2)))))

noncomputable def F_slices_Concat_Sint64_int64 (p0 : (List (List Int))) : Option ((List Int)) :=
  bnd (run (F_slices_Concat_Sint64_int64_L1 p0) (0, 0)) (Out.elim (fun (s1 : Int × Int) => bnd ((cond (decide (s1.1 < 0)) none (some (.brk ()))) : Option (Out (Unit) (Option ((List Int))))) (Out.elim (fun (s10 : Unit) => (cond (decide (0 < (w64 (s1.1 - (w64 (((0 : Nat) : Int) - ((0 : Nat) : Int))))))) (bnd (mke (w64 (s1.1 - (w64 (((0 : Nat) : Int) - ((0 : Nat) : Int))))) (0 : Int)) fun z14 => bnd (slc z14 0 ((0 : Nat) : Int)) fun z17 => bnd (run (F_slices_Concat_Sint64_int64_L2 p0) (z17, 0)) (Out.elim (fun (s20 : (List Int) × Int) => some s20.1) (fun (r : (List Int)) => some r))) (bnd (run (F_slices_Concat_Sint64_int64_L3 p0) (([] : (List Int)), 0)) (Out.elim (fun (s30 : (List Int) × Int) => some s30.1) (fun (r : (List Int)) => some r))))) (fun (r : Option ((List Int))) => r))) (fun (r : (List Int)) => some r))

noncomputable def F_impl_joined (p0 : (List (List Int))) : Option ((List Int)) :=
  bnd (F_slices_Concat_Sint64_int64 p0) fun r1 => some r1

noncomputable def F_impl_alphabet_wordOfConfig (p0 : Galphabet) (p1 : GConfig) : Option ((List Int)) :=
  bnd (F_impl_reversed p1.Left) fun r6 => bnd (F_impl_joined ([([p0.border] : List Int), r6, ([(w64 (p0.state + p1.State))] : List Int), p1.Right, ([p0.border] : List Int)] : List (List Int))) fun r13 => some r13

noncomputable def F_impl_fitting (p0 : (List Int)) : Option ((List Int) × Int) :=
  (cond (decide (400 < (p0.length : Int))) (some (([] : (List Int)), 5)) (some (p0, 0)))

noncomputable def F_impl_haltWords (p0 : GMachine) (p1 : GConfig) : Option ((List Int) × (List Int) × Int) :=
  bnd (F_impl_eraserOf p0) fun r3 => (cond (decide (r3.2.2 ≠ 0)) (some (([] : (List Int)), ([] : (List Int)), r3.2.2)) (bnd (F_impl_alphabet_wordOfConfig r3.1 p1) fun r7 => bnd (F_impl_fitting r7) fun r10 => (cond (decide (r10.2 ≠ 0)) (some (([] : (List Int)), ([] : (List Int)), r10.2)) (some (r10.1, ([r3.1.border, r3.2.1, r3.1.border] : List Int), 0)))))

noncomputable def F_impl_alphabet_onlyMove_1 (p0 : Int) (p1 : Galphabet) : Option (Bool) :=
  (cond (decide (p1.state ≤ p0)) (some (decide (p0 < p1.border))) (some false))

noncomputable def F_slices_IndexFunc_Sint64_int64_L1 (p0 : (List Int)) (p1 : (Int → Option Bool)) (s1 : Int) : Option ((Int) ⊕ Out (Int) Int) :=
  (cond (decide (s1 < (p0.length : Int))) (bnd (idx p0 s1) fun y4 => bnd (p1 y4) fun r8 => (cond r8 (some (.inr (.ret s1))) (some (.inl (w64 (s1 + 1)))))) (some (.inr (.brk s1))))

noncomputable def F_slices_IndexFunc_Sint64_int64 (p0 : (List Int)) (p1 : (Int → Option Bool)) : Option (Int) :=
  bnd (run (F_slices_IndexFunc_Sint64_int64_L1 p0 p1) 0) (Out.elim (fun (s1 : Int) => some (-1)) (fun (r : Int) => some r))

noncomputable def F_slices_Equal_Sint64_int64_L1 (p0 : (List Int)) (p1 : (List Int)) (s2 : Int) : Option ((Int) ⊕ Out (Int) Bool) :=
  (cond (decide (s2 < (p0.length : Int))) (bnd (idx p0 s2) fun y5 => bnd (idx p1 s2) fun y9 => (cond (decide (y5 ≠ y9)) (some (.inr (.ret false))) (some (.inl (w64 (s2 + 1)))))) (some (.inr (.brk s2))))

noncomputable def F_slices_Equal_Sint64_int64 (p0 : (List Int)) (p1 : (List Int)) : Option (Bool) :=
  (cond (decide ((p0.length : Int) ≠ (p1.length : Int))) (some false) (bnd (run (F_slices_Equal_Sint64_int64_L1 p0 p1) 0) (Out.elim (fun (s2 : Int) => some true) (fun (r : Bool) => some r))))

noncomputable def F_impl_begins (p0 : (List Int)) (p1 : (List Int)) : Option (Bool) :=
  (cond (decide ((p1.length : Int) ≤ (p0.length : Int))) (bnd (slc p0 0 (p1.length : Int)) fun z2 => bnd (F_slices_Equal_Sint64_int64 z2 p1) fun r5 => some r5) (some false))

noncomputable def F_impl_replaced (p0 : (List Int)) (p1 : Int) (p2 : Int) (p3 : (List Int)) : Option ((List Int)) :=
  bnd (slc p0 0 p1) fun z1 => bnd (slc p0 (w64 (p1 + p2)) (p0.length : Int)) fun z4 => bnd (F_impl_joined ([z1, p3, z4] : List (List Int))) fun r11 => some r11

noncomputable def F_impl_alphabet_onlyMove_L1 (p0 : Galphabet) (p1 : (List GRewrite)) (p2 : (List Int)) (r3 : Int) (s5 : Int) : Option ((Int) ⊕ Out (Int) (Gmove × Bool)) :=
  (cond (decide (s5 < (p1.length : Int))) (bnd (idx p1 s5) fun y8 => bnd (F_slices_IndexFunc_Sint64_int64 y8.From (fun x_ => F_impl_alphabet_onlyMove_1 x_ p0)) fun r13 => bnd ((cond (decide (0 ≤ (w64 (r3 - r13)))) (bnd (slc p2 (w64 (r3 - r13)) (p2.length : Int)) fun z18 => bnd (F_impl_begins z18 y8.From) fun r24 => some (.brk r24)) (some (.brk false))) : Option (Out (Bool) (Gmove × Bool))) (Out.elim (fun (s15 : Bool) => (cond s15 (bnd (F_impl_replaced p2 (w64 (r3 - r13)) (y8.From.length : Int) y8.To) fun r27 => some (.inr (.ret ((⟨s5, (w64 (r3 - r13)), r27⟩ : Gmove), true)))) (some (.inl (w64 (s5 + 1)))))) (fun (r : Gmove × Bool) => some (.inr (.ret r))))) (some (.inr (.brk s5))))

noncomputable def F_impl_alphabet_onlyMove (p0 : Galphabet) (p1 : (List GRewrite)) (p2 : (List Int)) : Option (Gmove × Bool) :=
  bnd (F_slices_IndexFunc_Sint64_int64 p2 (fun x_ => F_impl_alphabet_onlyMove_1 x_ p0)) fun r3 => bnd (run (F_impl_alphabet_onlyMove_L1 p0 p1 p2 r3) 0) (Out.elim (fun (s5 : Int) => some ((⟨0, 0, ([] : (List Int))⟩ : Gmove), false)) (fun (r : Gmove × Bool) => some r))

noncomputable def F_impl_alphabet_shown_1 (p0 : Int) (p1 : Galphabet) : Option (Bool) :=
  some (decide (p1.state ≤ p0))

noncomputable def F_impl_trimmed_L1 (s1 : (List Int)) : Option (((List Int)) ⊕ Out ((List Int)) (List Int)) :=
  (cond (decide (0 < (s1.length : Int))) (bnd (idx s1 (w64 ((s1.length : Int) - 1))) fun y4 => (cond (decide (y4 = 0)) (bnd (slc s1 0 (w64 ((s1.length : Int) - 1))) fun z9 => some (.inl z9)) (some (.inr (.brk s1))))) (some (.inr (.brk s1))))

noncomputable def F_impl_trimmed (p0 : (List Int)) : Option ((List Int)) :=
  bnd (run (F_impl_trimmed_L1) p0) (Out.elim (fun (s1 : (List Int)) => some s1) (fun (r : (List Int)) => some r))

noncomputable def F_impl_alphabet_shown (p0 : Galphabet) (p1 : (List Int)) : Option (GConfig × Bool) :=
  bnd ((cond (decide ((w64 ((p1.length : Int) - 1)) < 2)) (some (.ret ((⟨0, ([] : (List Int)), ([] : (List Int))⟩ : GConfig), false))) (bnd (idx p1 0) fun y6 => (cond (decide (y6 ≠ p0.border)) (some (.ret ((⟨0, ([] : (List Int)), ([] : (List Int))⟩ : GConfig), false))) (bnd (idx p1 (w64 ((p1.length : Int) - 1))) fun y11 => (cond (decide (y11 ≠ p0.border)) (some (.ret ((⟨0, ([] : (List Int)), ([] : (List Int))⟩ : GConfig), false))) (some (.brk ()))))))) : Option (Out (Unit) (GConfig × Bool))) (Out.elim (fun (s3 : Unit) => bnd (slc p1 1 (w64 ((p1.length : Int) - 1))) fun z16 => bnd (F_slices_IndexFunc_Sint64_int64 z16 (fun x_ => F_impl_alphabet_shown_1 x_ p0)) fun r19 => bnd ((cond (decide (r19 < 0)) (some (.ret ((⟨0, ([] : (List Int)), ([] : (List Int))⟩ : GConfig), false))) (bnd (idx z16 r19) fun y24 => (cond (decide (p0.border ≤ y24)) (some (.ret ((⟨0, ([] : (List Int)), ([] : (List Int))⟩ : GConfig), false))) (bnd (slc z16 (w64 (r19 + 1)) (z16.length : Int)) fun z29 => bnd (F_impl_allWithin z29 0 (w64 (p0.state - 1))) fun r35 => (cond (!r35) (some (.ret ((⟨0, ([] : (List Int)), ([] : (List Int))⟩ : GConfig), false))) (some (.brk ()))))))) : Option (Out (Unit) (GConfig × Bool))) (Out.elim (fun (s21 : Unit) => bnd (slc z16 0 r19) fun z38 => bnd (slc z16 (w64 (r19 + 1)) (z16.length : Int)) fun z41 => bnd (F_impl_reversed z38) fun r47 => bnd (F_slices_Clone_Sint64_int64 z41) fun r50 => bnd (idx z16 r19) fun y53 => bnd (F_impl_trimmed r47) fun r60 => bnd (F_impl_trimmed r50) fun r63 => some ((⟨(w64 (y53 - p0.state)), r60, r63⟩ : GConfig), true)) (fun (r : GConfig × Bool) => some r))) (fun (r : GConfig × Bool) => some r))

noncomputable def F_impl_roomy (p0 : GConfig) : Option (Bool) :=
  (cond (decide ((p0.Left.length : Int) ≤ 200)) (some (decide ((p0.Right.length : Int) ≤ 200))) (some false))

noncomputable def F_slices_Index_Sint64_int64_L1 (p0 : (List Int)) (p1 : Int) (s1 : Int) : Option ((Int) ⊕ Out (Int) Int) :=
  (cond (decide (s1 < (p0.length : Int))) (bnd (idx p0 s1) fun y4 => (cond (decide (p1 = y4)) (some (.inr (.ret s1))) (some (.inl (w64 (s1 + 1)))))) (some (.inr (.brk s1))))

noncomputable def F_slices_Index_Sint64_int64 (p0 : (List Int)) (p1 : Int) : Option (Int) :=
  bnd (run (F_slices_Index_Sint64_int64_L1 p0 p1) 0) (Out.elim (fun (s1 : Int) => some (-1)) (fun (r : Int) => some r))

noncomputable def F_impl_erasing_L1 (p0 : (List GRewrite)) (p2 : (List Int)) (p3 : Int) (r2 : Int) (s4 : Int) : Option ((Int) ⊕ Out (Int) (Gmove × Bool)) :=
  (cond (decide (s4 < (p0.length : Int))) (bnd (idx p0 s4) fun y7 => (cond (decide (r2 < 0)) (bnd (idx y7.From 0) fun y13 => bnd (F_slices_Index_Sint64_int64 p2 y13) fun r17 => bnd ((cond (decide (0 ≤ r17)) (bnd (slc p2 r17 (p2.length : Int)) fun z22 => bnd (F_impl_begins z22 y7.From) fun r28 => some (.brk r28)) (some (.brk false))) : Option (Out (Bool) (Gmove × Bool))) (Out.elim (fun (s19 : Bool) => (cond s19 (bnd (F_impl_replaced p2 r17 (y7.From.length : Int) y7.To) fun r31 => some (.inr (.ret ((⟨s4, r17, r31⟩ : Gmove), true)))) (some (.inl (w64 (s4 + 1)))))) (fun (r : Gmove × Bool) => some (.inr (.ret r))))) (bnd (idx y7.From 0) fun y34 => (cond (decide (y34 ≠ p3)) (some (.inl (w64 (s4 + 1)))) (bnd ((cond (decide (0 ≤ r2)) (bnd (slc p2 r2 (p2.length : Int)) fun z42 => bnd (F_impl_begins z42 y7.From) fun r48 => some (.brk r48)) (some (.brk false))) : Option (Out (Bool) (Gmove × Bool))) (Out.elim (fun (s39 : Bool) => (cond s39 (bnd (F_impl_replaced p2 r2 (y7.From.length : Int) y7.To) fun r51 => some (.inr (.ret ((⟨s4, r2, r51⟩ : Gmove), true)))) (some (.inl (w64 (s4 + 1)))))) (fun (r : Gmove × Bool) => some (.inr (.ret r))))))))) (some (.inr (.brk s4))))

noncomputable def F_impl_erasing_L2 (p0 : (List GRewrite)) (p2 : (List Int)) (p3 : Int) (r2 : Int) (s54 : Int) : Option ((Int) ⊕ Out (Int) (Gmove × Bool)) :=
  (cond (decide (s54 < (p0.length : Int))) (cond (decide (0 < r2)) (bnd (idx p0 s54) fun y58 => bnd (bnd (idx y58.From 1) fun y65 => (cond (decide (y65 = p3)) (bnd (idx y58.From 0) fun y70 => bnd (idx p2 (w64 (r2 - 1))) fun y74 => some (.brk (decide (y70 = y74)))) (some (.brk false))) : Option (Out (Bool) (Gmove × Bool))) (Out.elim (fun (s63 : Bool) => (cond s63 (bnd (F_impl_replaced p2 (w64 (r2 - 1)) 2 y58.To) fun r79 => some (.inr (.ret ((⟨s54, (w64 (r2 - 1)), r79⟩ : Gmove), true)))) (some (.inl (w64 (s54 + 1)))))) (fun (r : Gmove × Bool) => some (.inr (.ret r))))) (some (.inr (.brk s54)))) (some (.inr (.brk s54))))

noncomputable def F_impl_erasing (p0 : (List GRewrite)) (p1 : Int) (p2 : (List Int)) (p3 : Int) : Option (Gmove × Bool) :=
  bnd (F_slices_Index_Sint64_int64 p2 p3) fun r2 => bnd (run (F_impl_erasing_L1 p0 p2 p3 r2) p1) (Out.elim (fun (s4 : Int) => bnd (run (F_impl_erasing_L2 p0 p2 p3 r2) p1) (Out.elim (fun (s54 : Int) => some ((⟨0, 0, ([] : (List Int))⟩ : Gmove), false)) (fun (r : Gmove × Bool) => some r))) (fun (r : Gmove × Bool) => some r))

noncomputable def F_impl_shortDerivation (p0 : (List (List Int))) : Option ((List (List Int)) × Int) :=
  (cond (decide (100 < (p0.length : Int))) (some (([] : (List (List Int))), 5)) (some (p0, 0)))

noncomputable def F_impl_HaltDerivation_L2 (r6 : (List GRewrite) × Int × Int) (r14 : Galphabet × Int × Int) (s44 : (List (List Int)) × (List Int)) : Option (((List (List Int)) × (List Int)) ⊕ Out ((List (List Int)) × (List Int)) ((List (List Int)) × Int)) :=
  bnd (F_impl_erasing r6.1 r6.2.1 s44.2 r14.2.1) fun r46 => (cond (!r46.2) (bnd (F_impl_shortDerivation s44.1) fun r51 => some (.inr (.ret (r51.1, r51.2)))) (bnd (app s44.1 ([([r46.1.rule, r46.1.at_] : List Int)] : List (List Int))) fun z58 => some (.inl (z58, r46.1.word))))

noncomputable def F_impl_HaltDerivation_L1 (p2 : Int) (r6 : (List GRewrite) × Int × Int) (r14 : Galphabet × Int × Int) (z22 : (List GRewrite)) (s28 : (List Int) × (List (List Int)) × Int) : Option (((List Int) × (List (List Int)) × Int) ⊕ Out ((List Int) × (List (List Int)) × Int) (Option ((List (List Int)) × Int))) :=
  bnd (F_impl_alphabet_onlyMove r14.1 z22 s28.1) fun r30 => bnd ((cond (!r30.2) (some (.ret (bnd (F_impl_alphabet_shown r14.1 s28.1) fun r37 => bnd (F_impl_roomy r37.1) fun r41 => (cond (!r41) (some (([] : (List (List Int))), 5)) (bnd (run (F_impl_HaltDerivation_L2 r6 r14) (s28.2.1, s28.1)) (Out.elim (fun (s44 : (List (List Int)) × (List Int)) => none) (fun (r : (List (List Int)) × Int) => some r))))))) (cond (decide (s28.2.2 = p2)) (some (.ret (bnd (F_impl_alphabet_shown r14.1 s28.1) fun r62 => bnd (F_impl_roomy r62.1) fun r66 => (cond (!r66) (some (([] : (List (List Int))), 5)) (some (([] : (List (List Int))), 3)))))) (some (.brk ())))) : Option (Out (Unit) (Option ((List (List Int)) × Int)))) (Out.elim (fun (s34 : Unit) => (cond (decide (400 < (r30.1.word.length : Int))) (some (.inr (.ret (some (([] : (List (List Int))), 5))))) (bnd (app s28.2.1 ([([r30.1.rule, r30.1.at_] : List Int)] : List (List Int))) fun z74 => some (.inl (r30.1.word, z74, (w64 (s28.2.2 + 1))))))) (fun (r : Option ((List (List Int)) × Int)) => some (.inr (.ret r))))

noncomputable def F_impl_HaltDerivation (p0 : GMachine) (p1 : GConfig) (p2 : Int) : Option ((List (List Int)) × Int) :=
  bnd (F_impl_runCode p0 p1 p2) fun r3 => (cond (decide (r3 ≠ 0)) (some (([] : (List (List Int))), r3)) (bnd (F_impl_haltRewrites p0) fun r6 => (cond (decide (r6.2.2 ≠ 0)) (some (([] : (List (List Int))), r6.2.2)) (bnd (F_impl_haltWords p0 p1) fun r10 => (cond (decide (r10.2.2 ≠ 0)) (some (([] : (List (List Int))), r10.2.2)) (bnd (F_impl_eraserOf p0) fun r14 => bnd (slc r6.1 0 r6.2.1) fun z22 => bnd (run (F_impl_HaltDerivation_L1 p2 r6 r14 z22) (r10.1, ([] : List (List Int)), 0)) (Out.elim (fun (s28 : (List Int) × (List (List Int)) × Int) => none) (fun (r : Option ((List (List Int)) × Int)) => r))))))))

noncomputable def F_laws_eqInt64S_L1 (p0 : (List Int)) (p1 : (List Int)) (s2 : Int) : Option ((Int) ⊕ Out (Int) Bool) :=
  (cond (decide (s2 < (p0.length : Int))) (bnd (idx p0 s2) fun y5 => bnd (idx p1 s2) fun y9 => (cond (decide (y5 ≠ y9)) (some (.inr (.ret false))) (some (.inl (w64 (s2 + 1)))))) (some (.inr (.brk s2))))

noncomputable def F_laws_eqInt64S (p0 : (List Int)) (p1 : (List Int)) : Option (Bool) :=
  (cond (decide ((p0.length : Int) ≠ (p1.length : Int))) (some false) (bnd (run (F_laws_eqInt64S_L1 p0 p1) 0) (Out.elim (fun (s2 : Int) => some true) (fun (r : Bool) => some r))))

noncomputable def F_laws_eqInt64SS_L1 (p0 : (List (List Int))) (p1 : (List (List Int))) (s2 : Int) : Option ((Int) ⊕ Out (Int) Bool) :=
  (cond (decide (s2 < (p0.length : Int))) (bnd (idx p0 s2) fun y5 => bnd (idx p1 s2) fun y9 => bnd (F_laws_eqInt64S y5 y9) fun r16 => (cond (!r16) (some (.inr (.ret false))) (some (.inl (w64 (s2 + 1)))))) (some (.inr (.brk s2))))

noncomputable def F_laws_eqInt64SS (p0 : (List (List Int))) (p1 : (List (List Int))) : Option (Bool) :=
  (cond (decide ((p0.length : Int) ≠ (p1.length : Int))) (some false) (bnd (run (F_laws_eqInt64SS_L1 p0 p1) 0) (Out.elim (fun (s2 : Int) => some true) (fun (r : Bool) => some r))))

noncomputable def F_laws_eqRule (p0 : GRule) (p1 : GRule) : Option (Bool) :=
  (cond (decide (p0.Write ≠ p1.Write)) (some false) (cond (decide (p0.Move ≠ p1.Move)) (some false) (cond (decide (p0.Next ≠ p1.Next)) (some false) (some true))))

noncomputable def F_laws_eqRuleS_L1 (p0 : (List GRule)) (p1 : (List GRule)) (s2 : Int) : Option ((Int) ⊕ Out (Int) Bool) :=
  (cond (decide (s2 < (p0.length : Int))) (bnd (idx p0 s2) fun y5 => bnd (idx p1 s2) fun y9 => bnd (F_laws_eqRule y5 y9) fun r16 => (cond (!r16) (some (.inr (.ret false))) (some (.inl (w64 (s2 + 1)))))) (some (.inr (.brk s2))))

noncomputable def F_laws_eqRuleS (p0 : (List GRule)) (p1 : (List GRule)) : Option (Bool) :=
  (cond (decide ((p0.length : Int) ≠ (p1.length : Int))) (some false) (bnd (run (F_laws_eqRuleS_L1 p0 p1) 0) (Out.elim (fun (s2 : Int) => some true) (fun (r : Bool) => some r))))

noncomputable def F_laws_eqMachine (p0 : GMachine) (p1 : GMachine) : Option (Bool) :=
  (cond (decide (p0.Symbols ≠ p1.Symbols)) (some false) (cond (decide (p0.States ≠ p1.States)) (some false) (bnd (F_laws_eqRuleS p0.Rules p1.Rules) fun r5 => (cond (!r5) (some false) (some true)))))

noncomputable def F_laws_eqConfig (p0 : GConfig) (p1 : GConfig) : Option (Bool) :=
  (cond (decide (p0.State ≠ p1.State)) (some false) (bnd (F_laws_eqInt64S p0.Left p1.Left) fun r4 => (cond (!r4) (some false) (bnd (F_laws_eqInt64S p0.Right p1.Right) fun r7 => (cond (!r7) (some false) (some true))))))

noncomputable def F_laws_markRuleS_L1 (s1 : (List GRule) × Int × Int) : Option (((List GRule) × Int × Int) ⊕ Out ((List GRule) × Int × Int) (Int × (List GRule))) :=
  (cond (decide (s1.2.2 < (s1.1.length : Int))) (bnd (idx s1.1 s1.2.2) fun y4 => bnd (idx (s1.1.set s1.2.2.toNat (⟨s1.2.1, y4.Move, y4.Next⟩ : GRule)) s1.2.2) fun y9 => bnd (idx ((s1.1.set s1.2.2.toNat (⟨s1.2.1, y4.Move, y4.Next⟩ : GRule)).set s1.2.2.toNat (⟨y9.Write, (w64 (s1.2.1 + 1)), y9.Next⟩ : GRule)) s1.2.2) fun y11 => some (.inl ((((s1.1.set s1.2.2.toNat (⟨s1.2.1, y4.Move, y4.Next⟩ : GRule)).set s1.2.2.toNat (⟨y9.Write, (w64 (s1.2.1 + 1)), y9.Next⟩ : GRule)).set s1.2.2.toNat (⟨y11.Write, y11.Move, (w64 ((w64 (s1.2.1 + 1)) + 1))⟩ : GRule)), (w64 ((w64 ((w64 (s1.2.1 + 1)) + 1)) + 1)), (w64 (s1.2.2 + 1))))) (some (.inr (.brk (s1.1, s1.2.1, s1.2.2)))))

noncomputable def F_laws_markRuleS (p0 : (List GRule)) (p1 : Int) : Option (Int × (List GRule)) :=
  bnd (run (F_laws_markRuleS_L1) (p0, p1, 0)) (Out.elim (fun (s1 : (List GRule) × Int × Int) => some (s1.2.1, s1.1)) (fun (r : Int × (List GRule)) => some r))

noncomputable def F_laws_markInt64S_L1 (s1 : (List Int) × Int × Int) : Option (((List Int) × Int × Int) ⊕ Out ((List Int) × Int × Int) (Int × (List Int))) :=
  (cond (decide (s1.2.2 < (s1.1.length : Int))) (bnd (idx s1.1 s1.2.2) fun y4 => some (.inl ((s1.1.set s1.2.2.toNat s1.2.1), (w64 (s1.2.1 + 1)), (w64 (s1.2.2 + 1))))) (some (.inr (.brk (s1.1, s1.2.1, s1.2.2)))))

noncomputable def F_laws_markInt64S (p0 : (List Int)) (p1 : Int) : Option (Int × (List Int)) :=
  bnd (run (F_laws_markInt64S_L1) (p0, p1, 0)) (Out.elim (fun (s1 : (List Int) × Int × Int) => some (s1.2.1, s1.1)) (fun (r : Int × (List Int)) => some r))

noncomputable def F_laws_markInt64SS_L1 (s1 : (List (List Int)) × Int × Int) : Option (((List (List Int)) × Int × Int) ⊕ Out ((List (List Int)) × Int × Int) (Int × (List (List Int)))) :=
  (cond (decide (s1.2.2 < (s1.1.length : Int))) (bnd (idx s1.1 s1.2.2) fun y4 => bnd (F_laws_markInt64S y4 s1.2.1) fun r10 => some (.inl ((s1.1.set s1.2.2.toNat r10.2), r10.1, (w64 (s1.2.2 + 1))))) (some (.inr (.brk (s1.1, s1.2.1, s1.2.2)))))

noncomputable def F_laws_markInt64SS (p0 : (List (List Int))) (p1 : Int) : Option (Int × (List (List Int))) :=
  bnd (run (F_laws_markInt64SS_L1) (p0, p1, 0)) (Out.elim (fun (s1 : (List (List Int)) × Int × Int) => some (s1.2.1, s1.1)) (fun (r : Int × (List (List Int))) => some r))

noncomputable def F_laws_heldInt64S_L1 (p0 : (List Int)) (s1 : Int × Int) : Option ((Int × Int) ⊕ Out (Int × Int) Int) :=
  (cond (decide (s1.2 < (p0.length : Int))) (bnd (idx p0 s1.2) fun y4 => (cond (decide (y4 ≠ s1.1)) (some (.inr (.ret (-1)))) (some (.inl ((w64 (s1.1 + 1)), (w64 (s1.2 + 1))))))) (some (.inr (.brk (s1.1, s1.2)))))

noncomputable def F_laws_heldInt64S (p0 : (List Int)) (p1 : Int) : Option (Int) :=
  bnd (run (F_laws_heldInt64S_L1 p0) (p1, 0)) (Out.elim (fun (s1 : Int × Int) => some s1.1) (fun (r : Int) => some r))

noncomputable def F_laws_heldInt64SS_L1 (p0 : (List (List Int))) (s1 : Int × Int) : Option ((Int × Int) ⊕ Out (Int × Int) Int) :=
  (cond (decide (s1.2 < (p0.length : Int))) (bnd (idx p0 s1.2) fun y4 => bnd (F_laws_heldInt64S y4 s1.1) fun r8 => (cond (decide (r8 < 0)) (some (.inr (.ret (-1)))) (some (.inl (r8, (w64 (s1.2 + 1))))))) (some (.inr (.brk (s1.1, s1.2)))))

noncomputable def F_laws_heldInt64SS (p0 : (List (List Int))) (p1 : Int) : Option (Int) :=
  bnd (run (F_laws_heldInt64SS_L1 p0) (p1, 0)) (Out.elim (fun (s1 : Int × Int) => some s1.1) (fun (r : Int) => some r))

noncomputable def F_laws_FnExactHaltDerivation (p0 : GMachine) (p1 : GConfig) (p2 : Int) : Option (Bool) :=
  bnd (F_laws_szMachine p0 1048576) fun r3 => (cond (decide (r3 < 0)) (some true) (bnd (F_laws_szConfig p1 r3) fun r6 => (cond (decide (r6 < 0)) (some true) (bnd (F_laws_toMachine p0) fun r12 => bnd (F_laws_toConfig p1) fun r15 => bnd (F_spec_HaltDerivation r12 r15 p2) fun r18 => bnd (F_laws_toMachine p0) fun r21 => bnd (F_laws_toConfig p1) fun r25 => bnd (F_impl_HaltDerivation r21 r25 p2) fun r29 => bnd (bnd (F_laws_eqInt64SS r29.1 r18.1) fun r34 => (cond (!r34) (some (.ret false)) (cond (decide (r29.2 ≠ r18.2)) (some (.ret false)) (some (.brk ())))) : Option (Out (Unit) Bool)) (Out.elim (fun (s32 : Unit) => bnd (F_laws_toMachine p0) fun r41 => bnd (F_laws_eqMachine r21 r41) fun r44 => (cond (!r44) (some false) (bnd (F_laws_toConfig p1) fun r50 => bnd (F_laws_eqConfig r25 r50) fun r53 => (cond (!r53) (some false) (bnd (F_laws_markRuleS r21.Rules 1) fun r58 => bnd (F_laws_markInt64S r25.Left r58.1) fun r62 => bnd (F_laws_markInt64S r25.Right r62.1) fun r64 => bnd ((cond (decide (r64.1 < 0)) (some (.ret false)) (bnd (F_laws_eqInt64SS r29.1 r18.1) fun r69 => (cond (!r69) (some (.ret false)) (cond (decide (r29.2 ≠ r18.2)) (some (.ret false)) (some (.brk ())))))) : Option (Out (Unit) Bool)) (Out.elim (fun (s66 : Unit) => bnd (F_laws_markInt64SS r29.1 1) fun r73 => bnd (F_laws_heldInt64SS r73.2 1) fun r75 => (cond (decide (r75 < 0)) (some false) (cond (decide (r75 ≠ r73.1)) (some false) (bnd (F_laws_toMachine p0) fun r82 => bnd (F_laws_toConfig p1) fun r85 => bnd (F_impl_HaltDerivation r82 r85 p2) fun r88 => bnd (F_laws_eqInt64SS r88.1 r18.1) fun r91 => (cond (!r91) (some false) (cond (decide (r88.2 ≠ r18.2)) (some false) (bnd (F_laws_heldInt64SS r73.2 1) fun r95 => (cond (decide (r95 < 0)) (some false) (cond (decide (r95 ≠ r73.1)) (some false) (some true)))))))))) (fun (r : Bool) => some r))))))) (fun (r : Bool) => some r))))))

end Go.Fn
