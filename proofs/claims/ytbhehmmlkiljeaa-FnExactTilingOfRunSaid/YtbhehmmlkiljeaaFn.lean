/-
  What each function of the program computes, as a plain Lean function: printed by program off the translation. No condition.
-/
import Derived.Test.YtbhehmmlkiljeaaTy
namespace Go.Fn
open Go Go.Tc
set_option linter.unusedVariables false

noncomputable def F_laws_szRuleS (p0 : (List GRule)) (p1 : Int) : Option (Int) :=
  (cond (decide ((w64 (p1 - (p0.length : Int))) < 0)) (some (-1)) (some (w64 (p1 - (p0.length : Int)))))


noncomputable def F_laws_szMachine (p0 : GMachine) (p1 : Int) : Option (Int) :=
  bnd (F_laws_szRuleS p0.Rules p1) fun r2 => (cond (decide (r2 < 0)) (some (-1)) (some r2))


noncomputable def F_laws_szInt64S (p0 : (List Int)) (p1 : Int) : Option (Int) :=
  (cond (decide ((w64 (p1 - (p0.length : Int))) < 0)) (some (-1)) (some (w64 (p1 - (p0.length : Int)))))


noncomputable def F_laws_szConfig (p0 : GConfig) (p1 : Int) : Option (Int) :=
  bnd (F_laws_szInt64S p0.Left p1) fun r2 => (cond (decide (r2 < 0)) (some (-1)) (bnd (F_laws_szInt64S p0.Right r2) fun r5 => (cond (decide (r5 < 0)) (some (-1)) (some r5))))


noncomputable def F_laws_toRule (p0 : GRule) : Option (GRule) :=
  some p0

noncomputable def F_laws_toRuleS_L1 (p0 : (List GRule)) (s4 : (List GRule) × Int) : Option (((List GRule) × Int) ⊕ Out ((List GRule) × Int) (List GRule)) :=
  (cond (decide (s4.2 < (p0.length : Int))) (bnd (idx p0 s4.2) fun y7 => bnd (F_laws_toRule y7) fun r11 => bnd (idx s4.1 s4.2) fun y13 => some (.inl ((s4.1.set s4.2.toNat r11), (w64 (s4.2 + 1))))) (some (.inr (.brk (s4.1, s4.2)))))

noncomputable def F_laws_toRuleS (p0 : (List GRule)) : Option ((List GRule)) :=
  bnd (mke (p0.length : Int) (⟨(0 : Int), (0 : Int), (0 : Int)⟩ : GRule)) fun z1 => bnd (run (F_laws_toRuleS_L1 p0) (z1, 0)) (Out.elim (fun (s4 : (List GRule) × Int) => some s4.1) (fun (r : (List GRule)) => some r))


noncomputable def F_laws_toMachine (p0 : GMachine) : Option (GMachine) :=
  bnd (F_laws_toRuleS p0.Rules) fun r4 => some (⟨p0.Symbols, p0.States, r4⟩ : GMachine)

noncomputable def F_laws_toInt64S_L1 (p0 : (List Int)) (s4 : (List Int) × Int) : Option (((List Int) × Int) ⊕ Out ((List Int) × Int) (List Int)) :=
  (cond (decide (s4.2 < (p0.length : Int))) (bnd (idx p0 s4.2) fun y7 => bnd (idx s4.1 s4.2) fun y11 => some (.inl ((s4.1.set s4.2.toNat y7), (w64 (s4.2 + 1))))) (some (.inr (.brk (s4.1, s4.2)))))

noncomputable def F_laws_toInt64S (p0 : (List Int)) : Option ((List Int)) :=
  bnd (mke (p0.length : Int) (0 : Int)) fun z1 => bnd (run (F_laws_toInt64S_L1 p0) (z1, 0)) (Out.elim (fun (s4 : (List Int) × Int) => some s4.1) (fun (r : (List Int)) => some r))


noncomputable def F_laws_toConfig (p0 : GConfig) : Option (GConfig) :=
  bnd (F_laws_toInt64S p0.Left) fun r4 => bnd (F_laws_toInt64S p0.Right) fun r7 => some (⟨p0.State, r4, r7⟩ : GConfig)


noncomputable def F_spec_l00In (p0 : Int) (p1 : Int) (p2 : Int) : Option (Bool) :=
  (cond (decide (p1 ≤ p0)) (some (decide (p0 ≤ p2))) (some false))


noncomputable def F_spec_l05None : Option (GRule) :=
  some (⟨0, 0, (-1)⟩ : GRule)


noncomputable def F_spec_l05Rule (p0 : GRule) (p1 : Int) (p2 : Int) : Option (Bool) :=
  bnd F_spec_l05None fun r5 => (cond (decide (p0 = r5)) (some true) (bnd (F_spec_l00In p0.Write 0 (w64 (p1 - 1))) fun r8 => (cond r8 (cond (decide (p0.Move = 1)) (bnd (F_spec_l00In p0.Next 0 (w64 (p2 - 1))) fun r12 => some r12) (cond (decide (p0.Move = (-1))) (bnd (F_spec_l00In p0.Next 0 (w64 (p2 - 1))) fun r15 => some r15) (some false))) (some false))))

noncomputable def F_spec_l05Is_L1 (p0 : GMachine) (s31 : Int) : Option ((Int) ⊕ Out (Int) Bool) :=
  (cond (decide (s31 < (p0.Rules.length : Int))) (bnd (idx p0.Rules s31) fun y38 => bnd (F_spec_l05Rule y38 p0.Symbols p0.States) fun r49 => (cond (!r49) (some (.inr (.ret false))) (some (.inl (w64 (s31 + 1)))))) (some (.inr (.brk s31))))

noncomputable def F_spec_l05Is (p0 : GMachine) : Option (Bool) :=
  bnd (bnd (F_spec_l00In p0.Symbols 2 6) fun r8 => (cond (!r8) (some (.ret false)) (bnd (F_spec_l00In p0.States 1 1000) fun r15 => (cond (!r15) (some (.ret false)) (cond (decide ((p0.Rules.length : Int) ≠ (w64 (p0.Symbols * p0.States)))) (some (.ret false)) (some (.brk ())))))) : Option (Out (Unit) Bool)) (Out.elim (fun (s1 : Unit) => bnd (run (F_spec_l05Is_L1 p0) 0) (Out.elim (fun (s31 : Int) => some true) (fun (r : Bool) => some r))) (fun (r : Bool) => some r))

noncomputable def F_spec_l05Cells_L1 (p0 : GMachine) (p1 : (List Int)) (s1 : Int) : Option ((Int) ⊕ Out (Int) Bool) :=
  (cond (decide (s1 < (p1.length : Int))) (bnd (idx p1 s1) fun y4 => bnd (F_spec_l00In y4 0 (w64 (p0.Symbols - 1))) fun r13 => (cond (!r13) (some (.inr (.ret false))) (some (.inl (w64 (s1 + 1)))))) (some (.inr (.brk s1))))

noncomputable def F_spec_l05Cells (p0 : GMachine) (p1 : (List Int)) : Option (Bool) :=
  bnd (run (F_spec_l05Cells_L1 p0 p1) 0) (Out.elim (fun (s1 : Int) => (cond (decide ((p1.length : Int) ≤ 200)) (cond (decide ((p1.length : Int) = 0)) (some true) (bnd (idx p1 (w64 ((p1.length : Int) - 1))) fun y18 => some (decide (y18 ≠ 0)))) (some false))) (fun (r : Bool) => some r))


noncomputable def F_spec_l05Good (p0 : GMachine) (p1 : GConfig) : Option (Bool) :=
  bnd (F_spec_l00In p1.State 0 (w64 (p0.States - 1))) fun r8 => (cond r8 (bnd (F_spec_l05Cells p0 p1.Left) fun r15 => (cond r15 (bnd (F_spec_l05Cells p0 p1.Right) fun r22 => some r22) (some false))) (some false))


noncomputable def F_spec_l33Place (p0 : Int) (p1 : Int) : Option (Bool) :=
  bnd (F_spec_l00In p0 1 30) fun r1 => (cond r1 (bnd (F_spec_l00In p1 0 (w64 (p0 - 1))) fun r4 => some r4) (some false))


noncomputable def F_spec_l33Head (p0 : GMachine) (p1 : Int) (p2 : Int) : Option (Int) :=
  some (w64 ((w64 (p0.Symbols * (w64 (p1 + 1)))) + p2))

noncomputable def F_spec_l33Tiles_L1 (p0 : GMachine) (s7 : (List GTile) × Int) : Option (((List GTile) × Int) ⊕ Out ((List GTile) × Int) ((List GTile) × Bool)) :=
  (cond (decide (s7.2 < p0.Symbols)) (bnd (app s7.1 ([(⟨0, s7.2, 0, s7.2⟩ : GTile)] : List GTile)) fun z13 => some (.inl (z13, (w64 (s7.2 + 1))))) (some (.inr (.brk (s7.1, s7.2)))))

noncomputable def F_spec_l33Tiles_L3 (p0 : GMachine) (s16 : (List GTile) × Int) (s21 : (List GTile) × Int) : Option (((List GTile) × Int) ⊕ Out ((List GTile) × Int) ((List GTile) × Bool)) :=
  (cond (decide (s21.2 < p0.Symbols)) (bnd (idx p0.Rules (w64 ((w64 (s16.2 * p0.Symbols)) + s21.2))) fun y30 => bnd F_spec_l05None fun r41 => (cond (decide (y30 = r41)) (some (.inl (s21.1, (w64 (s21.2 + 1))))) (bnd (F_spec_l33Head p0 s16.2 s21.2) fun r47 => (cond (decide (0 < y30.Move)) (bnd (app s21.1 ([(⟨0, r47, (w64 (1 + (w64 (2 * y30.Next)))), y30.Write⟩ : GTile)] : List GTile)) fun z52 => some (.inl (z52, (w64 (s21.2 + 1))))) (bnd (app s21.1 ([(⟨(w64 (2 + (w64 (2 * y30.Next)))), r47, 0, y30.Write⟩ : GTile)] : List GTile)) fun z56 => some (.inl (z56, (w64 (s21.2 + 1))))))))) (some (.inr (.brk (s21.1, s21.2)))))

noncomputable def F_spec_l33Tiles_L2 (p0 : GMachine) (s16 : (List GTile) × Int) : Option (((List GTile) × Int) ⊕ Out ((List GTile) × Int) ((List GTile) × Bool)) :=
  (cond (decide (s16.2 < p0.States)) (bnd (run (F_spec_l33Tiles_L3 p0 s16) (s16.1, 0)) (Out.elim (fun (s21 : (List GTile) × Int) => some (.inl (s21.1, (w64 (s16.2 + 1))))) (fun (r : (List GTile) × Bool) => some (.inr (.ret r))))) (some (.inr (.brk (s16.1, s16.2)))))

noncomputable def F_spec_l33Tiles_L5 (p0 : GMachine) (s69 : (List GTile) × Int) (s74 : (List GTile) × Int) : Option (((List GTile) × Int) ⊕ Out ((List GTile) × Int) ((List GTile) × Bool)) :=
  (cond (decide (s74.2 < p0.Symbols)) (bnd (F_spec_l33Head p0 s69.2 s74.2) fun r79 => bnd (app s74.1 ([(⟨(w64 (1 + (w64 (2 * s69.2)))), s74.2, 0, r79⟩ : GTile), (⟨0, s74.2, (w64 (2 + (w64 (2 * s69.2)))), r79⟩ : GTile)] : List GTile)) fun z82 => some (.inl (z82, (w64 (s74.2 + 1))))) (some (.inr (.brk (s74.1, s74.2)))))

noncomputable def F_spec_l33Tiles_L4 (p0 : GMachine) (s69 : (List GTile) × Int) : Option (((List GTile) × Int) ⊕ Out ((List GTile) × Int) ((List GTile) × Bool)) :=
  (cond (decide (s69.2 < p0.States)) (bnd (run (F_spec_l33Tiles_L5 p0 s69) (s69.1, 0)) (Out.elim (fun (s74 : (List GTile) × Int) => some (.inl (s74.1, (w64 (s69.2 + 1))))) (fun (r : (List GTile) × Bool) => some (.inr (.ret r))))) (some (.inr (.brk (s69.1, s69.2)))))

noncomputable def F_spec_l33Tiles (p0 : GMachine) : Option ((List GTile) × Bool) :=
  (cond (decide (300 < (w64 ((w64 (2 * p0.Symbols)) * p0.States)))) (some (([] : List GTile), false)) (bnd (run (F_spec_l33Tiles_L1 p0) (([] : List GTile), 0)) (Out.elim (fun (s7 : (List GTile) × Int) => bnd (run (F_spec_l33Tiles_L2 p0) (s7.1, 0)) (Out.elim (fun (s16 : (List GTile) × Int) => bnd (run (F_spec_l33Tiles_L4 p0) (s16.1, 0)) (Out.elim (fun (s69 : (List GTile) × Int) => some (s69.1, (decide ((s69.1.length : Int) ≤ 300)))) (fun (r : (List GTile) × Bool) => some r))) (fun (r : (List GTile) × Bool) => some r))) (fun (r : (List GTile) × Bool) => some r))))


noncomputable def F_spec_l13Cell (p0 : (List Int)) (p1 : Int) : Option (Int) :=
  (cond (decide (p1 < (p0.length : Int))) (bnd (idx p0 p1) fun y2 => some y2) (some 0))

noncomputable def F_spec_l33Colors_L1 (p1 : GConfig) (p2 : Int) (p3 : Int) (s2 : (List Int) × Int) : Option (((List Int) × Int) ⊕ Out ((List Int) × Int) ((List Int) × Bool)) :=
  (cond (decide (s2.2 < p2)) (cond (decide (s2.2 < p3)) (bnd (F_spec_l13Cell p1.Left (w64 ((w64 (p3 - 1)) - s2.2))) fun r8 => bnd (app s2.1 ([r8] : List Int)) fun z11 => some (.inl (z11, (w64 (s2.2 + 1))))) (bnd (F_spec_l13Cell p1.Right (w64 (s2.2 - p3))) fun r16 => bnd (app s2.1 ([r16] : List Int)) fun z19 => some (.inl (z19, (w64 (s2.2 + 1)))))) (some (.inr (.brk (s2.1, s2.2)))))

noncomputable def F_spec_l33Colors (p0 : GMachine) (p1 : GConfig) (p2 : Int) (p3 : Int) : Option ((List Int) × Bool) :=
  bnd (run (F_spec_l33Colors_L1 p1 p2 p3) (([] : List Int), 0)) (Out.elim (fun (s2 : (List Int) × Int) => bnd (idx s2.1 p3) fun y24 => bnd (F_spec_l33Head p0 p1.State y24) fun r32 => bnd (idx s2.1 p3) fun y34 => (cond (decide ((p1.Left.length : Int) ≤ p3)) (some ((s2.1.set p3.toNat r32), (decide ((p1.Right.length : Int) ≤ (w64 (p2 - p3)))))) (some ((s2.1.set p3.toNat r32), false)))) (fun (r : (List Int) × Bool) => some r))


noncomputable def F_spec_l33Start (p0 : GMachine) (p1 : GConfig) (p2 : Int) (p3 : Int) : Option ((List Int) × Int) :=
  bnd (F_spec_l33Colors p0 p1 p2 p3) fun r1 => (cond (!r1.2) (some (([] : (List Int)), 5)) (some (r1.1, 0)))


noncomputable def F_spec_l05Head (p0 : GConfig) : Option (Int) :=
  (cond (decide ((p0.Right.length : Int) = 0)) (some 0) (bnd (idx p0.Right 0) fun y6 => some y6))


noncomputable def F_spec_l05At (p0 : GMachine) (p1 : GConfig) : Option (Int) :=
  bnd (F_spec_l05Head p1) fun r8 => some (w64 ((w64 (p1.State * p0.Symbols)) + r8))


noncomputable def F_spec_l05Halts (p0 : GMachine) (p1 : GConfig) : Option (Bool) :=
  bnd (F_spec_l05At p0 p1) fun r6 => bnd (idx p0.Rules r6) fun y8 => bnd F_spec_l05None fun r14 => some (decide (y8 = r14))


noncomputable def F_spec_l00Own (p0 : (List Int)) : Option ((List Int)) :=
  bnd (app ([] : List Int) p0) fun z2 => some z2


noncomputable def F_spec_l05Rest (p0 : (List Int)) : Option ((List Int)) :=
  (cond (decide ((p0.length : Int) = 0)) (some ([] : List Int)) (bnd (slc p0 1 (p0.length : Int)) fun z3 => bnd (F_spec_l00Own z3) fun r6 => some r6))

noncomputable def F_spec_l05Trim_L1 (p0 : (List Int)) (s1 : Int) : Option ((Int) ⊕ Out (Int) (List Int)) :=
  (cond (decide (0 < s1)) (bnd (idx p0 (w64 (s1 - 1))) fun y4 => (cond (decide (y4 = 0)) (some (.inl (w64 (s1 - 1)))) (some (.inr (.brk s1))))) (some (.inr (.brk s1))))

noncomputable def F_spec_l05Trim (p0 : (List Int)) : Option ((List Int)) :=
  bnd (run (F_spec_l05Trim_L1 p0) (p0.length : Int)) (Out.elim (fun (s1 : Int) => bnd (slc p0 0 s1) fun z9 => bnd (F_spec_l00Own z9) fun r12 => some r12) (fun (r : (List Int)) => some r))


noncomputable def F_spec_l05Push (p0 : Int) (p1 : (List Int)) : Option ((List Int)) :=
  bnd (app ([p0] : List Int) p1) fun z2 => bnd (F_spec_l05Trim z2) fun r5 => some r5


noncomputable def F_spec_l05Step (p0 : GMachine) (p1 : GConfig) : Option (GConfig × Bool) :=
  bnd (F_spec_l05At p0 p1) fun r7 => bnd (idx p0.Rules r7) fun y9 => bnd (F_spec_l05Rest p1.Right) fun r19 => (cond (decide (0 < y9.Move)) (bnd (F_spec_l05Push y9.Write p1.Left) fun r28 => (cond (decide ((r28.length : Int) ≤ 200)) (some ((⟨y9.Next, r28, r19⟩ : GConfig), (decide ((r19.length : Int) ≤ 200)))) (some ((⟨y9.Next, r28, r19⟩ : GConfig), false)))) (bnd ((cond (decide (0 < (p1.Left.length : Int))) (bnd (idx p1.Left 0) fun y45 => some (.brk y45)) (some (.brk 0))) : Option (Out (Int) (GConfig × Bool))) (Out.elim (fun (s38 : Int) => bnd (F_spec_l05Push y9.Write r19) fun r49 => bnd (F_spec_l05Push s38 r49) fun r52 => bnd (F_spec_l05Rest p1.Left) fun r57 => (cond (decide ((r57.length : Int) ≤ 200)) (some ((⟨y9.Next, r57, r52⟩ : GConfig), (decide ((r52.length : Int) ≤ 200)))) (some ((⟨y9.Next, r57, r52⟩ : GConfig), false)))) (fun (r : GConfig × Bool) => some r))))

noncomputable def F_spec_l33Fit_L1 (p0 : (List GTile)) (p1 : Int) (p2 : Int) (p3 : Int) (p4 : Int) (s1 : Int) : Option ((Int) ⊕ Out (Int) Int) :=
  (cond (decide (s1 < (p0.length : Int))) (bnd (idx p0 s1) fun y4 => (cond (decide (y4 = (⟨p1, p2, p3, p4⟩ : GTile))) (some (.inr (.ret s1))) (some (.inl (w64 (s1 + 1)))))) (some (.inr (.brk s1))))

noncomputable def F_spec_l33Fit (p0 : (List GTile)) (p1 : Int) (p2 : Int) (p3 : Int) (p4 : Int) : Option (Int) :=
  bnd (run (F_spec_l33Fit_L1 p0 p1 p2 p3 p4) 0) (Out.elim (fun (s1 : Int) => some (-1)) (fun (r : Int) => some r))

noncomputable def F_spec_TilingOfRun_L2 (p2 : Int) (r19 : (List GTile) × Bool) (s28 : Int × Int × Int × (List Int) × (List Int) × (List Int) × (List (List Int))) (s34 : Int × Int × Int) (r62 : (List Int) × Bool) (s66 : (List Int) × Int) : Option (((List Int) × Int) ⊕ Out ((List Int) × Int) ((List (List Int)) × Int)) :=
  (cond (decide (s66.2 < p2)) (bnd ((cond (decide (0 < s34.2.1)) (cond (decide (s66.2 = s28.1)) (some (.brk (w64 (1 + (w64 (2 * s34.2.2)))))) (some (.brk 0))) (some (.brk 0))) : Option (Out (Int) ((List (List Int)) × Int))) (Out.elim (fun (s69 : Int) => bnd ((cond (decide (0 < s34.2.1)) (cond (decide (s66.2 = (w64 (s28.1 + s34.2.1)))) (some (.brk (w64 (1 + (w64 (2 * s34.2.2)))))) (some (.brk 0))) (some (.brk 0))) : Option (Out (Int) ((List (List Int)) × Int))) (Out.elim (fun (s73 : Int) => bnd ((cond (decide (s34.2.1 < 0)) (cond (decide (s66.2 = s28.1)) (some (.brk (w64 (2 + (w64 (2 * s34.2.2)))))) (some (.brk s73))) (some (.brk s73))) : Option (Out (Int) ((List (List Int)) × Int))) (Out.elim (fun (s77 : Int) => bnd ((cond (decide (s34.2.1 < 0)) (cond (decide (s66.2 = (w64 (s28.1 + s34.2.1)))) (some (.brk (w64 (2 + (w64 (2 * s34.2.2)))))) (some (.brk s69))) (some (.brk s69))) : Option (Out (Int) ((List (List Int)) × Int))) (Out.elim (fun (s81 : Int) => bnd (idx s28.2.2.2.2.2.1 s66.2) fun y85 => bnd (idx r62.1 s66.2) fun y89 => bnd (F_spec_l33Fit r19.1 s77 y85 s81 y89) fun r98 => bnd (app s66.1 ([r98] : List Int)) fun z101 => some (.inl (z101, (w64 (s66.2 + 1))))) (fun (r : (List (List Int)) × Int) => some (.inr (.ret r))))) (fun (r : (List (List Int)) × Int) => some (.inr (.ret r))))) (fun (r : (List (List Int)) × Int) => some (.inr (.ret r))))) (fun (r : (List (List Int)) × Int) => some (.inr (.ret r))))) (some (.inr (.brk (s66.1, s66.2)))))

noncomputable def F_spec_TilingOfRun_L1 (p0 : GMachine) (p2 : Int) (r19 : (List GTile) × Bool) (s28 : Int × Int × Int × (List Int) × (List Int) × (List Int) × (List (List Int))) : Option ((Int × Int × Int × (List Int) × (List Int) × (List Int) × (List (List Int))) ⊕ Out (Int × Int × Int × (List Int) × (List Int) × (List Int) × (List (List Int))) ((List (List Int)) × Int)) :=
  (cond (decide (0 < s28.2.1)) (bnd (F_spec_l05Halts p0 (⟨s28.2.2.1, s28.2.2.2.1, s28.2.2.2.2.1⟩ : GConfig)) fun r31 => (cond r31 (some (.inr (.ret (([] : (List (List Int))), 6)))) (bnd (bnd (F_spec_l05At p0 (⟨s28.2.2.1, s28.2.2.2.1, s28.2.2.2.2.1⟩ : GConfig)) fun r39 => bnd (idx p0.Rules r39) fun y41 => some (.brk (y41.Write, y41.Move, y41.Next)) : Option (Out (Int × Int × Int) ((List (List Int)) × Int))) (Out.elim (fun (s34 : Int × Int × Int) => bnd (F_spec_l05Step p0 (⟨s28.2.2.1, s28.2.2.2.1, s28.2.2.2.2.1⟩ : GConfig)) fun r55 => bnd (F_spec_l00In (w64 (s28.1 + s34.2.1)) 0 (w64 (p2 - 1))) fun r59 => (cond (!r59) (some (.inr (.ret (([] : (List (List Int))), 6)))) (bnd (F_spec_l33Colors p0 r55.1 p2 (w64 (s28.1 + s34.2.1))) fun r62 => bnd (run (F_spec_TilingOfRun_L2 p2 r19 s28 s34 r62) (([] : List Int), 0)) (Out.elim (fun (s66 : (List Int) × Int) => bnd (app s28.2.2.2.2.2.2 ([s66.1] : List (List Int))) fun z113 => some (.inl ((w64 (s28.1 + s34.2.1)), (w64 (s28.2.1 - 1)), r55.1.State, r55.1.Left, r55.1.Right, r62.1, z113))) (fun (r : (List (List Int)) × Int) => some (.inr (.ret r))))))) (fun (r : (List (List Int)) × Int) => some (.inr (.ret r))))))) (some (.inr (.brk (s28.1, s28.2.1, s28.2.2.1, s28.2.2.2.1, s28.2.2.2.2.1, s28.2.2.2.2.2.1, s28.2.2.2.2.2.2)))))

noncomputable def F_spec_TilingOfRun (p0 : GMachine) (p1 : GConfig) (p2 : Int) (p3 : Int) (p4 : Int) : Option ((List (List Int)) × Int) :=
  bnd (bnd (F_spec_l05Is p0) fun r5 => (cond (!r5) (some (.ret (([] : (List (List Int))), 1))) (bnd (F_spec_l05Good p0 p1) fun r8 => (cond (!r8) (some (.ret (([] : (List (List Int))), 1))) (some (.brk ()))))) : Option (Out (Unit) ((List (List Int)) × Int))) (Out.elim (fun (s3 : Unit) => bnd (bnd (F_spec_l33Place p2 p3) fun r13 => (cond (!r13) (some (.ret (([] : (List (List Int))), 2))) (bnd (F_spec_l00In p4 1 40) fun r16 => (cond (!r16) (some (.ret (([] : (List (List Int))), 2))) (some (.brk ()))))) : Option (Out (Unit) ((List (List Int)) × Int))) (Out.elim (fun (s11 : Unit) => bnd (F_spec_l33Tiles p0) fun r19 => (cond (!r19.2) (some (([] : (List (List Int))), 5)) (bnd (F_spec_l33Start p0 p1 p2 p3) fun r23 => (cond (decide (r23.2 ≠ 0)) (some (([] : (List (List Int))), r23.2)) (bnd (run (F_spec_TilingOfRun_L1 p0 p2 r19) (p3, p4, p1.State, p1.Left, p1.Right, r23.1, ([] : List (List Int)))) (Out.elim (fun (s28 : Int × Int × Int × (List Int) × (List Int) × (List Int) × (List (List Int))) => some (s28.2.2.2.2.2.2, 0)) (fun (r : (List (List Int)) × Int) => some r))))))) (fun (r : (List (List Int)) × Int) => some r))) (fun (r : (List (List Int)) × Int) => some r))


noncomputable def F_impl_within (p0 : Int) (p1 : Int) (p2 : Int) : Option (Bool) :=
  (cond (decide (p1 ≤ p0)) (some (decide (p0 ≤ p2))) (some false))


noncomputable def F_impl_size_impl_Rule (p0 : (List GRule)) : Option (Int) :=
  some (p0.length : Int)


noncomputable def F_impl_noRule : Option (GRule) :=
  some (⟨0, 0, (-1)⟩ : GRule)


noncomputable def F_impl_isRule (p0 : GRule) : Option (Bool) :=
  bnd F_impl_noRule fun r5 => some (!(decide (p0 = r5)))


noncomputable def F_impl_validRule (p0 : GMachine) (p1 : GRule) : Option (Bool) :=
  bnd (F_impl_isRule p1) fun r3 => (cond (!r3) (some true) (bnd (F_impl_within p1.Write 0 (w64 (p0.Symbols - 1))) fun r6 => (cond r6 (cond (decide (p1.Move = (-1))) (bnd (F_impl_within p1.Next 0 (w64 (p0.States - 1))) fun r10 => some r10) (cond (decide (p1.Move = 1)) (bnd (F_impl_within p1.Next 0 (w64 (p0.States - 1))) fun r13 => some r13) (some false))) (some false))))


noncomputable def F_impl_ValidMachine_1 (p0 : GRule) (p1 : GMachine) : Option (Bool) :=
  bnd (F_impl_validRule p1 p0) fun r3 => some (!r3)

noncomputable def F_slices_IndexFunc_Simpl_Rule_impl_Rule_L1 (p0 : (List GRule)) (p1 : (GRule → Option Bool)) (s1 : Int) : Option ((Int) ⊕ Out (Int) Int) :=
  (cond (decide (s1 < (p0.length : Int))) (bnd (idx p0 s1) fun y4 => bnd (p1 y4) fun r8 => (cond r8 (some (.inr (.ret s1))) (some (.inl (w64 (s1 + 1)))))) (some (.inr (.brk s1))))

noncomputable def F_slices_IndexFunc_Simpl_Rule_impl_Rule (p0 : (List GRule)) (p1 : (GRule → Option Bool)) : Option (Int) :=
  bnd (run (F_slices_IndexFunc_Simpl_Rule_impl_Rule_L1 p0 p1) 0) (Out.elim (fun (s1 : Int) => some (-1)) (fun (r : Int) => some r))


noncomputable def F_slices_ContainsFunc_Simpl_Rule_impl_Rule (p0 : (List GRule)) (p1 : (GRule → Option Bool)) : Option (Bool) :=
  bnd (F_slices_IndexFunc_Simpl_Rule_impl_Rule p0 p1) fun r1 => some (decide (0 ≤ r1))


noncomputable def F_impl_ValidMachine (p0 : GMachine) : Option (Bool) :=
  bnd (F_impl_within p0.Symbols 2 6) fun r5 => (cond (!r5) (some false) (bnd (F_impl_within p0.States 1 1000) fun r8 => (cond (!r8) (some false) (bnd (F_impl_size_impl_Rule p0.Rules) fun r11 => (cond (decide (r11 ≠ (w64 (p0.States * p0.Symbols)))) (some false) (bnd (F_slices_ContainsFunc_Simpl_Rule_impl_Rule p0.Rules (fun x_ => F_impl_ValidMachine_1 x_ p0)) fun r14 => some (!r14)))))))


noncomputable def F_impl_size_int64 (p0 : (List Int)) : Option (Int) :=
  some (p0.length : Int)

noncomputable def F_impl_allWithin_L1 (p0 : (List Int)) (p1 : Int) (p2 : Int) (s1 : Int) : Option ((Int) ⊕ Out (Int) Bool) :=
  (cond (decide (s1 < (p0.length : Int))) (bnd (idx p0 s1) fun y4 => bnd (F_impl_within y4 p1 p2) fun r8 => (cond (!r8) (some (.inr (.ret false))) (some (.inl (w64 (s1 + 1)))))) (some (.inr (.brk s1))))

noncomputable def F_impl_allWithin (p0 : (List Int)) (p1 : Int) (p2 : Int) : Option (Bool) :=
  bnd (run (F_impl_allWithin_L1 p0 p1 p2) 0) (Out.elim (fun (s1 : Int) => some true) (fun (r : Bool) => some r))


noncomputable def F_impl_validSide (p0 : (List Int)) (p1 : Int) (p2 : Int) : Option (Bool) :=
  bnd (F_impl_size_int64 p0) fun r1 => (cond (decide (r1 ≤ p2)) (bnd (F_impl_allWithin p0 0 (w64 (p1 - 1))) fun r4 => (cond r4 (cond (decide ((p0.length : Int) = 0)) (some true) (bnd (idx p0 (w64 ((p0.length : Int) - 1))) fun y8 => some (decide (y8 ≠ 0)))) (some false))) (some false))


noncomputable def F_impl_configOf (p0 : GMachine) (p1 : GConfig) : Option (Bool) :=
  bnd (F_impl_within p1.State 0 (w64 (p0.States - 1))) fun r3 => (cond r3 (bnd (F_impl_validSide p1.Left p0.Symbols 200) fun r6 => (cond r6 (bnd (F_impl_validSide p1.Right p0.Symbols 200) fun r9 => some r9) (some false))) (some false))


noncomputable def F_impl_ValidConfig (p0 : GMachine) (p1 : GConfig) : Option (Bool) :=
  bnd (F_impl_ValidMachine p0) fun r3 => (cond r3 (bnd (F_impl_configOf p0 p1) fun r6 => some r6) (some false))


noncomputable def F_impl_rowCode (p0 : Int) (p1 : Int) : Option (Int) :=
  bnd (F_impl_within p0 1 30) fun r1 => (cond (!r1) (some 2) (bnd (F_impl_within p1 0 (w64 (p0 - 1))) fun r4 => (cond (!r4) (some 2) (some 0))))


noncomputable def F_impl_resting (p0 : Int) : Option (GTile) :=
  some (⟨0, p0, 0, p0⟩ : GTile)


noncomputable def F_impl_headColor (p0 : GMachine) (p1 : Int) (p2 : Int) : Option (Int) :=
  some (w64 ((w64 (p0.Symbols * (w64 (p1 + 1)))) + p2))


noncomputable def F_impl_passes (p0 : Int) (p1 : Int) : Option (Int) :=
  (cond (decide (p0 = 1)) (some (w64 (1 + (w64 (2 * p1))))) (some (w64 (2 + (w64 (2 * p1))))))


noncomputable def F_impl_leaving (p0 : GMachine) (p1 : Int) (p2 : Int) (p3 : GRule) : Option (GTile) :=
  bnd (F_impl_headColor p0 p1 p2) fun r7 => (cond (decide (p3.Move = 1)) (bnd (F_impl_passes 1 p3.Next) fun r11 => some (⟨0, r7, r11, p3.Write⟩ : GTile)) (bnd (F_impl_passes (-1) p3.Next) fun r13 => some (⟨r13, r7, 0, p3.Write⟩ : GTile)))


noncomputable def F_impl_coming (p0 : GMachine) (p1 : Int) (p2 : Int) (p3 : Int) : Option (GTile) :=
  bnd (F_impl_headColor p0 p2 p3) fun r3 => (cond (decide (p1 = 1)) (bnd (F_impl_passes 1 p2) fun r7 => some (⟨r7, p3, 0, r3⟩ : GTile)) (bnd (F_impl_passes (-1) p2) fun r9 => some (⟨0, p3, r9, r3⟩ : GTile)))

noncomputable def F_impl_tilesOfMachine_L1 (p0 : GMachine) (s3 : (List GTile) × Int) : Option (((List GTile) × Int) ⊕ Out ((List GTile) × Int) ((List GTile) × Int)) :=
  (cond (decide (s3.2 < p0.Symbols)) (bnd (F_impl_resting s3.2) fun r6 => bnd (app s3.1 ([r6] : List GTile)) fun z9 => some (.inl (z9, (w64 (s3.2 + 1))))) (some (.inr (.brk (s3.1, s3.2)))))

noncomputable def F_impl_tilesOfMachine_L2 (p0 : GMachine) (s12 : (List GTile) × Int) : Option (((List GTile) × Int) ⊕ Out ((List GTile) × Int) ((List GTile) × Int)) :=
  (cond (decide (s12.2 < (p0.Rules.length : Int))) (bnd (idx p0.Rules s12.2) fun y15 => bnd (F_impl_isRule y15) fun r20 => (cond r20 (bnd (nz p0.Symbols) fun u23 => bnd (nz p0.Symbols) fun u25 => bnd (F_impl_leaving p0 (w64 (Int.tdiv s12.2 p0.Symbols)) (Int.tmod s12.2 p0.Symbols) y15) fun r30 => bnd (app s12.1 ([r30] : List GTile)) fun z33 => some (.inl (z33, (w64 (s12.2 + 1))))) (some (.inl (s12.1, (w64 (s12.2 + 1))))))) (some (.inr (.brk (s12.1, s12.2)))))

noncomputable def F_impl_tilesOfMachine_L4 (p0 : GMachine) (s36 : (List GTile) × Int) (s39 : (List GTile) × Int) : Option (((List GTile) × Int) ⊕ Out ((List GTile) × Int) ((List GTile) × Int)) :=
  (cond (decide (s39.2 < p0.Symbols)) (bnd (F_impl_coming p0 1 s36.2 s39.2) fun r45 => bnd (F_impl_coming p0 (-1) s36.2 s39.2) fun r47 => bnd (app s39.1 ([r45, r47] : List GTile)) fun z50 => some (.inl (z50, (w64 (s39.2 + 1))))) (some (.inr (.brk (s39.1, s39.2)))))

noncomputable def F_impl_tilesOfMachine_L3 (p0 : GMachine) (s36 : (List GTile) × Int) : Option (((List GTile) × Int) ⊕ Out ((List GTile) × Int) ((List GTile) × Int)) :=
  (cond (decide (s36.2 < p0.States)) (bnd (run (F_impl_tilesOfMachine_L4 p0 s36) (s36.1, 0)) (Out.elim (fun (s39 : (List GTile) × Int) => some (.inl (s39.1, (w64 (s36.2 + 1))))) (fun (r : (List GTile) × Int) => some (.inr (.ret r))))) (some (.inr (.brk (s36.1, s36.2)))))

noncomputable def F_impl_tilesOfMachine (p0 : GMachine) : Option ((List GTile) × Int) :=
  bnd (run (F_impl_tilesOfMachine_L1 p0) (([] : List GTile), 0)) (Out.elim (fun (s3 : (List GTile) × Int) => bnd (run (F_impl_tilesOfMachine_L2 p0) (s3.1, 0)) (Out.elim (fun (s12 : (List GTile) × Int) => bnd (run (F_impl_tilesOfMachine_L3 p0) (s12.1, 0)) (Out.elim (fun (s36 : (List GTile) × Int) => (cond (decide (300 < (s36.1.length : Int))) (some (([] : (List GTile)), 5)) (some (s36.1, 0)))) (fun (r : (List GTile) × Int) => some r))) (fun (r : (List GTile) × Int) => some r))) (fun (r : (List GTile) × Int) => some r))


noncomputable def F_impl_symbolAt (p0 : (List Int)) (p1 : Int) : Option (Int) :=
  (cond (decide ((p0.length : Int) ≤ p1)) (some 0) (bnd (idx p0 p1) fun y2 => some y2))

noncomputable def F_impl_cellsFrom_L1 (p0 : (List Int)) (p1 : Int) (p2 : Int) (s2 : (List Int) × Int) : Option (((List Int) × Int) ⊕ Out ((List Int) × Int) (List Int)) :=
  (cond (decide (s2.2 < p2)) (bnd (F_impl_symbolAt p0 (w64 (p1 + s2.2))) fun r5 => bnd (app s2.1 ([r5] : List Int)) fun z8 => some (.inl (z8, (w64 (s2.2 + 1))))) (some (.inr (.brk (s2.1, s2.2)))))

noncomputable def F_impl_cellsFrom (p0 : (List Int)) (p1 : Int) (p2 : Int) : Option ((List Int)) :=
  bnd (run (F_impl_cellsFrom_L1 p0 p1 p2) (([] : List Int), 0)) (Out.elim (fun (s2 : (List Int) × Int) => some s2.1) (fun (r : (List Int)) => some r))


noncomputable def F_slices_Clone_Sint64_int64 (p0 : (List Int)) : Option ((List Int)) :=
  bnd (app ([] : List Int) p0) fun z3 => some z3

noncomputable def F_impl_reversed_L1 (s5 : (List Int) × Int × Int) : Option (((List Int) × Int × Int) ⊕ Out ((List Int) × Int × Int) (Option ((List Int)))) :=
  (cond (decide (s5.2.1 < s5.2.2)) (bnd (idx s5.1 s5.2.2) fun y8 => bnd (idx s5.1 s5.2.1) fun y12 => bnd (idx s5.1 s5.2.1) fun y19 => bnd (idx (s5.1.set s5.2.1.toNat y8) s5.2.2) fun y21 => some (.inl (((s5.1.set s5.2.1.toNat y8).set s5.2.2.toNat y12), (w64 (s5.2.1 + 1)), (w64 (s5.2.2 - 1))))) (some (.inr (.brk (s5.1, s5.2.1, s5.2.2)))))

noncomputable def F_impl_reversed (p0 : (List Int)) : Option ((List Int)) :=
  bnd (F_slices_Clone_Sint64_int64 p0) fun r1 => bnd (run (F_impl_reversed_L1) (r1, 0, (w64 ((r1.length : Int) - 1)))) (Out.elim (fun (s5 : (List Int) × Int × Int) => some s5.1) (fun (r : Option ((List Int))) => r))

noncomputable def F_slices_Concat_Sint64_int64_L1 (p0 : (List (List Int))) (s1 : Int × Int) : Option ((Int × Int) ⊕ Out (Int × Int) (List Int)) :=
  (cond (decide (s1.2 < (p0.length : Int))) (bnd (idx p0 s1.2) fun y4 => (cond (decide ((w64 (s1.1 + (y4.length : Int))) < 0)) none (some (.inl ((w64 (s1.1 + (y4.length : Int))), (w64 (s1.2 + 1))))))) (some (.inr (.brk (s1.1, s1.2)))))

noncomputable def F_slices_Concat_Sint64_int64_L2 (p0 : (List (List Int))) (s20 : (List Int) × Int) : Option (((List Int) × Int) ⊕ Out ((List Int) × Int) (List Int)) :=
  (cond (decide (s20.2 < (p0.length : Int))) (bnd (idx p0 s20.2) fun y23 => bnd (app s20.1 y23) fun z27 => some (.inl (z27, (w64 (s20.2 + 1))))) (some (.inr (.brk (s20.1, s20.2)))))

noncomputable def F_slices_Concat_Sint64_int64_L3 (p0 : (List (List Int))) (s30 : (List Int) × Int) : Option (((List Int) × Int) ⊕ Out ((List Int) × Int) (List Int)) :=
  (cond (decide (s30.2 < (p0.length : Int))) (bnd (idx p0 s30.2) fun y33 => bnd (app s30.1 y33) fun z37 => some (.inl (z37, (w64 (s30.2 + 1))))) (some (.inr (.brk (s30.1, s30.2)))))

noncomputable def F_slices_Concat_Sint64_int64 (p0 : (List (List Int))) : Option ((List Int)) :=
  bnd (run (F_slices_Concat_Sint64_int64_L1 p0) (0, 0)) (Out.elim (fun (s1 : Int × Int) => bnd ((cond (decide (s1.1 < 0)) none (some (.brk ()))) : Option (Out (Unit) (Option ((List Int))))) (Out.elim (fun (s10 : Unit) => (cond (decide (0 < (w64 (s1.1 - (w64 (((0 : Nat) : Int) - ((0 : Nat) : Int))))))) (bnd (mke (w64 (s1.1 - (w64 (((0 : Nat) : Int) - ((0 : Nat) : Int))))) (0 : Int)) fun z14 => bnd (slc z14 0 ((0 : Nat) : Int)) fun z17 => bnd (run (F_slices_Concat_Sint64_int64_L2 p0) (z17, 0)) (Out.elim (fun (s20 : (List Int) × Int) => some s20.1) (fun (r : (List Int)) => some r))) (bnd (run (F_slices_Concat_Sint64_int64_L3 p0) (([] : (List Int)), 0)) (Out.elim (fun (s30 : (List Int) × Int) => some s30.1) (fun (r : (List Int)) => some r))))) (fun (r : Option ((List Int))) => r))) (fun (r : (List Int)) => some r))


noncomputable def F_impl_joined (p0 : (List (List Int))) : Option ((List Int)) :=
  bnd (F_slices_Concat_Sint64_int64 p0) fun r1 => some r1


noncomputable def F_impl_cellsOfRow (p0 : GConfig) (p1 : Int) (p2 : Int) : Option ((List Int) × Int) :=
  bnd (bnd (F_impl_size_int64 p0.Left) fun r4 => (cond (decide (p2 < r4)) (some (.ret (([] : (List Int)), 5))) (bnd (F_impl_size_int64 p0.Right) fun r7 => (cond (decide ((w64 (p1 - p2)) < r7)) (some (.ret (([] : (List Int)), 5))) (some (.brk ()))))) : Option (Out (Unit) ((List Int) × Int))) (Out.elim (fun (s2 : Unit) => bnd (F_impl_cellsFrom p0.Left 0 p2) fun r13 => bnd (F_impl_reversed r13) fun r16 => bnd (F_impl_cellsFrom p0.Right 0 (w64 (p1 - p2))) fun r19 => bnd (F_impl_joined ([r16, r19] : List (List Int))) fun r23 => some (r23, 0)) (fun (r : (List Int) × Int) => some r))

noncomputable def F_impl_TilingOfRun_L1 (r14 : (List GTile) × Int) (s23 : List (GTile × Int) × Int) : Option ((List (GTile × Int) × Int) ⊕ Out (List (GTile × Int) × Int) ((List (List Int)) × Int)) :=
  (cond (decide (s23.2 < (r14.1.length : Int))) (bnd (idx r14.1 s23.2) fun y26 => some (.inl ((mput s23.1 y26 s23.2), (w64 (s23.2 + 1))))) (some (.inr (.brk (s23.1, s23.2)))))

noncomputable def F_impl_TilingOfRun_L3 (p0 : GMachine) (s23 : List (GTile × Int) × Int) (s36 : Int × (List Int) × (List (List Int)) × Int × Int) (s39 : Int × Int × Int) (s73 : (List Int) × Int) : Option (((List Int) × Int) ⊕ Out ((List Int) × Int) ((List (List Int)) × Int)) :=
  (cond (decide (s73.2 < (s36.2.1.length : Int))) (bnd (idx s36.2.1 s73.2) fun y76 => bnd (F_impl_resting y76) fun r81 => (cond (decide (s73.2 = s36.1)) (bnd (F_impl_leaving p0 s36.2.2.2.1 y76 (⟨s39.1, s39.2.1, s39.2.2⟩ : GRule)) fun r85 => bnd (app s73.1 ([((mget s23.1 r85).getD 0)] : List Int)) fun z88 => some (.inl (z88, (w64 (s73.2 + 1))))) (cond (decide (s73.2 = (w64 (s36.1 + s39.2.1)))) (bnd (F_impl_coming p0 s39.2.1 s39.2.2 y76) fun r92 => bnd (app s73.1 ([((mget s23.1 r92).getD 0)] : List Int)) fun z95 => some (.inl (z95, (w64 (s73.2 + 1))))) (bnd (app s73.1 ([((mget s23.1 r81).getD 0)] : List Int)) fun z99 => some (.inl (z99, (w64 (s73.2 + 1)))))))) (some (.inr (.brk (s73.1, s73.2)))))

noncomputable def F_impl_TilingOfRun_L2 (p0 : GMachine) (p2 : Int) (p4 : Int) (s23 : List (GTile × Int) × Int) (s36 : Int × (List Int) × (List (List Int)) × Int × Int) : Option ((Int × (List Int) × (List (List Int)) × Int × Int) ⊕ Out (Int × (List Int) × (List (List Int)) × Int × Int) ((List (List Int)) × Int)) :=
  (cond (decide (s36.2.2.2.2 < p4)) (bnd (bnd (idx s36.2.1 s36.1) fun y41 => bnd (idx p0.Rules (w64 ((w64 (s36.2.2.2.1 * p0.Symbols)) + y41))) fun y49 => some (.brk (y49.Write, y49.Move, y49.Next)) : Option (Out (Int × Int × Int) ((List (List Int)) × Int))) (Out.elim (fun (s39 : Int × Int × Int) => bnd (bnd (F_impl_isRule (⟨s39.1, s39.2.1, s39.2.2⟩ : GRule)) fun r66 => (cond (!r66) (some (.ret (([] : (List (List Int))), 6))) (bnd (F_impl_within (w64 (s36.1 + s39.2.1)) 0 (w64 (p2 - 1))) fun r69 => (cond (!r69) (some (.ret (([] : (List (List Int))), 6))) (some (.brk ()))))) : Option (Out (Unit) ((List (List Int)) × Int))) (Out.elim (fun (s64 : Unit) => bnd (run (F_impl_TilingOfRun_L3 p0 s23 s36 s39) (([] : List Int), 0)) (Out.elim (fun (s73 : (List Int) × Int) => bnd (idx s36.2.1 s36.1) fun y102 => bnd (app s36.2.2.1 ([s73.1] : List (List Int))) fun z107 => some (.inl ((w64 (s36.1 + s39.2.1)), (s36.2.1.set s36.1.toNat s39.1), z107, s39.2.2, (w64 (s36.2.2.2.2 + 1))))) (fun (r : (List (List Int)) × Int) => some (.inr (.ret r))))) (fun (r : (List (List Int)) × Int) => some (.inr (.ret r))))) (fun (r : (List (List Int)) × Int) => some (.inr (.ret r))))) (some (.inr (.brk (s36.1, s36.2.1, s36.2.2.1, s36.2.2.2.1, s36.2.2.2.2)))))

noncomputable def F_impl_TilingOfRun (p0 : GMachine) (p1 : GConfig) (p2 : Int) (p3 : Int) (p4 : Int) : Option ((List (List Int)) × Int) :=
  bnd (F_impl_ValidConfig p0 p1) fun r3 => (cond (!r3) (some (([] : (List (List Int))), 1)) (bnd (bnd (F_impl_rowCode p2 p3) fun r8 => (cond (decide (r8 ≠ 0)) (some (.ret (([] : (List (List Int))), 2))) (bnd (F_impl_within p4 1 40) fun r11 => (cond (!r11) (some (.ret (([] : (List (List Int))), 2))) (some (.brk ()))))) : Option (Out (Unit) ((List (List Int)) × Int))) (Out.elim (fun (s6 : Unit) => bnd (F_impl_tilesOfMachine p0) fun r14 => (cond (decide (r14.2 ≠ 0)) (some (([] : (List (List Int))), r14.2)) (bnd (F_impl_cellsOfRow p1 p2 p3) fun r18 => (cond (decide (r18.2 ≠ 0)) (some (([] : (List (List Int))), r18.2)) (bnd (run (F_impl_TilingOfRun_L1 r14) (([] : List (GTile × Int)), 0)) (Out.elim (fun (s23 : List (GTile × Int) × Int) => bnd (run (F_impl_TilingOfRun_L2 p0 p2 p4 s23) (p3, r18.1, ([] : List (List Int)), p1.State, 0)) (Out.elim (fun (s36 : Int × (List Int) × (List (List Int)) × Int × Int) => some (s36.2.2.1, 0)) (fun (r : (List (List Int)) × Int) => some r))) (fun (r : (List (List Int)) × Int) => some r))))))) (fun (r : (List (List Int)) × Int) => some r))))

noncomputable def F_laws_eqInt64S_L1 (p0 : (List Int)) (p1 : (List Int)) (s2 : Int) : Option ((Int) ⊕ Out (Int) Bool) :=
  (cond (decide (s2 < (p0.length : Int))) (bnd (idx p0 s2) fun y5 => bnd (idx p1 s2) fun y9 => (cond (decide (y5 ≠ y9)) (some (.inr (.ret false))) (some (.inl (w64 (s2 + 1)))))) (some (.inr (.brk s2))))

noncomputable def F_laws_eqInt64S (p0 : (List Int)) (p1 : (List Int)) : Option (Bool) :=
  (cond (decide ((p0.length : Int) ≠ (p1.length : Int))) (some false) (bnd (run (F_laws_eqInt64S_L1 p0 p1) 0) (Out.elim (fun (s2 : Int) => some true) (fun (r : Bool) => some r))))

noncomputable def F_laws_eqInt64SS_L1 (p0 : (List (List Int))) (p1 : (List (List Int))) (s2 : Int) : Option ((Int) ⊕ Out (Int) Bool) :=
  (cond (decide (s2 < (p0.length : Int))) (bnd (idx p0 s2) fun y5 => bnd (idx p1 s2) fun y9 => bnd (F_laws_eqInt64S y5 y9) fun r16 => (cond (!r16) (some (.inr (.ret false))) (some (.inl (w64 (s2 + 1)))))) (some (.inr (.brk s2))))

noncomputable def F_laws_eqInt64SS (p0 : (List (List Int))) (p1 : (List (List Int))) : Option (Bool) :=
  (cond (decide ((p0.length : Int) ≠ (p1.length : Int))) (some false) (bnd (run (F_laws_eqInt64SS_L1 p0 p1) 0) (Out.elim (fun (s2 : Int) => some true) (fun (r : Bool) => some r))))


noncomputable def F_laws_eqRule (p0 : GRule) (p1 : GRule) : Option (Bool) :=
  (cond (decide (p0.Write ≠ p1.Write)) (some false) (cond (decide (p0.Move ≠ p1.Move)) (some false) (cond (decide (p0.Next ≠ p1.Next)) (some false) (some true))))

noncomputable def F_laws_eqRuleS_L1 (p0 : (List GRule)) (p1 : (List GRule)) (s2 : Int) : Option ((Int) ⊕ Out (Int) Bool) :=
  (cond (decide (s2 < (p0.length : Int))) (bnd (idx p0 s2) fun y5 => bnd (idx p1 s2) fun y9 => bnd (F_laws_eqRule y5 y9) fun r16 => (cond (!r16) (some (.inr (.ret false))) (some (.inl (w64 (s2 + 1)))))) (some (.inr (.brk s2))))

noncomputable def F_laws_eqRuleS (p0 : (List GRule)) (p1 : (List GRule)) : Option (Bool) :=
  (cond (decide ((p0.length : Int) ≠ (p1.length : Int))) (some false) (bnd (run (F_laws_eqRuleS_L1 p0 p1) 0) (Out.elim (fun (s2 : Int) => some true) (fun (r : Bool) => some r))))


noncomputable def F_laws_eqMachine (p0 : GMachine) (p1 : GMachine) : Option (Bool) :=
  (cond (decide (p0.Symbols ≠ p1.Symbols)) (some false) (cond (decide (p0.States ≠ p1.States)) (some false) (bnd (F_laws_eqRuleS p0.Rules p1.Rules) fun r5 => (cond (!r5) (some false) (some true)))))


noncomputable def F_laws_eqConfig (p0 : GConfig) (p1 : GConfig) : Option (Bool) :=
  (cond (decide (p0.State ≠ p1.State)) (some false) (bnd (F_laws_eqInt64S p0.Left p1.Left) fun r4 => (cond (!r4) (some false) (bnd (F_laws_eqInt64S p0.Right p1.Right) fun r7 => (cond (!r7) (some false) (some true))))))

noncomputable def F_laws_markRuleS_L1 (s1 : (List GRule) × Int × Int) : Option (((List GRule) × Int × Int) ⊕ Out ((List GRule) × Int × Int) (Int × (List GRule))) :=
  (cond (decide (s1.2.2 < (s1.1.length : Int))) (bnd (idx s1.1 s1.2.2) fun y4 => bnd (idx (s1.1.set s1.2.2.toNat (⟨s1.2.1, y4.Move, y4.Next⟩ : GRule)) s1.2.2) fun y9 => bnd (idx ((s1.1.set s1.2.2.toNat (⟨s1.2.1, y4.Move, y4.Next⟩ : GRule)).set s1.2.2.toNat (⟨y9.Write, (w64 (s1.2.1 + 1)), y9.Next⟩ : GRule)) s1.2.2) fun y11 => some (.inl ((((s1.1.set s1.2.2.toNat (⟨s1.2.1, y4.Move, y4.Next⟩ : GRule)).set s1.2.2.toNat (⟨y9.Write, (w64 (s1.2.1 + 1)), y9.Next⟩ : GRule)).set s1.2.2.toNat (⟨y11.Write, y11.Move, (w64 ((w64 (s1.2.1 + 1)) + 1))⟩ : GRule)), (w64 ((w64 ((w64 (s1.2.1 + 1)) + 1)) + 1)), (w64 (s1.2.2 + 1))))) (some (.inr (.brk (s1.1, s1.2.1, s1.2.2)))))

noncomputable def F_laws_markRuleS (p0 : (List GRule)) (p1 : Int) : Option (Int × (List GRule)) :=
  bnd (run (F_laws_markRuleS_L1) (p0, p1, 0)) (Out.elim (fun (s1 : (List GRule) × Int × Int) => some (s1.2.1, s1.1)) (fun (r : Int × (List GRule)) => some r))

noncomputable def F_laws_markInt64S_L1 (s1 : (List Int) × Int × Int) : Option (((List Int) × Int × Int) ⊕ Out ((List Int) × Int × Int) (Int × (List Int))) :=
  (cond (decide (s1.2.2 < (s1.1.length : Int))) (bnd (idx s1.1 s1.2.2) fun y4 => some (.inl ((s1.1.set s1.2.2.toNat s1.2.1), (w64 (s1.2.1 + 1)), (w64 (s1.2.2 + 1))))) (some (.inr (.brk (s1.1, s1.2.1, s1.2.2)))))

noncomputable def F_laws_markInt64S (p0 : (List Int)) (p1 : Int) : Option (Int × (List Int)) :=
  bnd (run (F_laws_markInt64S_L1) (p0, p1, 0)) (Out.elim (fun (s1 : (List Int) × Int × Int) => some (s1.2.1, s1.1)) (fun (r : Int × (List Int)) => some r))

noncomputable def F_laws_markInt64SS_L1 (s1 : (List (List Int)) × Int × Int) : Option (((List (List Int)) × Int × Int) ⊕ Out ((List (List Int)) × Int × Int) (Int × (List (List Int)))) :=
  (cond (decide (s1.2.2 < (s1.1.length : Int))) (bnd (idx s1.1 s1.2.2) fun y4 => bnd (F_laws_markInt64S y4 s1.2.1) fun r10 => some (.inl ((s1.1.set s1.2.2.toNat r10.2), r10.1, (w64 (s1.2.2 + 1))))) (some (.inr (.brk (s1.1, s1.2.1, s1.2.2)))))

noncomputable def F_laws_markInt64SS (p0 : (List (List Int))) (p1 : Int) : Option (Int × (List (List Int))) :=
  bnd (run (F_laws_markInt64SS_L1) (p0, p1, 0)) (Out.elim (fun (s1 : (List (List Int)) × Int × Int) => some (s1.2.1, s1.1)) (fun (r : Int × (List (List Int))) => some r))

noncomputable def F_laws_heldInt64S_L1 (p0 : (List Int)) (s1 : Int × Int) : Option ((Int × Int) ⊕ Out (Int × Int) Int) :=
  (cond (decide (s1.2 < (p0.length : Int))) (bnd (idx p0 s1.2) fun y4 => (cond (decide (y4 ≠ s1.1)) (some (.inr (.ret (-1)))) (some (.inl ((w64 (s1.1 + 1)), (w64 (s1.2 + 1))))))) (some (.inr (.brk (s1.1, s1.2)))))

noncomputable def F_laws_heldInt64S (p0 : (List Int)) (p1 : Int) : Option (Int) :=
  bnd (run (F_laws_heldInt64S_L1 p0) (p1, 0)) (Out.elim (fun (s1 : Int × Int) => some s1.1) (fun (r : Int) => some r))

noncomputable def F_laws_heldInt64SS_L1 (p0 : (List (List Int))) (s1 : Int × Int) : Option ((Int × Int) ⊕ Out (Int × Int) Int) :=
  (cond (decide (s1.2 < (p0.length : Int))) (bnd (idx p0 s1.2) fun y4 => bnd (F_laws_heldInt64S y4 s1.1) fun r8 => (cond (decide (r8 < 0)) (some (.inr (.ret (-1)))) (some (.inl (r8, (w64 (s1.2 + 1))))))) (some (.inr (.brk (s1.1, s1.2)))))

noncomputable def F_laws_heldInt64SS (p0 : (List (List Int))) (p1 : Int) : Option (Int) :=
  bnd (run (F_laws_heldInt64SS_L1 p0) (p1, 0)) (Out.elim (fun (s1 : Int × Int) => some s1.1) (fun (r : Int) => some r))


noncomputable def F_laws_FnExactTilingOfRun (p0 : GMachine) (p1 : GConfig) (p2 : Int) (p3 : Int) (p4 : Int) : Option (Bool) :=
  bnd (F_laws_szMachine p0 1048576) fun r3 => (cond (decide (r3 < 0)) (some true) (bnd (F_laws_szConfig p1 r3) fun r6 => (cond (decide (r6 < 0)) (some true) (bnd (F_laws_toMachine p0) fun r12 => bnd (F_laws_toConfig p1) fun r15 => bnd (F_spec_TilingOfRun r12 r15 p2 p3 p4) fun r18 => bnd (F_laws_toMachine p0) fun r21 => bnd (F_laws_toConfig p1) fun r25 => bnd (F_impl_TilingOfRun r21 r25 p2 p3 p4) fun r29 => bnd (bnd (F_laws_eqInt64SS r29.1 r18.1) fun r34 => (cond (!r34) (some (.ret false)) (cond (decide (r29.2 ≠ r18.2)) (some (.ret false)) (some (.brk ())))) : Option (Out (Unit) Bool)) (Out.elim (fun (s32 : Unit) => bnd (F_laws_toMachine p0) fun r41 => bnd (F_laws_eqMachine r21 r41) fun r44 => (cond (!r44) (some false) (bnd (F_laws_toConfig p1) fun r50 => bnd (F_laws_eqConfig r25 r50) fun r53 => (cond (!r53) (some false) (bnd (F_laws_markRuleS r21.Rules 1) fun r58 => bnd (F_laws_markInt64S r25.Left r58.1) fun r62 => bnd (F_laws_markInt64S r25.Right r62.1) fun r64 => bnd ((cond (decide (r64.1 < 0)) (some (.ret false)) (bnd (F_laws_eqInt64SS r29.1 r18.1) fun r69 => (cond (!r69) (some (.ret false)) (cond (decide (r29.2 ≠ r18.2)) (some (.ret false)) (some (.brk ())))))) : Option (Out (Unit) Bool)) (Out.elim (fun (s66 : Unit) => bnd (F_laws_markInt64SS r29.1 1) fun r73 => bnd (F_laws_heldInt64SS r73.2 1) fun r75 => (cond (decide (r75 < 0)) (some false) (cond (decide (r75 ≠ r73.1)) (some false) (bnd (F_laws_toMachine p0) fun r82 => bnd (F_laws_toConfig p1) fun r85 => bnd (F_impl_TilingOfRun r82 r85 p2 p3 p4) fun r88 => bnd (F_laws_eqInt64SS r88.1 r18.1) fun r91 => (cond (!r91) (some false) (cond (decide (r88.2 ≠ r18.2)) (some false) (bnd (F_laws_heldInt64SS r73.2 1) fun r95 => (cond (decide (r95 < 0)) (some false) (cond (decide (r95 ≠ r73.1)) (some false) (some true)))))))))) (fun (r : Bool) => some r))))))) (fun (r : Bool) => some r))))))

end Go.Fn
