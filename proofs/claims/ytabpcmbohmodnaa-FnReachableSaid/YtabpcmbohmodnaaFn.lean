/-
  What each function of the program computes, as a plain Lean function: printed by program off the translation. No condition.
-/
import Derived.Test.YtabpcmbohmodnaaTy
namespace Go.Fn
open Go Go.Tc
set_option linter.unusedVariables false

noncomputable def F_laws_r8Long (p0 : (List (Ik .u8))) (p1 : (List (Ik .u8))) : Option (Bool) :=
  (cond (decide (1048576 < (p0.length : Int))) (some true) (some (decide (1048576 < (p1.length : Int)))))


noncomputable def F_spec_l00From (p0 : (List (Ik .u8))) : Option (((List (Ik .u8)) × Int × (Ik .u64))) :=
  some (p0, 0, (⟨0⟩ : Ik .u64))


noncomputable def F_spec_l00Src_next (p0 : Gl00Src) : Option ((Int) × (Int × (Ik .u64))) :=
  bnd ((cond (decide (p0.at_ < (p0.code.length : Int))) (bnd (idx p0.code p0.at_) fun y4 => some (.brk (w64 y4.val))) (some (.brk 0))) : Option (Out (Int) ((Int) × (Int × (Ik .u64))))) (Out.elim (fun (s1 : Int) => (cond (decide ((w64 (p0.at_ + 1)) ≤ (p0.code.length : Int))) (some (s1, ((w64 (p0.at_ + 1)), (⟨(wk .u64 ((wk .u64 ((wk .u64 (p0.seed.val * 6364136223846793005)) + (wk .u64 s1))) + 1442695040888963407))⟩ : Ik .u64)))) (some ((w64 (kand .u64 (Int.fdiv (wk .u64 ((wk .u64 ((wk .u64 (p0.seed.val * 6364136223846793005)) + (wk .u64 s1))) + 1442695040888963407)) (2 ^ min (40 : Int).toNat (IntKind.bits .u64))) 255)), ((w64 (p0.at_ + 1)), (⟨(wk .u64 ((wk .u64 ((wk .u64 (p0.seed.val * 6364136223846793005)) + (wk .u64 s1))) + 1442695040888963407))⟩ : Ik .u64)))))) (fun (r : (Int) × (Int × (Ik .u64))) => some r))


noncomputable def F_spec_l00Src_pick (p0 : Gl00Src) (p1 : Int) : Option ((Int) × (Int × (Ik .u64))) :=
  (cond (decide (p1 ≤ 1)) (some (0, (p0.at_, p0.seed))) (bnd (F_spec_l00Src_next p0) fun r2 => (cond (decide (200 < p1)) (bnd (F_spec_l00Src_next (⟨p0.code, r2.2.1, r2.2.2⟩ : Gl00Src)) fun r5 => bnd (nz p1) fun u7 => some ((Int.tmod (w64 ((w64 (r2.1 * 256)) + r5.1)) p1), (r5.2.1, r5.2.2))) (bnd (nz p1) fun u9 => some ((Int.tmod r2.1 p1), (r2.2.1, r2.2.2))))))


noncomputable def F_spec_l00Src_one (p0 : Gl00Src) (p1 : Int) : Option ((Bool) × (Int × (Ik .u64))) :=
  bnd (F_spec_l00Src_pick p0 p1) fun r1 => some ((decide (r1.1 = 0)), (r1.2.1, r1.2.2))


noncomputable def F_spec_l00Src_text (p0 : Gl00Src) (p1 : (List ByteArray)) : Option ((ByteArray) × (Int × (Ik .u64))) :=
  bnd (F_spec_l00Src_pick p0 (p1.length : Int)) fun r1 => bnd (idx p1 r1.1) fun y3 => some (y3, (r1.2.1, r1.2.2))

noncomputable def F_spec_l01Split_L1 (p0 : ByteArray) (p1 : (Ik .u8)) (s2 : (List ByteArray) × Int × Int) : Option (((List ByteArray) × Int × Int) ⊕ Out ((List ByteArray) × Int × Int) (List ByteArray)) :=
  (cond (decide (s2.2.2 < (p0.size : Int))) (bnd (bidx p0 s2.2.2) fun y5 => (cond (decide (y5 = p1.val)) (bnd (bslc p0 s2.2.1 s2.2.2) fun z8 => bnd (app s2.1 ([z8] : List ByteArray)) fun z11 => some (.inl (z11, (w64 (s2.2.2 + 1)), (w64 (s2.2.2 + 1))))) (some (.inl (s2.1, s2.2.1, (w64 (s2.2.2 + 1))))))) (some (.inr (.brk (s2.1, s2.2.1, s2.2.2)))))

noncomputable def F_spec_l01Split (p0 : ByteArray) (p1 : (Ik .u8)) : Option ((List ByteArray)) :=
  bnd (run (F_spec_l01Split_L1 p0 p1) (([] : List ByteArray), 0, 0)) (Out.elim (fun (s2 : (List ByteArray) × Int × Int) => bnd (bslc p0 s2.2.1 (p0.size : Int)) fun z14 => bnd (app s2.1 ([z14] : List ByteArray)) fun z17 => some z17) (fun (r : (List ByteArray)) => some r))


noncomputable def F_spec_l05None : Option (GRule) :=
  some (⟨0, 0, (-1)⟩ : GRule)


noncomputable def F_spec_l01Digit (p0 : (Ik .u8)) : Option (Bool) :=
  (cond (decide (48 ≤ p0.val)) (some (decide (p0.val ≤ 57))) (some false))

noncomputable def F_spec_l01Number_L1 (p0 : ByteArray) (s15 : Int × Int) : Option ((Int × Int) ⊕ Out (Int × Int) (Int × Bool)) :=
  (cond (decide (s15.2 < (p0.size : Int))) (bnd (bidx p0 s15.2) fun y18 => bnd (F_spec_l01Digit (⟨y18⟩ : Ik .u8)) fun r20 => (cond (!r20) (some (.inr (.ret (0, false)))) (bnd (bidx p0 s15.2) fun y23 => some (.inl ((w64 ((w64 (10 * s15.1)) + (w64 (wk .u8 (y23 - 48))))), (w64 (s15.2 + 1))))))) (some (.inr (.brk (s15.1, s15.2)))))

noncomputable def F_spec_l01Number (p0 : ByteArray) : Option (Int × Bool) :=
  bnd ((cond (decide (0 < (p0.size : Int))) (bnd (bidx p0 0) fun y4 => (cond (decide (y4 = 45)) (some (.brk 1)) (some (.brk 0)))) (some (.brk 0))) : Option (Out (Int) (Int × Bool))) (Out.elim (fun (s1 : Int) => bnd ((cond (decide ((p0.size : Int) = s1)) (some (.ret (0, false))) (cond (decide (18 < (w64 ((p0.size : Int) - s1)))) (some (.ret (0, false))) (bnd (bidx p0 s1) fun y11 => (cond (decide (y11 = 48)) (cond (decide (1 < (p0.size : Int))) (some (.ret (0, false))) (some (.brk ()))) (some (.brk ())))))) : Option (Out (Unit) (Int × Bool))) (Out.elim (fun (s7 : Unit) => bnd (run (F_spec_l01Number_L1 p0) (0, s1)) (Out.elim (fun (s15 : Int × Int) => (cond (decide (s1 = 1)) (some ((w64 (0 - s15.1)), true)) (some (s15.1, true)))) (fun (r : Int × Bool) => some r))) (fun (r : Int × Bool) => some r))) (fun (r : Int × Bool) => some r))


noncomputable def F_spec_l05ReadRule (p0 : ByteArray) : Option (GRule × Bool) :=
  (cond (p0.toList == (⟨#[45, 45, 45]⟩ : ByteArray).toList) (bnd F_spec_l05None fun r3 => some (r3, true)) (bnd ((cond (decide ((p0.size : Int) < 3)) (some (.ret ((⟨0, 0, 0⟩ : GRule), false))) (bnd (bidx p0 0) fun y8 => bnd (F_spec_l01Digit (⟨y8⟩ : Ik .u8)) fun r10 => (cond (!r10) (some (.ret ((⟨0, 0, 0⟩ : GRule), false))) (bnd (bidx p0 1) fun y13 => (cond (decide (y13 ≠ 76)) (bnd (bidx p0 1) fun y16 => (cond (decide (y16 ≠ 82)) (some (.ret ((⟨0, 0, 0⟩ : GRule), false))) (some (.brk ())))) (some (.brk ()))))))) : Option (Out (Unit) (GRule × Bool))) (Out.elim (fun (s5 : Unit) => bnd (bslc p0 2 (p0.size : Int)) fun z19 => bnd (F_spec_l01Number z19) fun r21 => bnd (bidx p0 0) fun y23 => bnd (bidx p0 1) fun y26 => (cond (decide (y26 = 76)) (cond r21.2 (some ((⟨(w64 (wk .u8 (y23 - 48))), (-1), r21.1⟩ : GRule), (decide (0 ≤ r21.1)))) (some ((⟨(w64 (wk .u8 (y23 - 48))), (-1), r21.1⟩ : GRule), false))) (cond r21.2 (some ((⟨(w64 (wk .u8 (y23 - 48))), 1, r21.1⟩ : GRule), (decide (0 ≤ r21.1)))) (some ((⟨(w64 (wk .u8 (y23 - 48))), 1, r21.1⟩ : GRule), false))))) (fun (r : GRule × Bool) => some r))))


noncomputable def F_spec_l00In (p0 : Int) (p1 : Int) (p2 : Int) : Option (Bool) :=
  (cond (decide (p1 ≤ p0)) (some (decide (p0 ≤ p2))) (some false))


noncomputable def F_spec_l05Rule (p0 : GRule) (p1 : Int) (p2 : Int) : Option (Bool) :=
  bnd F_spec_l05None fun r5 => (cond (decide (p0 = r5)) (some true) (bnd (F_spec_l00In p0.Write 0 (w64 (p1 - 1))) fun r8 => (cond r8 (cond (decide (p0.Move = 1)) (bnd (F_spec_l00In p0.Next 0 (w64 (p2 - 1))) fun r12 => some r12) (cond (decide (p0.Move = (-1))) (bnd (F_spec_l00In p0.Next 0 (w64 (p2 - 1))) fun r15 => some r15) (some false))) (some false))))

noncomputable def F_spec_l05Is_L1 (p0 : GMachine) (s31 : Int) : Option ((Int) ⊕ Out (Int) Bool) :=
  (cond (decide (s31 < (p0.Rules.length : Int))) (bnd (idx p0.Rules s31) fun y38 => bnd (F_spec_l05Rule y38 p0.Symbols p0.States) fun r49 => (cond (!r49) (some (.inr (.ret false))) (some (.inl (w64 (s31 + 1)))))) (some (.inr (.brk s31))))

noncomputable def F_spec_l05Is (p0 : GMachine) : Option (Bool) :=
  bnd (bnd (F_spec_l00In p0.Symbols 2 6) fun r8 => (cond (!r8) (some (.ret false)) (bnd (F_spec_l00In p0.States 1 1000) fun r15 => (cond (!r15) (some (.ret false)) (cond (decide ((p0.Rules.length : Int) ≠ (w64 (p0.Symbols * p0.States)))) (some (.ret false)) (some (.brk ())))))) : Option (Out (Unit) Bool)) (Out.elim (fun (s1 : Unit) => bnd (run (F_spec_l05Is_L1 p0) 0) (Out.elim (fun (s31 : Int) => some true) (fun (r : Bool) => some r))) (fun (r : Bool) => some r))

noncomputable def F_spec_l05Read_L2 (r21 : (List ByteArray)) (s28 : (List GRule) × Int) : Option (((List GRule) × Int) ⊕ Out ((List GRule) × Int) (GMachine × Bool)) :=
  (cond (decide (s28.2 < (r21.length : Int))) (bnd (idx r21 s28.2) fun y31 => bnd (F_spec_l05ReadRule y31) fun r36 => (cond (!r36.2) (some (.inr (.ret ((⟨0, 0, ([] : (List GRule))⟩ : GMachine), false)))) (bnd (app s28.1 ([r36.1] : List GRule)) fun z41 => some (.inl (z41, (w64 (s28.2 + 1))))))) (some (.inr (.brk (s28.1, s28.2)))))

noncomputable def F_spec_l05Read_L1 (r2 : (List ByteArray)) (r11 : (List ByteArray)) (s15 : (List GRule) × Int) : Option (((List GRule) × Int) ⊕ Out ((List GRule) × Int) (GMachine × Bool)) :=
  (cond (decide (s15.2 < (r2.length : Int))) (bnd (idx r2 s15.2) fun y18 => bnd (F_spec_l01Split y18 (⟨44⟩ : Ik .u8)) fun r21 => bnd ((cond (decide ((r21.length : Int) ≠ (r11.length : Int))) (some (.ret ((⟨0, 0, ([] : (List GRule))⟩ : GMachine), false))) (cond (decide (6 < (r11.length : Int))) (some (.ret ((⟨0, 0, ([] : (List GRule))⟩ : GMachine), false))) (some (.brk ())))) : Option (Out (Unit) (GMachine × Bool))) (Out.elim (fun (s24 : Unit) => bnd (run (F_spec_l05Read_L2 r21) (s15.1, 0)) (Out.elim (fun (s28 : (List GRule) × Int) => some (.inl (s28.1, (w64 (s15.2 + 1))))) (fun (r : GMachine × Bool) => some (.inr (.ret r))))) (fun (r : GMachine × Bool) => some (.inr (.ret r))))) (some (.inr (.brk (s15.1, s15.2)))))

noncomputable def F_spec_l05Read (p0 : ByteArray) : Option (GMachine × Bool) :=
  bnd (F_spec_l01Split p0 (⟨59⟩ : Ik .u8)) fun r2 => (cond (decide (1000 < (r2.length : Int))) (some ((⟨0, 0, ([] : (List GRule))⟩ : GMachine), false)) (bnd (idx r2 0) fun y6 => bnd (F_spec_l01Split y6 (⟨44⟩ : Ik .u8)) fun r11 => bnd (run (F_spec_l05Read_L1 r2 r11) (([] : (List GRule)), 0)) (Out.elim (fun (s15 : (List GRule) × Int) => bnd (F_spec_l05Is (⟨(r11.length : Int), (r2.length : Int), s15.1⟩ : GMachine)) fun r44 => (cond (!r44) (some ((⟨0, 0, ([] : (List GRule))⟩ : GMachine), false)) (some ((⟨(r11.length : Int), (r2.length : Int), s15.1⟩ : GMachine), true)))) (fun (r : GMachine × Bool) => some r))))


noncomputable def F_spec_l05Known (p0 : Gl00Src) : Option ((GMachine) × (Int × (Ik .u64))) :=
  bnd (F_spec_l00Src_text p0 ([(⟨#[49, 82, 49, 44, 49, 76, 49, 59, 49, 76, 48, 44, 45, 45, 45]⟩ : ByteArray), (⟨#[49, 82, 49, 44, 45, 45, 45, 59, 49, 76, 49, 44, 48, 82, 50, 59, 49, 76, 50, 44, 49, 76, 48]⟩ : ByteArray), (⟨#[49, 82, 49, 44, 49, 76, 49, 59, 49, 76, 48, 44, 48, 76, 50, 59, 45, 45, 45, 44, 49, 76, 51, 59, 49, 82, 51, 44, 48, 82, 48]⟩ : ByteArray), (⟨#[49, 82, 48, 44, 45, 45, 45]⟩ : ByteArray), (⟨#[49, 82, 49, 44, 48, 82, 48, 59, 49, 76, 48, 44, 49, 82, 49]⟩ : ByteArray), (⟨#[49, 82, 49, 44, 50, 76, 49, 44, 45, 45, 45, 59, 50, 76, 48, 44, 50, 82, 49, 44, 49, 76, 49]⟩ : ByteArray), (⟨#[49, 76, 48, 44, 49, 82, 49, 59, 49, 82, 48, 44, 48, 76, 49]⟩ : ByteArray), (⟨#[49, 82, 49, 44, 49, 82, 48, 59, 49, 76, 48, 44, 49, 76, 49]⟩ : ByteArray)] : List ByteArray)) fun r3 => bnd (F_spec_l05Read r3.1) fun r5 => some (r5.1, (r3.2.1, r3.2.2))

noncomputable def F_spec_l05DrawSize_L1 (p0 : Gl00Src) (p1 : Int) (p2 : Int) (s3 : Int × (Ik .u64) × (List GRule) × Int) : Option ((Int × (Ik .u64) × (List GRule) × Int) ⊕ Out (Int × (Ik .u64) × (List GRule) × Int) ((GMachine) × (Int × (Ik .u64)))) :=
  (cond (decide (0 < s3.2.2.2)) (bnd (F_spec_l00Src_pick (⟨p0.code, s3.1, s3.2.1⟩ : Gl00Src) p1) fun r6 => bnd (F_spec_l00Src_pick (⟨p0.code, r6.2.1, r6.2.2⟩ : Gl00Src) 2) fun r8 => bnd (F_spec_l00Src_pick (⟨p0.code, r8.2.1, r8.2.2⟩ : Gl00Src) p2) fun r10 => bnd (F_spec_l00Src_one (⟨p0.code, r10.2.1, r10.2.2⟩ : Gl00Src) 7) fun r13 => (cond r13.1 (bnd F_spec_l05None fun r16 => bnd (app s3.2.2.1 ([r16] : List GRule)) fun z19 => some (.inl (r13.2.1, r13.2.2, z19, (w64 (s3.2.2.2 - 1))))) (bnd (app s3.2.2.1 ([(⟨r6.1, (w64 ((w64 (2 * r8.1)) - 1)), r10.1⟩ : GRule)] : List GRule)) fun z23 => some (.inl (r13.2.1, r13.2.2, z23, (w64 (s3.2.2.2 - 1))))))) (some (.inr (.brk (s3.1, s3.2.1, s3.2.2.1, s3.2.2.2)))))

noncomputable def F_spec_l05DrawSize (p0 : Gl00Src) (p1 : Int) (p2 : Int) : Option ((GMachine) × (Int × (Ik .u64))) :=
  bnd (run (F_spec_l05DrawSize_L1 p0 p1 p2) (p0.at_, p0.seed, ([] : (List GRule)), (w64 (p1 * p2)))) (Out.elim (fun (s3 : Int × (Ik .u64) × (List GRule) × Int) => some ((⟨p1, p2, s3.2.2.1⟩ : GMachine), (s3.1, s3.2.1))) (fun (r : (GMachine) × (Int × (Ik .u64))) => some r))


noncomputable def F_spec_l05DrawOk (p0 : Gl00Src) : Option ((GMachine) × (Int × (Ik .u64))) :=
  bnd (F_spec_l00Src_one p0 4) fun r2 => (cond r2.1 (bnd (F_spec_l05Known (⟨p0.code, r2.2.1, r2.2.2⟩ : Gl00Src)) fun r5 => some (r5.1, (r5.2.1, r5.2.2))) (bnd (F_spec_l00Src_one (⟨p0.code, r2.2.1, r2.2.2⟩ : Gl00Src) 4) fun r8 => (cond r8.1 (bnd (F_spec_l00Src_pick (⟨p0.code, r8.2.1, r8.2.2⟩ : Gl00Src) 3) fun r11 => bnd (F_spec_l00Src_pick (⟨p0.code, r11.2.1, r11.2.2⟩ : Gl00Src) 4) fun r13 => bnd (F_spec_l05DrawSize (⟨p0.code, r13.2.1, r13.2.2⟩ : Gl00Src) (w64 (2 + r11.1)) (w64 (1 + r13.1))) fun r15 => some (r15.1, (r15.2.1, r15.2.2))) (bnd (F_spec_l00Src_pick (⟨p0.code, r8.2.1, r8.2.2⟩ : Gl00Src) 4) fun r18 => bnd (F_spec_l05DrawSize (⟨p0.code, r18.2.1, r18.2.2⟩ : Gl00Src) 2 (w64 (1 + r18.1))) fun r20 => some (r20.1, (r20.2.1, r20.2.2))))))


noncomputable def F_spec_l00Own (p0 : (List Int)) : Option ((List Int)) :=
  bnd (app ([] : List Int) p0) fun z2 => some z2

noncomputable def F_spec_l05Trim_L1 (p0 : (List Int)) (s1 : Int) : Option ((Int) ⊕ Out (Int) (List Int)) :=
  (cond (decide (0 < s1)) (bnd (idx p0 (w64 (s1 - 1))) fun y4 => (cond (decide (y4 = 0)) (some (.inl (w64 (s1 - 1)))) (some (.inr (.brk s1))))) (some (.inr (.brk s1))))

noncomputable def F_spec_l05Trim (p0 : (List Int)) : Option ((List Int)) :=
  bnd (run (F_spec_l05Trim_L1 p0) (p0.length : Int)) (Out.elim (fun (s1 : Int) => bnd (slc p0 0 s1) fun z9 => bnd (F_spec_l00Own z9) fun r12 => some r12) (fun (r : (List Int)) => some r))

noncomputable def F_spec_l05DrawCells_L1 (p0 : Gl00Src) (p1 : GMachine) (s4 : Int × (Ik .u64) × (List Int) × Int) : Option ((Int × (Ik .u64) × (List Int) × Int) ⊕ Out (Int × (Ik .u64) × (List Int) × Int) (((List Int)) × (Int × (Ik .u64)))) :=
  (cond (decide (0 < s4.2.2.2)) (bnd (F_spec_l00Src_pick (⟨p0.code, s4.1, s4.2.1⟩ : Gl00Src) p1.Symbols) fun r7 => bnd (app s4.2.2.1 ([r7.1] : List Int)) fun z10 => some (.inl (r7.2.1, r7.2.2, z10, (w64 (s4.2.2.2 - 1))))) (some (.inr (.brk (s4.1, s4.2.1, s4.2.2.1, s4.2.2.2)))))

noncomputable def F_spec_l05DrawCells_L2 (p0 : Gl00Src) (s18 : Int × (Ik .u64) × (List Int) × Int) : Option ((Int × (Ik .u64) × (List Int) × Int) ⊕ Out (Int × (Ik .u64) × (List Int) × Int) (((List Int)) × (Int × (Ik .u64)))) :=
  (cond (decide (0 < s18.2.2.2)) (bnd (F_spec_l00Src_pick (⟨p0.code, s18.1, s18.2.1⟩ : Gl00Src) 2) fun r21 => bnd (app s18.2.2.1 ([r21.1] : List Int)) fun z24 => some (.inl (r21.2.1, r21.2.2, z24, (w64 (s18.2.2.2 - 1))))) (some (.inr (.brk (s18.1, s18.2.1, s18.2.2.1, s18.2.2.2)))))

noncomputable def F_spec_l05DrawCells (p0 : Gl00Src) (p1 : GMachine) : Option (((List Int)) × (Int × (Ik .u64))) :=
  bnd (F_spec_l00Src_pick p0 5) fun r2 => bnd (run (F_spec_l05DrawCells_L1 p0 p1) (r2.2.1, r2.2.2, ([] : List Int), r2.1)) (Out.elim (fun (s4 : Int × (Ik .u64) × (List Int) × Int) => bnd (F_spec_l00Src_one (⟨p0.code, s4.1, s4.2.1⟩ : Gl00Src) 40) fun r13 => (cond r13.1 (bnd (F_spec_l00Src_pick (⟨p0.code, r13.2.1, r13.2.2⟩ : Gl00Src) 2) fun r16 => bnd (run (F_spec_l05DrawCells_L2 p0) (r16.2.1, r16.2.2, s4.2.2.1, (w64 (199 + r16.1)))) (Out.elim (fun (s18 : Int × (Ik .u64) × (List Int) × Int) => bnd (slc s18.2.2.1 0 199) fun z27 => bnd (app z27 ([1] : List Int)) fun z31 => bnd (F_spec_l05Trim z31) fun r34 => some (r34, (s18.1, s18.2.1))) (fun (r : ((List Int)) × (Int × (Ik .u64))) => some r))) (bnd (F_spec_l05Trim s4.2.2.1) fun r37 => some (r37, (r13.2.1, r13.2.2))))) (fun (r : ((List Int)) × (Int × (Ik .u64))) => some r))


noncomputable def F_spec_l25Blank : Option (GConfig) :=
  some (⟨0, ([] : List Int), ([] : List Int)⟩ : GConfig)


noncomputable def F_spec_R8Machine (p0 : (List (Ik .u8))) : Option (GMachine × GConfig) :=
  bnd (F_spec_l00From p0) fun r3 => bnd (F_spec_l05DrawOk (⟨r3.1, r3.2.1, r3.2.2⟩ : Gl00Src)) fun r6 => bnd (F_spec_l00Src_pick (⟨r3.1, r6.2.1, r6.2.2⟩ : Gl00Src) r6.1.States) fun r10 => bnd (F_spec_l05DrawCells (⟨r3.1, r10.2.1, r10.2.2⟩ : Gl00Src) r6.1) fun r12 => bnd (F_spec_l05DrawCells (⟨r3.1, r12.2.1, r12.2.2⟩ : Gl00Src) r6.1) fun r15 => bnd (F_spec_l00Src_one (⟨r3.1, r15.2.1, r15.2.2⟩ : Gl00Src) 3) fun r19 => (cond r19.1 (bnd F_spec_l25Blank fun r22 => some (r6.1, r22)) (some (r6.1, (⟨r10.1, r12.1, r15.1⟩ : GConfig))))


noncomputable def F_impl_within (p0 : Int) (p1 : Int) (p2 : Int) : Option (Bool) :=
  (cond (decide (p1 ≤ p0)) (some (decide (p0 ≤ p2))) (some false))


noncomputable def F_impl_size_impl_Rule (p0 : (List GRule)) : Option (Int) :=
  some (p0.length : Int)


noncomputable def F_impl_noRule : Option (GRule) :=
  some (⟨0, 0, (-1)⟩ : GRule)


noncomputable def F_impl_isRule (p0 : GRule) : Option (Bool) :=
  bnd F_impl_noRule fun r5 => some (!(decide (p0 = r5)))


noncomputable def F_impl_validRule (p0 : GMachine) (p1 : GRule) : Option (Bool) :=
  bnd (F_impl_isRule p1) fun r3 => (cond (!r3) (some true) (bnd (F_impl_within p1.Write 0 (w64 (p0.Symbols - 1))) fun r6 => (cond r6 (cond (decide (p1.Move = (-1))) (bnd (F_impl_within p1.Next 0 (w64 (p0.States - 1))) fun r10 => some r10) (cond (decide (p1.Move = 1)) (bnd (F_impl_within p1.Next 0 (w64 (p0.States - 1))) fun r13 => some r13) (some false))) (some false))))


noncomputable def F_impl_ValidMachine_1 (p0 : GRule) (p1 : GMachine) : Option (Bool) :=
  bnd (F_impl_validRule p1 p0) fun r3 => some (!r3)

noncomputable def F_slices_IndexFunc_Simpl_Rule_impl_Rule_L1 (p0 : (List GRule)) (p1 : (GRule → Option Bool)) (s1 : Int) : Option ((Int) ⊕ Out (Int) Int) :=
  (cond (decide (s1 < (p0.length : Int))) (bnd (idx p0 s1) fun y4 => bnd (p1 y4) fun r8 => (cond r8 (some (.inr (.ret s1))) (some (.inl (w64 (s1 + 1)))))) (some (.inr (.brk s1))))

noncomputable def F_slices_IndexFunc_Simpl_Rule_impl_Rule (p0 : (List GRule)) (p1 : (GRule → Option Bool)) : Option (Int) :=
  bnd (run (F_slices_IndexFunc_Simpl_Rule_impl_Rule_L1 p0 p1) 0) (Out.elim (fun (s1 : Int) => some (-1)) (fun (r : Int) => some r))


noncomputable def F_slices_ContainsFunc_Simpl_Rule_impl_Rule (p0 : (List GRule)) (p1 : (GRule → Option Bool)) : Option (Bool) :=
  bnd (F_slices_IndexFunc_Simpl_Rule_impl_Rule p0 p1) fun r1 => some (decide (0 ≤ r1))


noncomputable def F_impl_ValidMachine (p0 : GMachine) : Option (Bool) :=
  bnd (F_impl_within p0.Symbols 2 6) fun r5 => (cond (!r5) (some false) (bnd (F_impl_within p0.States 1 1000) fun r8 => (cond (!r8) (some false) (bnd (F_impl_size_impl_Rule p0.Rules) fun r11 => (cond (decide (r11 ≠ (w64 (p0.States * p0.Symbols)))) (some false) (bnd (F_slices_ContainsFunc_Simpl_Rule_impl_Rule p0.Rules (fun x_ => F_impl_ValidMachine_1 x_ p0)) fun r14 => some (!r14)))))))


noncomputable def F_impl_PruneMachine_1 (p0 : Int) (p1 : GMachine) : Option ((List GRule)) :=
  bnd (slc p1.Rules (w64 (p0 * p1.Symbols)) (w64 ((w64 (p0 + 1)) * p1.Symbols))) fun z7 => some z7


noncomputable def F_impl_size_int64 (p0 : (List Int)) : Option (Int) :=
  some (p0.length : Int)


noncomputable def F_cmp_isNaN_int64 (p0 : Int) : Option (Bool) :=
  some (decide (p0 ≠ p0))


noncomputable def F_cmp_Less_int64 (p0 : Int) (p1 : Int) : Option (Bool) :=
  bnd (F_cmp_isNaN_int64 p0) fun r1 => (cond r1 (bnd (F_cmp_isNaN_int64 p1) fun r4 => (cond (!r4) (some true) (some (decide (p0 < p1))))) (some (decide (p0 < p1))))


noncomputable def F_slices_isNaN_int64 (p0 : Int) : Option (Bool) :=
  some (decide (p0 ≠ p0))

noncomputable def F_slices_BinarySearch_Sint64_int64_L1 (p0 : (List Int)) (p1 : Int) (s1 : Int × Int) : Option ((Int × Int) ⊕ Out (Int × Int) (Int × Bool)) :=
  (cond (decide (s1.1 < s1.2)) (bnd (idx p0 (w64 (Int.fdiv (wk .u64 (w64 (s1.1 + s1.2))) (2 ^ min (1 : Int).toNat (IntKind.bits .u64))))) fun y4 => bnd (F_cmp_Less_int64 y4 p1) fun r8 => (cond r8 (some (.inl ((w64 ((w64 (Int.fdiv (wk .u64 (w64 (s1.1 + s1.2))) (2 ^ min (1 : Int).toNat (IntKind.bits .u64)))) + 1)), s1.2))) (some (.inl (s1.1, (w64 (Int.fdiv (wk .u64 (w64 (s1.1 + s1.2))) (2 ^ min (1 : Int).toNat (IntKind.bits .u64))))))))) (some (.inr (.brk (s1.1, s1.2)))))

noncomputable def F_slices_BinarySearch_Sint64_int64 (p0 : (List Int)) (p1 : Int) : Option (Int × Bool) :=
  bnd (run (F_slices_BinarySearch_Sint64_int64_L1 p0 p1) (0, (p0.length : Int))) (Out.elim (fun (s1 : Int × Int) => (cond (decide (s1.1 < (p0.length : Int))) (bnd (idx p0 s1.1) fun y12 => (cond (decide (y12 = p1)) (some (s1.1, true)) (bnd (idx p0 s1.1) fun y17 => bnd (F_slices_isNaN_int64 y17) fun r21 => (cond r21 (bnd (F_slices_isNaN_int64 p1) fun r24 => some (s1.1, r24)) (some (s1.1, false)))))) (some (s1.1, false)))) (fun (r : Int × Bool) => some r))

noncomputable def F_impl_reachable_1_c0_L1 (z17 : (List GRule)) (s20 : (List Int) × Int) : Option (((List Int) × Int) ⊕ Out ((List Int) × Int) (Option ((Unit) × ((List Bool))))) :=
  (cond (decide (s20.2 < (z17.length : Int))) (bnd (idx z17 s20.2) fun y23 => bnd (F_impl_isRule y23) fun r28 => (cond r28 (bnd (app s20.1 ([y23.Next] : List Int)) fun z32 => some (.inl (z32, (w64 (s20.2 + 1))))) (some (.inl (s20.1, (w64 (s20.2 + 1))))))) (some (.inr (.brk (s20.1, s20.2)))))

noncomputable def F_impl_reachable_1_c0_L2 (p1 : Int) (p6 : GMachine) (rec_ : Int → Int → (List Bool) → GMachine → Option ((Unit) × ((List Bool)))) (s20 : (List Int) × Int) (s35 : (List Bool) × Int) : Option (((List Bool) × Int) ⊕ Out ((List Bool) × Int) ((Unit) × ((List Bool)))) :=
  (cond (decide (s35.2 < (s20.1.length : Int))) (bnd (idx s20.1 s35.2) fun y38 => bnd (rec_ y38 p1 s35.1 p6) fun r43 => some (.inl (r43.2, (w64 (s35.2 + 1))))) (some (.inr (.brk (s35.1, s35.2)))))

noncomputable def F_impl_reachable_1_c0_step (rec_ : Int → Int → (List Bool) → GMachine → Option ((Unit) × ((List Bool)))) (p0 : Int) (p1 : Int) (p2 : (List Bool)) (p6 : GMachine) : Option ((Unit) × ((List Bool))) :=
  bnd ((cond (decide (p1 ≤ p0)) (some (.ret ((), p2))) (bnd (idx p2 p0) fun y4 => (cond y4 (some (.ret ((), p2))) (some (.brk ()))))) : Option (Out (Unit) ((Unit) × ((List Bool))))) (Out.elim (fun (s1 : Unit) => bnd (idx p2 p0) fun y10 => bnd (slc p6.Rules (w64 (p0 * p6.Symbols)) (w64 ((w64 (p0 + 1)) * p6.Symbols))) fun z17 => bnd (run (F_impl_reachable_1_c0_L1 z17) (([] : List Int), 0)) (Out.elim (fun (s20 : (List Int) × Int) => bnd (run (F_impl_reachable_1_c0_L2 p1 p6 rec_ s20) ((p2.set p0.toNat true), 0)) (Out.elim (fun (s35 : (List Bool) × Int) => some ((), s35.1)) (fun (r : (Unit) × ((List Bool))) => some r))) (fun (r : Option ((Unit) × ((List Bool)))) => r))) (fun (r : (Unit) × ((List Bool))) => some r))
noncomputable def F_impl_reachable_1_c0 (p0 : Int) (p1 : Int) (p2 : (List Bool)) (p6 : GMachine) : Option ((Unit) × ((List Bool))) := fixR (fun (rec_ : (Int × Int × (List Bool) × GMachine) → Option ((Unit) × ((List Bool)))) (a_ : Int × Int × (List Bool) × GMachine) => F_impl_reachable_1_c0_step (fun p0 p1 p2 p6 => rec_ (p0, p1, p2, p6)) a_.1 a_.2.1 a_.2.2.1 a_.2.2.2) (p0, p1, p2, p6)

noncomputable def F_impl_PruneMachine_L1 (r15 : (Unit) × ((List Bool))) (s19 : (List Int) × Int) : Option (((List Int) × Int) ⊕ Out ((List Int) × Int) (Option (GMachine × (List Int) × Int))) :=
  (cond (decide (s19.2 < (r15.2.length : Int))) (bnd (idx r15.2 s19.2) fun y22 => (cond y22 (bnd (app s19.1 ([s19.2] : List Int)) fun z29 => some (.inl (z29, (w64 (s19.2 + 1))))) (some (.inl (s19.1, (w64 (s19.2 + 1))))))) (some (.inr (.brk (s19.1, s19.2)))))

noncomputable def F_impl_PruneMachine_L3 (s19 : (List Int) × Int) (z50 : (List GRule)) (s53 : (List GRule) × Int) : Option (((List GRule) × Int) ⊕ Out ((List GRule) × Int) (GMachine × (List Int) × Int)) :=
  (cond (decide (s53.2 < (z50.length : Int))) (bnd (idx z50 s53.2) fun y56 => bnd (F_impl_isRule y56) fun r61 => (cond r61 (bnd (F_slices_BinarySearch_Sint64_int64 s19.1 y56.Next) fun r64 => bnd (app s53.1 ([(⟨y56.Write, y56.Move, r64.1⟩ : GRule)] : List GRule)) fun z67 => some (.inl (z67, (w64 (s53.2 + 1))))) (bnd (app s53.1 ([y56] : List GRule)) fun z71 => some (.inl (z71, (w64 (s53.2 + 1))))))) (some (.inr (.brk (s53.1, s53.2)))))

noncomputable def F_impl_PruneMachine_L2 (p0 : GMachine) (s19 : (List Int) × Int) (s41 : (List GRule) × Int) : Option (((List GRule) × Int) ⊕ Out ((List GRule) × Int) (GMachine × (List Int) × Int)) :=
  (cond (decide (s41.2 < (s19.1.length : Int))) (bnd (idx s19.1 s41.2) fun y44 => bnd (slc p0.Rules (w64 (y44 * p0.Symbols)) (w64 ((w64 (y44 + 1)) * p0.Symbols))) fun z50 => bnd (run (F_impl_PruneMachine_L3 s19 z50) (s41.1, 0)) (Out.elim (fun (s53 : (List GRule) × Int) => some (.inl (s53.1, (w64 (s41.2 + 1))))) (fun (r : GMachine × (List Int) × Int) => some (.inr (.ret r))))) (some (.inr (.brk (s41.1, s41.2)))))

noncomputable def F_impl_PruneMachine (p0 : GMachine) : Option (GMachine × (List Int) × Int) :=
  bnd (F_impl_ValidMachine p0) fun r3 => (cond (!r3) (some ((⟨0, 0, ([] : (List GRule))⟩ : GMachine), ([] : (List Int)), 1)) (bnd (mke p0.States false) fun z10 => bnd (F_impl_reachable_1_c0 0 p0.States z10 p0) fun r15 => bnd (run (F_impl_PruneMachine_L1 r15) (([] : List Int), 0)) (Out.elim (fun (s19 : (List Int) × Int) => bnd (bnd (F_impl_size_int64 s19.1) fun r37 => some (.brk (p0.Symbols, r37)) : Option (Out (Int × Int) (GMachine × (List Int) × Int))) (Out.elim (fun (s32 : Int × Int) => bnd (run (F_impl_PruneMachine_L2 p0 s19) (([] : (List GRule)), 0)) (Out.elim (fun (s41 : (List GRule) × Int) => some ((⟨s32.1, s32.2, s41.1⟩ : GMachine), s19.1, 0)) (fun (r : GMachine × (List Int) × Int) => some r))) (fun (r : GMachine × (List Int) × Int) => some r))) (fun (r : Option (GMachine × (List Int) × Int)) => r))))

noncomputable def F_impl_allWithin_L1 (p0 : (List Int)) (p1 : Int) (p2 : Int) (s1 : Int) : Option ((Int) ⊕ Out (Int) Bool) :=
  (cond (decide (s1 < (p0.length : Int))) (bnd (idx p0 s1) fun y4 => bnd (F_impl_within y4 p1 p2) fun r8 => (cond (!r8) (some (.inr (.ret false))) (some (.inl (w64 (s1 + 1)))))) (some (.inr (.brk s1))))

noncomputable def F_impl_allWithin (p0 : (List Int)) (p1 : Int) (p2 : Int) : Option (Bool) :=
  bnd (run (F_impl_allWithin_L1 p0 p1 p2) 0) (Out.elim (fun (s1 : Int) => some true) (fun (r : Bool) => some r))


noncomputable def F_impl_validSide (p0 : (List Int)) (p1 : Int) (p2 : Int) : Option (Bool) :=
  bnd (F_impl_size_int64 p0) fun r1 => (cond (decide (r1 ≤ p2)) (bnd (F_impl_allWithin p0 0 (w64 (p1 - 1))) fun r4 => (cond r4 (cond (decide ((p0.length : Int) = 0)) (some true) (bnd (idx p0 (w64 ((p0.length : Int) - 1))) fun y8 => some (decide (y8 ≠ 0)))) (some false))) (some false))


noncomputable def F_impl_configOf (p0 : GMachine) (p1 : GConfig) : Option (Bool) :=
  bnd (F_impl_within p1.State 0 (w64 (p0.States - 1))) fun r3 => (cond r3 (bnd (F_impl_validSide p1.Left p0.Symbols 200) fun r6 => (cond r6 (bnd (F_impl_validSide p1.Right p0.Symbols 200) fun r9 => some r9) (some false))) (some false))


noncomputable def F_impl_ValidConfig (p0 : GMachine) (p1 : GConfig) : Option (Bool) :=
  bnd (F_impl_ValidMachine p0) fun r3 => (cond r3 (bnd (F_impl_configOf p0 p1) fun r6 => some r6) (some false))


noncomputable def F_impl_budgetOk (p0 : Int) : Option (Bool) :=
  bnd (F_impl_within p0 1 20000) fun r1 => some r1


noncomputable def F_slices_Clone_Sint64_int64 (p0 : (List Int)) : Option ((List Int)) :=
  bnd (app ([] : List Int) p0) fun z3 => some z3

noncomputable def F_impl_reversed_L1 (s5 : (List Int) × Int × Int) : Option (((List Int) × Int × Int) ⊕ Out ((List Int) × Int × Int) (Option ((List Int)))) :=
  (cond (decide (s5.2.1 < s5.2.2)) (bnd (idx s5.1 s5.2.2) fun y8 => bnd (idx s5.1 s5.2.1) fun y12 => bnd (idx s5.1 s5.2.1) fun y19 => bnd (idx (s5.1.set s5.2.1.toNat y8) s5.2.2) fun y21 => some (.inl (((s5.1.set s5.2.1.toNat y8).set s5.2.2.toNat y12), (w64 (s5.2.1 + 1)), (w64 (s5.2.2 - 1))))) (some (.inr (.brk (s5.1, s5.2.1, s5.2.2)))))

noncomputable def F_impl_reversed (p0 : (List Int)) : Option ((List Int)) :=
  bnd (F_slices_Clone_Sint64_int64 p0) fun r1 => bnd (run (F_impl_reversed_L1) (r1, 0, (w64 ((r1.length : Int) - 1)))) (Out.elim (fun (s5 : (List Int) × Int × Int) => some s5.1) (fun (r : Option ((List Int))) => r))


noncomputable def F_impl_runnerOf (p0 : GMachine) (p1 : GConfig) : Option ((Int × Int × (List GRule) × Int × (List Int) × (List Int))) :=
  bnd (F_impl_reversed p1.Left) fun r6 => bnd (F_impl_reversed p1.Right) fun r9 => some (p0.Symbols, p0.States, p0.Rules, p1.State, r6, r9)


noncomputable def F_impl_nearest (p0 : (List Int)) : Option (Int) :=
  (cond (decide ((p0.length : Int) = 0)) (some 0) (bnd (idx p0 (w64 ((p0.length : Int) - 1))) fun y2 => some y2))


noncomputable def F_impl_runner_symbol (p0 : Grunner) : Option (Int) :=
  bnd (F_impl_nearest p0.right) fun r3 => some r3


noncomputable def F_impl_runner_at (p0 : Grunner) : Option (Int) :=
  bnd (F_impl_runner_symbol p0) fun r9 => some (w64 ((w64 (p0.state * (⟨p0.m_Symbols, p0.m_States, p0.m_Rules⟩ : GMachine).Symbols)) + r9))


noncomputable def F_impl_runner_rule (p0 : Grunner) : Option (GRule) :=
  bnd (F_impl_runner_at p0) fun r8 => bnd (idx ((⟨p0.m_Symbols, p0.m_States, p0.m_Rules⟩ : GMachine).Rules) r8) fun y10 => some y10


noncomputable def F_impl_runner_halts (p0 : Grunner) : Option (Bool) :=
  bnd (F_impl_runner_rule p0) fun r1 => bnd (F_impl_isRule r1) fun r3 => some (!r3)


noncomputable def F_impl_pop (p0 : (List Int)) : Option ((List Int)) :=
  bnd (slc p0 0 (if (w64 ((p0.length : Int) - 1)) > 0 then (w64 ((p0.length : Int) - 1)) else 0)) fun z1 => some z1


noncomputable def F_impl_runner_step (p0 : Grunner) : Option ((Bool) × (Int × (List Int) × (List Int))) :=
  bnd (F_impl_runner_rule p0) fun r1 => bnd (slc p0.right 0 (if (w64 ((p0.right.length : Int) - 1)) > 0 then (w64 ((p0.right.length : Int) - 1)) else 0)) fun z5 => bnd ((cond (decide (0 < r1.Move)) (cond (decide (r1.Write = 0)) (cond (decide ((p0.left.length : Int) = 0)) (some (.brk (p0.left, z5))) (bnd (app p0.left ([r1.Write] : List Int)) fun z19 => some (.brk (z19, z5)))) (bnd (app p0.left ([r1.Write] : List Int)) fun z23 => some (.brk (z23, z5)))) (bnd ((cond (decide (r1.Write = 0)) (cond (decide ((z5.length : Int) = 0)) (bnd (F_impl_nearest p0.left) fun r35 => (cond (decide (r35 = 0)) (some (.brk z5)) (bnd (app z5 ([r35] : List Int)) fun z41 => some (.brk z41)))) (bnd (app z5 ([r1.Write] : List Int)) fun z45 => bnd (F_impl_nearest p0.left) fun r48 => (cond (decide (r48 = 0)) (cond (decide ((z45.length : Int) = 0)) (some (.brk z45)) (bnd (app z45 ([r48] : List Int)) fun z55 => some (.brk z55))) (bnd (app z45 ([r48] : List Int)) fun z59 => some (.brk z59))))) (bnd (app z5 ([r1.Write] : List Int)) fun z63 => bnd (F_impl_nearest p0.left) fun r66 => (cond (decide (r66 = 0)) (cond (decide ((z63.length : Int) = 0)) (some (.brk z63)) (bnd (app z63 ([r66] : List Int)) fun z73 => some (.brk z73))) (bnd (app z63 ([r66] : List Int)) fun z77 => some (.brk z77))))) : Option (Out ((List Int)) ((Bool) × (Int × (List Int) × (List Int))))) (Out.elim (fun (s26 : (List Int)) => bnd (slc p0.left 0 (if (w64 ((p0.left.length : Int) - 1)) > 0 then (w64 ((p0.left.length : Int) - 1)) else 0)) fun z179 => some (.brk (z179, s26))) (fun (r : (Bool) × (Int × (List Int) × (List Int))) => some (.ret r))))) : Option (Out ((List Int) × (List Int)) ((Bool) × (Int × (List Int) × (List Int))))) (Out.elim (fun (s8 : (List Int) × (List Int)) => (cond (decide ((s8.1.length : Int) ≤ 200)) (some ((decide ((s8.2.length : Int) ≤ 200)), (r1.Next, s8.1, s8.2))) (some (false, (r1.Next, s8.1, s8.2))))) (fun (r : (Bool) × (Int × (List Int) × (List Int))) => some r))

noncomputable def F_impl_runner_run_L1 (p0 : Grunner) (p1 : Int) (s14 : Int × (List Int) × (List Int) × Int × Int) : Option ((Int × (List Int) × (List Int) × Int × Int) ⊕ Out (Int × (List Int) × (List Int) × Int × Int) (Option ((Int × Bool × Int) × (Int × (List Int) × (List Int))))) :=
  (cond (decide (s14.2.2.2.1 < p1)) (bnd (F_impl_runner_halts (⟨p0.m_Symbols, p0.m_States, p0.m_Rules, s14.1, s14.2.1, s14.2.2.1⟩ : Grunner)) fun r19 => (cond (!r19) (bnd (F_impl_runner_step (⟨p0.m_Symbols, p0.m_States, p0.m_Rules, s14.1, s14.2.1, s14.2.2.1⟩ : Grunner)) fun r22 => (cond (!r22.1) (some (.inr (.ret (some ((0, false, 5), (r22.2.1, r22.2.2.1, r22.2.2.2)))))) (some (.inl (r22.2.1, r22.2.2.1, r22.2.2.2, (w64 (s14.2.2.2.1 + 1)), s14.2.2.2.1))))) (some (.inr (.brk (s14.1, s14.2.1, s14.2.2.1, s14.2.2.2.1, s14.2.2.2.1)))))) (some (.inr (.brk (s14.1, s14.2.1, s14.2.2.1, s14.2.2.2.1, s14.2.2.2.1)))))

noncomputable def F_impl_runner_run (p0 : Grunner) (p1 : Int) : Option ((Int × Bool × Int) × (Int × (List Int) × (List Int))) :=
  bnd (run (F_impl_runner_run_L1 p0 p1) (p0.state, p0.left, p0.right, 0, 0)) (Out.elim (fun (s14 : Int × (List Int) × (List Int) × Int × Int) => bnd (F_impl_runner_halts (⟨p0.m_Symbols, p0.m_States, p0.m_Rules, s14.1, s14.2.1, s14.2.2.1⟩ : Grunner)) fun r31 => some ((s14.2.2.2.2, r31, 0), (s14.1, s14.2.1, s14.2.2.1))) (fun (r : Option ((Int × Bool × Int) × (Int × (List Int) × (List Int)))) => r))


noncomputable def F_impl_runner_config (p0 : Grunner) : Option (GConfig) :=
  bnd (F_impl_reversed p0.left) fun r11 => bnd (F_impl_reversed p0.right) fun r14 => some (⟨p0.state, r11, r14⟩ : GConfig)


noncomputable def F_impl_RunMachine (p0 : GMachine) (p1 : GConfig) (p2 : Int) : Option (GConfig × Int × Bool × Int) :=
  bnd (F_impl_ValidConfig p0 p1) fun r4 => (cond (!r4) (some ((⟨0, ([] : (List Int)), ([] : (List Int))⟩ : GConfig), 0, false, 1)) (bnd (F_impl_budgetOk p2) fun r7 => (cond (!r7) (some ((⟨0, ([] : (List Int)), ([] : (List Int))⟩ : GConfig), 0, false, 2)) (bnd (F_impl_runnerOf p0 p1) fun r10 => bnd (F_impl_runner_run (⟨r10.1, r10.2.1, r10.2.2.1, r10.2.2.2.1, r10.2.2.2.2.1, r10.2.2.2.2.2⟩ : Grunner) p2) fun r13 => (cond (decide (r13.1.2.2 ≠ 0)) (some ((⟨0, ([] : (List Int)), ([] : (List Int))⟩ : GConfig), 0, false, r13.1.2.2)) (bnd (F_impl_runner_config (⟨r10.1, r10.2.1, r10.2.2.1, r13.2.1, r13.2.2.1, r13.2.2.2⟩ : Grunner)) fun r17 => some (r17, r13.1.1, r13.1.2.1, 0)))))))

noncomputable def F_laws_r8Same_L1 (p0 : (List Int)) (p1 : (List Int)) (s2 : Int) : Option ((Int) ⊕ Out (Int) Bool) :=
  (cond (decide (s2 < (p0.length : Int))) (bnd (idx p0 s2) fun y5 => bnd (idx p1 s2) fun y9 => (cond (decide (y5 ≠ y9)) (some (.inr (.ret false))) (some (.inl (w64 (s2 + 1)))))) (some (.inr (.brk s2))))

noncomputable def F_laws_r8Same (p0 : (List Int)) (p1 : (List Int)) : Option (Bool) :=
  (cond (decide ((p0.length : Int) ≠ (p1.length : Int))) (some false) (bnd (run (F_laws_r8Same_L1 p0 p1) 0) (Out.elim (fun (s2 : Int) => some true) (fun (r : Bool) => some r))))


noncomputable def F_laws_r8Config (p0 : GConfig) (p1 : GConfig) : Option (Bool) :=
  (cond (decide (p0.State = p1.State)) (bnd (F_laws_r8Same p0.Left p1.Left) fun r4 => (cond r4 (bnd (F_laws_r8Same p0.Right p1.Right) fun r7 => some r7) (some false))) (some false))


noncomputable def F_laws_FnReachable (p0 : (List (Ik .u8))) (p1 : (List (Ik .u8))) : Option (Bool) :=
  bnd (F_laws_r8Long p0 p1) fun r1 => (cond r1 (some true) (bnd (F_spec_R8Machine p0) fun r4 => bnd (F_impl_PruneMachine r4.1) fun r9 => bnd ((cond (decide (r9.2.2 ≠ 0)) (some (.ret false)) (bnd (F_impl_ValidMachine r9.1) fun r16 => (cond (!r16) (some (.ret false)) (cond (decide ((r9.2.1.length : Int) ≠ r9.1.States)) (some (.ret false)) (cond (decide (r4.1.States < r9.1.States)) (some (.ret false)) (some (.brk ()))))))) : Option (Out (Unit) Bool)) (Out.elim (fun (s13 : Unit) => bnd (F_impl_RunMachine r4.1 (⟨0, r4.2.Left, r4.2.Right⟩ : GConfig) 40) fun r21 => bnd (F_impl_RunMachine r9.1 (⟨0, r4.2.Left, r4.2.Right⟩ : GConfig) 40) fun r25 => bnd ((cond (decide (r21.2.2.2 = 5)) (cond (decide (r25.2.2.2 = 5)) (some (.ret true)) (some (.brk ()))) (some (.brk ()))) : Option (Out (Unit) Bool)) (Out.elim (fun (s29 : Unit) => bnd ((cond (decide (r21.2.2.2 ≠ 0)) (some (.ret false)) (cond (decide (r25.2.2.2 ≠ 0)) (some (.ret false)) (cond (decide (r25.1.State < 0)) (some (.ret false)) (cond (decide ((r9.2.1.length : Int) ≤ r25.1.State)) (some (.ret false)) (some (.brk ())))))) : Option (Out (Unit) Bool)) (Out.elim (fun (s33 : Unit) => bnd (idx r9.2.1 r25.1.State) fun y39 => (cond (decide (r21.2.1 = r25.2.1)) (cond (r21.2.2.1 == r25.2.2.1) (bnd (F_laws_r8Config r21.1 (⟨y39, r25.1.Left, r25.1.Right⟩ : GConfig)) fun r46 => some r46) (some false)) (some false))) (fun (r : Bool) => some r))) (fun (r : Bool) => some r))) (fun (r : Bool) => some r))))

end Go.Fn
