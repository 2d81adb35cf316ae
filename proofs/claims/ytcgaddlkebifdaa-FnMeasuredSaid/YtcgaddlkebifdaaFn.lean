/-
  What each function of the program computes, as a plain Lean function: printed by program off the translation. No condition.
-/
import Derived.Test.YtcgaddlkebifdaaTy
namespace Go.Fn
open Go Go.Tc
set_option linter.unusedVariables false

noncomputable def F_laws_r8Long (p0 : (List (Ik .u8))) (p1 : (List (Ik .u8))) : Option (Bool) :=
  (cond (decide (1048576 < (p0.length : Int))) (some true) (some (decide (1048576 < (p1.length : Int)))))

noncomputable def F_spec_l00From (p0 : (List (Ik .u8))) : Option (((List (Ik .u8)) × Int × (Ik .u64))) :=
  some (p0, 0, (⟨0⟩ : Ik .u64))

noncomputable def F_spec_l00Src_next (p0 : Gl00Src) : Option ((Int) × (Int × (Ik .u64))) :=
  bnd ((cond (decide (p0.at_ < (p0.code.length : Int))) (bnd (idx p0.code p0.at_) fun y4 => some (.brk (w64 y4.val))) (some (.brk 0))) : Option (Out (Int) ((Int) × (Int × (Ik .u64))))) (Out.elim (fun (s1 : Int) => (cond (decide ((w64 (p0.at_ + 1)) ≤ (p0.code.length : Int))) (some (s1, ((w64 (p0.at_ + 1)), (⟨(wk .u64 ((wk .u64 ((wk .u64 (p0.seed.val * 6364136223846793005)) + (wk .u64 s1))) + 1442695040888963407))⟩ : Ik .u64)))) (some ((w64 (kand .u64 (Int.fdiv (wk .u64 ((wk .u64 ((wk .u64 (p0.seed.val * 6364136223846793005)) + (wk .u64 s1))) + 1442695040888963407)) (2 ^ min (40 : Int).toNat (IntKind.bits .u64))) 255)), ((w64 (p0.at_ + 1)), (⟨(wk .u64 ((wk .u64 ((wk .u64 (p0.seed.val * 6364136223846793005)) + (wk .u64 s1))) + 1442695040888963407))⟩ : Ik .u64)))))) (fun (r : (Int) × (Int × (Ik .u64))) => some r))

noncomputable def F_spec_l00Src_pick (p0 : Gl00Src) (p1 : Int) : Option ((Int) × (Int × (Ik .u64))) :=
  (cond (decide (p1 ≤ 1)) (some (0, (p0.at_, p0.seed))) (bnd (F_spec_l00Src_next p0) fun r2 => (cond (decide (200 < p1)) (bnd (F_spec_l00Src_next (⟨p0.code, r2.2.1, r2.2.2⟩ : Gl00Src)) fun r5 => bnd (nz p1) fun u7 => some ((Int.tmod (w64 ((w64 (r2.1 * 256)) + r5.1)) p1), (r5.2.1, r5.2.2))) (bnd (nz p1) fun u9 => some ((Int.tmod r2.1 p1), (r2.2.1, r2.2.2))))))

noncomputable def F_spec_l00Src_text (p0 : Gl00Src) (p1 : (List ByteArray)) : Option ((ByteArray) × (Int × (Ik .u64))) :=
  bnd (F_spec_l00Src_pick p0 (p1.length : Int)) fun r1 => bnd (idx p1 r1.1) fun y3 => some (y3, (r1.2.1, r1.2.2))

noncomputable def F_spec_l01Split_L1 (p0 : ByteArray) (p1 : (Ik .u8)) (s2 : (List ByteArray) × Int × Int) : Option (((List ByteArray) × Int × Int) ⊕ Out ((List ByteArray) × Int × Int) (List ByteArray)) :=
  (cond (decide (s2.2.2 < (p0.size : Int))) (bnd (bidx p0 s2.2.2) fun y5 => (cond (decide (y5 = p1.val)) (bnd (bslc p0 s2.2.1 s2.2.2) fun z8 => bnd (app s2.1 ([z8] : List ByteArray)) fun z11 => some (.inl (z11, (w64 (s2.2.2 + 1)), (w64 (s2.2.2 + 1))))) (some (.inl (s2.1, s2.2.1, (w64 (s2.2.2 + 1))))))) (some (.inr (.brk (s2.1, s2.2.1, s2.2.2)))))

noncomputable def F_spec_l01Split (p0 : ByteArray) (p1 : (Ik .u8)) : Option ((List ByteArray)) :=
  bnd (run (F_spec_l01Split_L1 p0 p1) (([] : List ByteArray), 0, 0)) (Out.elim (fun (s2 : (List ByteArray) × Int × Int) => bnd (bslc p0 s2.2.1 (p0.size : Int)) fun z14 => bnd (app s2.1 ([z14] : List ByteArray)) fun z17 => some z17) (fun (r : (List ByteArray)) => some r))

noncomputable def F_spec_l05None : Option (GRule) :=
  some (⟨0, 0, (-1)⟩ : GRule)

noncomputable def F_spec_l01Digit (p0 : (Ik .u8)) : Option (Bool) :=
  (cond (decide (48 ≤ p0.val)) (some (decide (p0.val ≤ 57))) (some false))

noncomputable def F_spec_l01Number_L1 (p0 : ByteArray) (s15 : Int × Int) : Option ((Int × Int) ⊕ Out (Int × Int) (Int × Bool)) :=
  (cond (decide (s15.2 < (p0.size : Int))) (bnd (bidx p0 s15.2) fun y18 => bnd (F_spec_l01Digit (⟨y18⟩ : Ik .u8)) fun r20 => (cond (!r20) (some (.inr (.ret (0, false)))) (bnd (bidx p0 s15.2) fun y23 => some (.inl ((w64 ((w64 (10 * s15.1)) + (w64 (wk .u8 (y23 - 48))))), (w64 (s15.2 + 1))))))) (some (.inr (.brk (s15.1, s15.2)))))

noncomputable def F_spec_l01Number (p0 : ByteArray) : Option (Int × Bool) :=
  bnd ((cond (decide (0 < (p0.size : Int))) (bnd (bidx p0 0) fun y4 => (cond (decide (y4 = 45)) (some (.brk 1)) (some (.brk 0)))) (some (.brk 0))) : Option (Out (Int) (Int × Bool))) (Out.elim (fun (s1 : Int) => bnd ((cond (decide ((p0.size : Int) = s1)) (some (.ret (0, false))) (cond (decide (18 < (w64 ((p0.size : Int) - s1)))) (some (.ret (0, false))) (bnd (bidx p0 s1) fun y11 => (cond (decide (y11 = 48)) (cond (decide (1 < (p0.size : Int))) (some (.ret (0, false))) (some (.brk ()))) (some (.brk ())))))) : Option (Out (Unit) (Int × Bool))) (Out.elim (fun (s7 : Unit) => bnd (run (F_spec_l01Number_L1 p0) (0, s1)) (Out.elim (fun (s15 : Int × Int) => (cond (decide (s1 = 1)) (some ((w64 (0 - s15.1)), true)) (some (s15.1, true)))) (fun (r : Int × Bool) => some r))) (fun (r : Int × Bool) => some r))) (fun (r : Int × Bool) => some r))

noncomputable def F_spec_l05ReadRule (p0 : ByteArray) : Option (GRule × Bool) :=
  (cond (p0.toList == (⟨#[45, 45, 45]⟩ : ByteArray).toList) (bnd F_spec_l05None fun r3 => some (r3, true)) (bnd ((cond (decide ((p0.size : Int) < 3)) (some (.ret ((⟨0, 0, 0⟩ : GRule), false))) (bnd (bidx p0 0) fun y8 => bnd (F_spec_l01Digit (⟨y8⟩ : Ik .u8)) fun r10 => (cond (!r10) (some (.ret ((⟨0, 0, 0⟩ : GRule), false))) (bnd (bidx p0 1) fun y13 => (cond (decide (y13 ≠ 76)) (bnd (bidx p0 1) fun y16 => (cond (decide (y16 ≠ 82)) (some (.ret ((⟨0, 0, 0⟩ : GRule), false))) (some (.brk ())))) (some (.brk ()))))))) : Option (Out (Unit) (GRule × Bool))) (Out.elim (fun (s5 : Unit) => bnd (bslc p0 2 (p0.size : Int)) fun z19 => bnd (F_spec_l01Number z19) fun r21 => bnd (bidx p0 0) fun y23 => bnd (bidx p0 1) fun y26 => (cond (decide (y26 = 76)) (cond r21.2 (some ((⟨(w64 (wk .u8 (y23 - 48))), (-1), r21.1⟩ : GRule), (decide (0 ≤ r21.1)))) (some ((⟨(w64 (wk .u8 (y23 - 48))), (-1), r21.1⟩ : GRule), false))) (cond r21.2 (some ((⟨(w64 (wk .u8 (y23 - 48))), 1, r21.1⟩ : GRule), (decide (0 ≤ r21.1)))) (some ((⟨(w64 (wk .u8 (y23 - 48))), 1, r21.1⟩ : GRule), false))))) (fun (r : GRule × Bool) => some r))))

noncomputable def F_spec_l00In (p0 : Int) (p1 : Int) (p2 : Int) : Option (Bool) :=
  (cond (decide (p1 ≤ p0)) (some (decide (p0 ≤ p2))) (some false))

noncomputable def F_spec_l05Rule (p0 : GRule) (p1 : Int) (p2 : Int) : Option (Bool) :=
  bnd F_spec_l05None fun r5 => (cond (decide (p0 = r5)) (some true) (bnd (F_spec_l00In p0.Write 0 (w64 (p1 - 1))) fun r8 => (cond r8 (cond (decide (p0.Move = 1)) (bnd (F_spec_l00In p0.Next 0 (w64 (p2 - 1))) fun r12 => some r12) (cond (decide (p0.Move = (-1))) (bnd (F_spec_l00In p0.Next 0 (w64 (p2 - 1))) fun r15 => some r15) (some false))) (some false))))

noncomputable def F_spec_l05Is_L1 (p0 : GMachine) (s31 : Int) : Option ((Int) ⊕ Out (Int) Bool) :=
  (cond (decide (s31 < (p0.Rules.length : Int))) (bnd (idx p0.Rules s31) fun y38 => bnd (F_spec_l05Rule y38 p0.Symbols p0.States) fun r49 => (cond (!r49) (some (.inr (.ret false))) (some (.inl (w64 (s31 + 1)))))) (some (.inr (.brk s31))))

noncomputable def F_spec_l05Is (p0 : GMachine) : Option (Bool) :=
  bnd (bnd (F_spec_l00In p0.Symbols 2 6) fun r8 => (cond (!r8) (some (.ret false)) (bnd (F_spec_l00In p0.States 1 1000) fun r15 => (cond (!r15) (some (.ret false)) (cond (decide ((p0.Rules.length : Int) ≠ (w64 (p0.Symbols * p0.States)))) (some (.ret false)) (some (.brk ())))))) : Option (Out (Unit) Bool)) (Out.elim (fun (s1 : Unit) => bnd (run (F_spec_l05Is_L1 p0) 0) (Out.elim (fun (s31 : Int) => some true) (fun (r : Bool) => some r))) (fun (r : Bool) => some r))

noncomputable def F_spec_l05Read_L2 (r21 : (List ByteArray)) (s28 : (List GRule) × Int) : Option (((List GRule) × Int) ⊕ Out ((List GRule) × Int) (GMachine × Bool)) :=
  (cond (decide (s28.2 < (r21.length : Int))) (bnd (idx r21 s28.2) fun y31 => bnd (F_spec_l05ReadRule y31) fun r36 => (cond (!r36.2) (some (.inr (.ret ((⟨0, 0, ([] : (List GRule))⟩ : GMachine), false)))) (bnd (app s28.1 ([r36.1] : List GRule)) fun z41 => some (.inl (z41, (w64 (s28.2 + 1))))))) (some (.inr (.brk (s28.1, s28.2)))))

noncomputable def F_spec_l05Read_L1 (r2 : (List ByteArray)) (r11 : (List ByteArray)) (s15 : (List GRule) × Int) : Option (((List GRule) × Int) ⊕ Out ((List GRule) × Int) (GMachine × Bool)) :=
  (cond (decide (s15.2 < (r2.length : Int))) (bnd (idx r2 s15.2) fun y18 => bnd (F_spec_l01Split y18 (⟨44⟩ : Ik .u8)) fun r21 => bnd ((cond (decide ((r21.length : Int) ≠ (r11.length : Int))) (some (.ret ((⟨0, 0, ([] : (List GRule))⟩ : GMachine), false))) (cond (decide (6 < (r11.length : Int))) (some (.ret ((⟨0, 0, ([] : (List GRule))⟩ : GMachine), false))) (some (.brk ())))) : Option (Out (Unit) (GMachine × Bool))) (Out.elim (fun (s24 : Unit) => bnd (run (F_spec_l05Read_L2 r21) (s15.1, 0)) (Out.elim (fun (s28 : (List GRule) × Int) => some (.inl (s28.1, (w64 (s15.2 + 1))))) (fun (r : GMachine × Bool) => some (.inr (.ret r))))) (fun (r : GMachine × Bool) => some (.inr (.ret r))))) (some (.inr (.brk (s15.1, s15.2)))))

noncomputable def F_spec_l05Read (p0 : ByteArray) : Option (GMachine × Bool) :=
  bnd (F_spec_l01Split p0 (⟨59⟩ : Ik .u8)) fun r2 => (cond (decide (1000 < (r2.length : Int))) (some ((⟨0, 0, ([] : (List GRule))⟩ : GMachine), false)) (bnd (idx r2 0) fun y6 => bnd (F_spec_l01Split y6 (⟨44⟩ : Ik .u8)) fun r11 => bnd (run (F_spec_l05Read_L1 r2 r11) (([] : (List GRule)), 0)) (Out.elim (fun (s15 : (List GRule) × Int) => bnd (F_spec_l05Is (⟨(r11.length : Int), (r2.length : Int), s15.1⟩ : GMachine)) fun r44 => (cond (!r44) (some ((⟨0, 0, ([] : (List GRule))⟩ : GMachine), false)) (some ((⟨(r11.length : Int), (r2.length : Int), s15.1⟩ : GMachine), true)))) (fun (r : GMachine × Bool) => some r))))

noncomputable def F_spec_l05Known (p0 : Gl00Src) : Option ((GMachine) × (Int × (Ik .u64))) :=
  bnd (F_spec_l00Src_text p0 ([(⟨#[49, 82, 49, 44, 49, 76, 49, 59, 49, 76, 48, 44, 45, 45, 45]⟩ : ByteArray), (⟨#[49, 82, 49, 44, 45, 45, 45, 59, 49, 76, 49, 44, 48, 82, 50, 59, 49, 76, 50, 44, 49, 76, 48]⟩ : ByteArray), (⟨#[49, 82, 49, 44, 49, 76, 49, 59, 49, 76, 48, 44, 48, 76, 50, 59, 45, 45, 45, 44, 49, 76, 51, 59, 49, 82, 51, 44, 48, 82, 48]⟩ : ByteArray), (⟨#[49, 82, 48, 44, 45, 45, 45]⟩ : ByteArray), (⟨#[49, 82, 49, 44, 48, 82, 48, 59, 49, 76, 48, 44, 49, 82, 49]⟩ : ByteArray), (⟨#[49, 82, 49, 44, 50, 76, 49, 44, 45, 45, 45, 59, 50, 76, 48, 44, 50, 82, 49, 44, 49, 76, 49]⟩ : ByteArray), (⟨#[49, 76, 48, 44, 49, 82, 49, 59, 49, 82, 48, 44, 48, 76, 49]⟩ : ByteArray), (⟨#[49, 82, 49, 44, 49, 82, 48, 59, 49, 76, 48, 44, 49, 76, 49]⟩ : ByteArray)] : List ByteArray)) fun r3 => bnd (F_spec_l05Read r3.1) fun r5 => some (r5.1, (r3.2.1, r3.2.2))

noncomputable def F_spec_l00Src_one (p0 : Gl00Src) (p1 : Int) : Option ((Bool) × (Int × (Ik .u64))) :=
  bnd (F_spec_l00Src_pick p0 p1) fun r1 => some ((decide (r1.1 = 0)), (r1.2.1, r1.2.2))

noncomputable def F_spec_l05DrawSize_L1 (p0 : Gl00Src) (p1 : Int) (p2 : Int) (s3 : Int × (Ik .u64) × (List GRule) × Int) : Option ((Int × (Ik .u64) × (List GRule) × Int) ⊕ Out (Int × (Ik .u64) × (List GRule) × Int) ((GMachine) × (Int × (Ik .u64)))) :=
  (cond (decide (0 < s3.2.2.2)) (bnd (F_spec_l00Src_pick (⟨p0.code, s3.1, s3.2.1⟩ : Gl00Src) p1) fun r6 => bnd (F_spec_l00Src_pick (⟨p0.code, r6.2.1, r6.2.2⟩ : Gl00Src) 2) fun r8 => bnd (F_spec_l00Src_pick (⟨p0.code, r8.2.1, r8.2.2⟩ : Gl00Src) p2) fun r10 => bnd (F_spec_l00Src_one (⟨p0.code, r10.2.1, r10.2.2⟩ : Gl00Src) 7) fun r13 => (cond r13.1 (bnd F_spec_l05None fun r16 => bnd (app s3.2.2.1 ([r16] : List GRule)) fun z19 => some (.inl (r13.2.1, r13.2.2, z19, (w64 (s3.2.2.2 - 1))))) (bnd (app s3.2.2.1 ([(⟨r6.1, (w64 ((w64 (2 * r8.1)) - 1)), r10.1⟩ : GRule)] : List GRule)) fun z23 => some (.inl (r13.2.1, r13.2.2, z23, (w64 (s3.2.2.2 - 1))))))) (some (.inr (.brk (s3.1, s3.2.1, s3.2.2.1, s3.2.2.2)))))

noncomputable def F_spec_l05DrawSize (p0 : Gl00Src) (p1 : Int) (p2 : Int) : Option ((GMachine) × (Int × (Ik .u64))) :=
  bnd (run (F_spec_l05DrawSize_L1 p0 p1 p2) (p0.at_, p0.seed, ([] : (List GRule)), (w64 (p1 * p2)))) (Out.elim (fun (s3 : Int × (Ik .u64) × (List GRule) × Int) => some ((⟨p1, p2, s3.2.2.1⟩ : GMachine), (s3.1, s3.2.1))) (fun (r : (GMachine) × (Int × (Ik .u64))) => some r))

noncomputable def F_spec_l27DrawMachine (p0 : Gl00Src) : Option ((GMachine) × (Int × (Ik .u64))) :=
  bnd (F_spec_l00Src_pick p0 3) fun r2 => (cond (decide (0 < r2.1)) (bnd (F_spec_l00Src_text (⟨p0.code, r2.2.1, r2.2.2⟩ : Gl00Src) ([(⟨#[49, 76, 49, 44, 49, 82, 48, 59, 49, 82, 48, 44, 49, 76, 49]⟩ : ByteArray), (⟨#[49, 76, 49, 44, 48, 82, 48, 59, 49, 82, 48, 44, 49, 76, 49]⟩ : ByteArray), (⟨#[48, 76, 49, 44, 49, 82, 48, 59, 49, 82, 48, 44, 49, 76, 49]⟩ : ByteArray), (⟨#[49, 82, 49, 44, 49, 82, 48, 59, 48, 76, 50, 44, 49, 82, 49, 59, 49, 82, 48, 44, 49, 76, 50]⟩ : ByteArray), (⟨#[49, 76, 49, 44, 49, 82, 48, 59, 49, 82, 48, 44, 48, 76, 49]⟩ : ByteArray), (⟨#[49, 76, 49, 44, 49, 82, 48, 59, 48, 82, 50, 44, 49, 76, 49, 59, 49, 82, 48, 44, 49, 82, 50]⟩ : ByteArray), (⟨#[49, 82, 49, 44, 49, 76, 50, 59, 49, 76, 48, 44, 49, 82, 49, 59, 49, 82, 48, 44, 48, 76, 50]⟩ : ByteArray)] : List ByteArray)) fun r6 => bnd (F_spec_l05Read r6.1) fun r8 => some (r8.1, (r6.2.1, r6.2.2))) (bnd (F_spec_l00Src_pick (⟨p0.code, r2.2.1, r2.2.2⟩ : Gl00Src) 2) fun r12 => bnd (F_spec_l05DrawSize (⟨p0.code, r12.2.1, r12.2.2⟩ : Gl00Src) 2 (w64 (2 + r12.1))) fun r14 => some (r14.1, (r14.2.1, r14.2.2))))

noncomputable def F_spec_l25DrawMachine (p0 : Gl00Src) : Option ((GMachine) × (Int × (Ik .u64))) :=
  bnd (F_spec_l00Src_one p0 3) fun r2 => (cond r2.1 (bnd (F_spec_l00Src_text (⟨p0.code, r2.2.1, r2.2.2⟩ : Gl00Src) ([(⟨#[49, 82, 48, 44, 49, 82, 48]⟩ : ByteArray), (⟨#[48, 82, 48, 44, 48, 82, 48]⟩ : ByteArray), (⟨#[49, 76, 48, 44, 48, 82, 48]⟩ : ByteArray), (⟨#[49, 82, 49, 44, 45, 45, 45, 59, 49, 76, 48, 44, 48, 82, 49]⟩ : ByteArray), (⟨#[49, 82, 49, 44, 48, 76, 48, 59, 49, 76, 48, 44, 49, 82, 49]⟩ : ByteArray), (⟨#[48, 76, 49, 44, 49, 82, 48, 59, 49, 82, 48, 44, 48, 76, 49]⟩ : ByteArray), (⟨#[49, 82, 49, 44, 48, 82, 49, 59, 49, 76, 48, 44, 48, 76, 48]⟩ : ByteArray), (⟨#[49, 76, 49, 44, 49, 76, 49, 59, 49, 82, 48, 44, 48, 82, 48]⟩ : ByteArray), (⟨#[49, 82, 49, 44, 49, 76, 49, 59, 48, 76, 48, 44, 48, 82, 49]⟩ : ByteArray)] : List ByteArray)) fun r6 => bnd (F_spec_l05Read r6.1) fun r8 => some (r8.1, (r6.2.1, r6.2.2))) (bnd (F_spec_l00Src_pick (⟨p0.code, r2.2.1, r2.2.2⟩ : Gl00Src) 3) fun r12 => bnd (F_spec_l05DrawSize (⟨p0.code, r12.2.1, r12.2.2⟩ : Gl00Src) 2 (w64 (1 + r12.1))) fun r14 => some (r14.1, (r14.2.1, r14.2.2))))

noncomputable def F_spec_l31DrawMachine (p0 : Gl00Src) : Option ((GMachine) × (Int × (Ik .u64))) :=
  bnd (F_spec_l00Src_pick p0 4) fun r2 => (cond (decide (r2.1 = 0)) (bnd (F_spec_l05Known (⟨p0.code, r2.2.1, r2.2.2⟩ : Gl00Src)) fun r5 => some (r5.1, (r5.2.1, r5.2.2))) (cond (decide (r2.1 = 1)) (bnd (F_spec_l27DrawMachine (⟨p0.code, r2.2.1, r2.2.2⟩ : Gl00Src)) fun r9 => some (r9.1, (r9.2.1, r9.2.2))) (cond (decide (r2.1 = 2)) (bnd (F_spec_l25DrawMachine (⟨p0.code, r2.2.1, r2.2.2⟩ : Gl00Src)) fun r13 => some (r13.1, (r13.2.1, r13.2.2))) (bnd (F_spec_l00Src_pick (⟨p0.code, r2.2.1, r2.2.2⟩ : Gl00Src) 2) fun r16 => bnd (F_spec_l05DrawSize (⟨p0.code, r16.2.1, r16.2.2⟩ : Gl00Src) 2 (w64 (1 + r16.1))) fun r18 => some (r18.1, (r18.2.1, r18.2.2))))))

noncomputable def F_spec_R8Runner (p0 : (List (Ik .u8))) : Option (GMachine) :=
  bnd (F_spec_l00From p0) fun r2 => bnd (F_spec_l31DrawMachine (⟨r2.1, r2.2.1, r2.2.2⟩ : Gl00Src)) fun r5 => some r5.1

noncomputable def F_spec_R8Budget (p0 : (List (Ik .u8))) (p1 : Int) : Option (Int) :=
  bnd (F_spec_l00From p0) fun r1 => bnd (F_spec_l00Src_pick (⟨r1.1, r1.2.1, r1.2.2⟩ : Gl00Src) p1) fun r4 => some (w64 (1 + r4.1))

noncomputable def F_laws_r8Blank : Option (GConfig) :=
  some (⟨0, ([] : List Int), ([] : List Int)⟩ : GConfig)

noncomputable def F_impl_within (p0 : Int) (p1 : Int) (p2 : Int) : Option (Bool) :=
  (cond (decide (p1 ≤ p0)) (some (decide (p0 ≤ p2))) (some false))

noncomputable def F_impl_size_impl_Rule (p0 : (List GRule)) : Option (Int) :=
  some (p0.length : Int)

noncomputable def F_impl_noRule : Option (GRule) :=
  some (⟨0, 0, (-1)⟩ : GRule)

noncomputable def F_impl_isRule (p0 : GRule) : Option (Bool) :=
  bnd F_impl_noRule fun r5 => some (!(decide (p0 = r5)))

noncomputable def F_impl_validRule (p0 : GMachine) (p1 : GRule) : Option (Bool) :=
  bnd (F_impl_isRule p1) fun r3 => (cond (!r3) (some true) (bnd (F_impl_within p1.Write 0 (w64 (p0.Symbols - 1))) fun r6 => (cond r6 (cond (decide (p1.Move = (-1))) (bnd (F_impl_within p1.Next 0 (w64 (p0.States - 1))) fun r10 => some r10) (cond (decide (p1.Move = 1)) (bnd (F_impl_within p1.Next 0 (w64 (p0.States - 1))) fun r13 => some r13) (some false))) (some false))))

noncomputable def F_impl_ValidMachine_1 (p0 : GRule) (p1 : GMachine) : Option (Bool) :=
  bnd (F_impl_validRule p1 p0) fun r3 => some (!r3)

noncomputable def F_slices_IndexFunc_Simpl_Rule_impl_Rule_L1 (p0 : (List GRule)) (p1 : (GRule → Option Bool)) (s1 : Int) : Option ((Int) ⊕ Out (Int) Int) :=
  (cond (decide (s1 < (p0.length : Int))) (bnd (idx p0 s1) fun y4 => bnd (p1 y4) fun r8 => (cond r8 (some (.inr (.ret s1))) (some (.inl (w64 (s1 + 1)))))) (some (.inr (.brk s1))))

noncomputable def F_slices_IndexFunc_Simpl_Rule_impl_Rule (p0 : (List GRule)) (p1 : (GRule → Option Bool)) : Option (Int) :=
  bnd (run (F_slices_IndexFunc_Simpl_Rule_impl_Rule_L1 p0 p1) 0) (Out.elim (fun (s1 : Int) => some (-1)) (fun (r : Int) => some r))

noncomputable def F_slices_ContainsFunc_Simpl_Rule_impl_Rule (p0 : (List GRule)) (p1 : (GRule → Option Bool)) : Option (Bool) :=
  bnd (F_slices_IndexFunc_Simpl_Rule_impl_Rule p0 p1) fun r1 => some (decide (0 ≤ r1))

noncomputable def F_impl_ValidMachine (p0 : GMachine) : Option (Bool) :=
  bnd (F_impl_within p0.Symbols 2 6) fun r5 => (cond (!r5) (some false) (bnd (F_impl_within p0.States 1 1000) fun r8 => (cond (!r8) (some false) (bnd (F_impl_size_impl_Rule p0.Rules) fun r11 => (cond (decide (r11 ≠ (w64 (p0.States * p0.Symbols)))) (some false) (bnd (F_slices_ContainsFunc_Simpl_Rule_impl_Rule p0.Rules (fun x_ => F_impl_ValidMachine_1 x_ p0)) fun r14 => some (!r14)))))))

noncomputable def F_impl_size_int64 (p0 : (List Int)) : Option (Int) :=
  some (p0.length : Int)

noncomputable def F_impl_allWithin_L1 (p0 : (List Int)) (p1 : Int) (p2 : Int) (s1 : Int) : Option ((Int) ⊕ Out (Int) Bool) :=
  (cond (decide (s1 < (p0.length : Int))) (bnd (idx p0 s1) fun y4 => bnd (F_impl_within y4 p1 p2) fun r8 => (cond (!r8) (some (.inr (.ret false))) (some (.inl (w64 (s1 + 1)))))) (some (.inr (.brk s1))))

noncomputable def F_impl_allWithin (p0 : (List Int)) (p1 : Int) (p2 : Int) : Option (Bool) :=
  bnd (run (F_impl_allWithin_L1 p0 p1 p2) 0) (Out.elim (fun (s1 : Int) => some true) (fun (r : Bool) => some r))

noncomputable def F_impl_validSide (p0 : (List Int)) (p1 : Int) (p2 : Int) : Option (Bool) :=
  bnd (F_impl_size_int64 p0) fun r1 => (cond (decide (r1 ≤ p2)) (bnd (F_impl_allWithin p0 0 (w64 (p1 - 1))) fun r4 => (cond r4 (cond (decide ((p0.length : Int) = 0)) (some true) (bnd (idx p0 (w64 ((p0.length : Int) - 1))) fun y8 => some (decide (y8 ≠ 0)))) (some false))) (some false))

noncomputable def F_impl_configOf (p0 : GMachine) (p1 : GConfig) : Option (Bool) :=
  bnd (F_impl_within p1.State 0 (w64 (p0.States - 1))) fun r3 => (cond r3 (bnd (F_impl_validSide p1.Left p0.Symbols 200) fun r6 => (cond r6 (bnd (F_impl_validSide p1.Right p0.Symbols 200) fun r9 => some r9) (some false))) (some false))

noncomputable def F_impl_ValidConfig (p0 : GMachine) (p1 : GConfig) : Option (Bool) :=
  bnd (F_impl_ValidMachine p0) fun r3 => (cond r3 (bnd (F_impl_configOf p0 p1) fun r6 => some r6) (some false))

noncomputable def F_impl_budgetOk (p0 : Int) : Option (Bool) :=
  bnd (F_impl_within p0 1 20000) fun r1 => some r1

noncomputable def F_impl_runCode (p0 : GMachine) (p1 : GConfig) (p2 : Int) : Option (Int) :=
  bnd (F_impl_ValidConfig p0 p1) fun r3 => (cond (!r3) (some 1) (bnd (F_impl_budgetOk p2) fun r6 => (cond (!r6) (some 2) (some 0))))

noncomputable def F_impl_countOf_L1 (p0 : (List Int)) (p1 : Int) (s1 : Int × Int) : Option ((Int × Int) ⊕ Out (Int × Int) Int) :=
  (cond (decide (s1.2 < (p0.length : Int))) (bnd (idx p0 s1.2) fun y4 => (cond (decide (y4 = p1)) (some (.inl ((w64 (s1.1 + 1)), (w64 (s1.2 + 1))))) (some (.inl (s1.1, (w64 (s1.2 + 1))))))) (some (.inr (.brk (s1.1, s1.2)))))

noncomputable def F_impl_countOf (p0 : (List Int)) (p1 : Int) : Option (Int) :=
  bnd (run (F_impl_countOf_L1 p0 p1) (0, 0)) (Out.elim (fun (s1 : Int × Int) => some s1.1) (fun (r : Int) => some r))

noncomputable def F_impl_measurer_config (p0 : Gmeasurer) (p1 : Grunner) (p2 : Int) : Option ((Unit) × (Int × Int × Int × Int)) :=
  bnd (bnd (F_impl_size_int64 p1.left) fun r6 => bnd (F_impl_size_int64 p1.right) fun r8 => some (.brk (if (w64 (r6 + r8)) > p0.measure_Space then (w64 (r6 + r8)) else p0.measure_Space)) : Option (Out (Int) ((Unit) × (Int × Int × Int × Int)))) (Out.elim (fun (s1 : Int) => bnd (some (.brk ((if p2 < p0.measure_Least then p2 else p0.measure_Least), (if p2 > p0.measure_Greatest then p2 else p0.measure_Greatest))) : Option (Out (Int × Int) ((Unit) × (Int × Int × Int × Int)))) (Out.elim (fun (s12 : Int × Int) => bnd (F_impl_size_int64 p1.left) fun r20 => bnd (F_impl_size_int64 p1.right) fun r22 => bnd (F_impl_countOf p1.left 0) fun r24 => bnd (F_impl_countOf p1.right 0) fun r26 => some ((), (s1, s12.1, s12.2, (w64 ((w64 ((w64 (r20 + r22)) - r24)) - r26))))) (fun (r : (Unit) × (Int × Int × Int × Int)) => some r))) (fun (r : (Unit) × (Int × Int × Int × Int)) => some r))

noncomputable def F_impl_nearest (p0 : (List Int)) : Option (Int) :=
  (cond (decide ((p0.length : Int) = 0)) (some 0) (bnd (idx p0 (w64 ((p0.length : Int) - 1))) fun y2 => some y2))

noncomputable def F_impl_runner_symbol (p0 : Grunner) : Option (Int) :=
  bnd (F_impl_nearest p0.right) fun r3 => some r3

noncomputable def F_impl_measurer_step (p0 : Gmeasurer) (p1 : Grunner) (p2 : Int) (p3 : GRule) : Option ((Unit) × (Int × Int × Int)) :=
  bnd (bnd (F_impl_runner_symbol p1) fun r7 => (cond (decide (p3.Write ≠ r7)) (some (.brk (w64 (p0.measure_Changes + 1)))) (some (.brk p0.measure_Changes))) : Option (Out (Int) ((Unit) × (Int × Int × Int)))) (Out.elim (fun (s2 : Int) => bnd ((cond (decide (p0.last ≠ 0)) (some (.brk (decide (p3.Move ≠ p0.last)))) (some (.brk false))) : Option (Out (Bool) ((Unit) × (Int × Int × Int)))) (Out.elim (fun (s10 : Bool) => (cond s10 (some ((), (s2, (w64 (p0.measure_Turns + 1)), p3.Move))) (some ((), (s2, p0.measure_Turns, p3.Move))))) (fun (r : (Unit) × (Int × Int × Int)) => some r))) (fun (r : (Unit) × (Int × Int × Int)) => some r))

noncomputable def F_slices_Clone_Sint64_int64 (p0 : (List Int)) : Option ((List Int)) :=
  bnd (app ([] : List Int) p0) fun z3 => some z3

noncomputable def F_impl_reversed_L1 (s5 : (List Int) × Int × Int) : Option (((List Int) × Int × Int) ⊕ Out ((List Int) × Int × Int) (Option ((List Int)))) :=
  (cond (decide (s5.2.1 < s5.2.2)) (bnd (idx s5.1 s5.2.2) fun y8 => bnd (idx s5.1 s5.2.1) fun y12 => bnd (idx s5.1 s5.2.1) fun y19 => bnd (idx (s5.1.set s5.2.1.toNat y8) s5.2.2) fun y21 => some (.inl (((s5.1.set s5.2.1.toNat y8).set s5.2.2.toNat y12), (w64 (s5.2.1 + 1)), (w64 (s5.2.2 - 1))))) (some (.inr (.brk (s5.1, s5.2.1, s5.2.2)))))

noncomputable def F_impl_reversed (p0 : (List Int)) : Option ((List Int)) :=
  bnd (F_slices_Clone_Sint64_int64 p0) fun r1 => bnd (run (F_impl_reversed_L1) (r1, 0, (w64 ((r1.length : Int) - 1)))) (Out.elim (fun (s5 : (List Int) × Int × Int) => some s5.1) (fun (r : Option ((List Int))) => r))

noncomputable def F_impl_runnerOf (p0 : GMachine) (p1 : GConfig) : Option ((Int × Int × (List GRule) × Int × (List Int) × (List Int))) :=
  bnd (F_impl_reversed p1.Left) fun r6 => bnd (F_impl_reversed p1.Right) fun r9 => some (p0.Symbols, p0.States, p0.Rules, p1.State, r6, r9)

noncomputable def F_impl_runner_at (p0 : Grunner) : Option (Int) :=
  bnd (F_impl_runner_symbol p0) fun r9 => some (w64 ((w64 (p0.state * (⟨p0.m_Symbols, p0.m_States, p0.m_Rules⟩ : GMachine).Symbols)) + r9))

noncomputable def F_impl_runner_rule (p0 : Grunner) : Option (GRule) :=
  bnd (F_impl_runner_at p0) fun r8 => bnd (idx ((⟨p0.m_Symbols, p0.m_States, p0.m_Rules⟩ : GMachine).Rules) r8) fun y10 => some y10

noncomputable def F_impl_runner_halts (p0 : Grunner) : Option (Bool) :=
  bnd (F_impl_runner_rule p0) fun r1 => bnd (F_impl_isRule r1) fun r3 => some (!r3)

noncomputable def F_impl_runner_step (p0 : Grunner) : Option ((Bool) × (Int × (List Int) × (List Int))) :=
  bnd (F_impl_runner_rule p0) fun r1 => bnd (slc p0.right 0 (if (w64 ((p0.right.length : Int) - 1)) > 0 then (w64 ((p0.right.length : Int) - 1)) else 0)) fun z5 => bnd ((cond (decide (0 < r1.Move)) (cond (decide (r1.Write = 0)) (cond (decide ((p0.left.length : Int) = 0)) (some (.brk (p0.left, z5))) (bnd (app p0.left ([r1.Write] : List Int)) fun z19 => some (.brk (z19, z5)))) (bnd (app p0.left ([r1.Write] : List Int)) fun z23 => some (.brk (z23, z5)))) (bnd ((cond (decide (r1.Write = 0)) (cond (decide ((z5.length : Int) = 0)) (bnd (F_impl_nearest p0.left) fun r35 => (cond (decide (r35 = 0)) (some (.brk z5)) (bnd (app z5 ([r35] : List Int)) fun z41 => some (.brk z41)))) (bnd (app z5 ([r1.Write] : List Int)) fun z45 => bnd (F_impl_nearest p0.left) fun r48 => (cond (decide (r48 = 0)) (cond (decide ((z45.length : Int) = 0)) (some (.brk z45)) (bnd (app z45 ([r48] : List Int)) fun z55 => some (.brk z55))) (bnd (app z45 ([r48] : List Int)) fun z59 => some (.brk z59))))) (bnd (app z5 ([r1.Write] : List Int)) fun z63 => bnd (F_impl_nearest p0.left) fun r66 => (cond (decide (r66 = 0)) (cond (decide ((z63.length : Int) = 0)) (some (.brk z63)) (bnd (app z63 ([r66] : List Int)) fun z73 => some (.brk z73))) (bnd (app z63 ([r66] : List Int)) fun z77 => some (.brk z77))))) : Option (Out ((List Int)) ((Bool) × (Int × (List Int) × (List Int))))) (Out.elim (fun (s26 : (List Int)) => bnd (slc p0.left 0 (if (w64 ((p0.left.length : Int) - 1)) > 0 then (w64 ((p0.left.length : Int) - 1)) else 0)) fun z179 => some (.brk (z179, s26))) (fun (r : (Bool) × (Int × (List Int) × (List Int))) => some (.ret r))))) : Option (Out ((List Int) × (List Int)) ((Bool) × (Int × (List Int) × (List Int))))) (Out.elim (fun (s8 : (List Int) × (List Int)) => (cond (decide ((s8.1.length : Int) ≤ 200)) (some ((decide ((s8.2.length : Int) ≤ 200)), (r1.Next, s8.1, s8.2))) (some (false, (r1.Next, s8.1, s8.2))))) (fun (r : (Bool) × (Int × (List Int) × (List Int))) => some r))

noncomputable def F_impl_MeasureRun_L1 (p2 : Int) (r11 : (Int × Int × (List GRule) × Int × (List Int) × (List Int))) (s14 : Int × Int × Int × Int × Int × Int × Int × Int × (List Int) × (List Int) × Int × Int) : Option ((Int × Int × Int × Int × Int × Int × Int × Int × (List Int) × (List Int) × Int × Int) ⊕ Out (Int × Int × Int × Int × Int × Int × Int × Int × (List Int) × (List Int) × Int × Int) (Option (GMeasure × Int))) :=
  bnd (F_impl_measurer_config (⟨0, false, s14.1, s14.2.1, s14.2.2.1, s14.2.2.2.1, s14.2.2.2.2.1, s14.2.2.2.2.2.1, s14.2.2.2.2.2.2.1⟩ : Gmeasurer) (⟨r11.1, r11.2.1, r11.2.2.1, s14.2.2.2.2.2.2.2.1, s14.2.2.2.2.2.2.2.2.1, s14.2.2.2.2.2.2.2.2.2.1⟩ : Grunner) s14.2.2.2.2.2.2.2.2.2.2.1) fun r16 => bnd ((cond (decide (s14.2.2.2.2.2.2.2.2.2.2.2 = p2)) (bnd (F_impl_runner_halts (⟨r11.1, r11.2.1, r11.2.2.1, s14.2.2.2.2.2.2.2.1, s14.2.2.2.2.2.2.2.2.1, s14.2.2.2.2.2.2.2.2.2.1⟩ : Grunner)) fun r21 => some (.ret (some ((⟨s14.2.2.2.2.2.2.2.2.2.2.2, r21, r16.2.1, r16.2.2.1, r16.2.2.2.1, s14.2.2.2.1, s14.2.2.2.2.1, r16.2.2.2.2⟩ : GMeasure), 0)))) (bnd (F_impl_runner_halts (⟨r11.1, r11.2.1, r11.2.2.1, s14.2.2.2.2.2.2.2.1, s14.2.2.2.2.2.2.2.2.1, s14.2.2.2.2.2.2.2.2.2.1⟩ : Grunner)) fun r23 => (cond r23 (bnd (F_impl_runner_halts (⟨r11.1, r11.2.1, r11.2.2.1, s14.2.2.2.2.2.2.2.1, s14.2.2.2.2.2.2.2.2.1, s14.2.2.2.2.2.2.2.2.2.1⟩ : Grunner)) fun r26 => some (.ret (some ((⟨s14.2.2.2.2.2.2.2.2.2.2.2, r26, r16.2.1, r16.2.2.1, r16.2.2.2.1, s14.2.2.2.1, s14.2.2.2.2.1, r16.2.2.2.2⟩ : GMeasure), 0)))) (some (.brk ()))))) : Option (Out (Unit) (Option (GMeasure × Int)))) (Out.elim (fun (s18 : Unit) => bnd (F_impl_runner_rule (⟨r11.1, r11.2.1, r11.2.2.1, s14.2.2.2.2.2.2.2.1, s14.2.2.2.2.2.2.2.2.1, s14.2.2.2.2.2.2.2.2.2.1⟩ : Grunner)) fun r28 => bnd (F_impl_measurer_step (⟨0, false, r16.2.1, r16.2.2.1, r16.2.2.2.1, s14.2.2.2.1, s14.2.2.2.2.1, r16.2.2.2.2, s14.2.2.2.2.2.2.1⟩ : Gmeasurer) (⟨r11.1, r11.2.1, r11.2.2.1, s14.2.2.2.2.2.2.2.1, s14.2.2.2.2.2.2.2.2.1, s14.2.2.2.2.2.2.2.2.2.1⟩ : Grunner) s14.2.2.2.2.2.2.2.2.2.2.1 r28) fun r31 => bnd (F_impl_runner_step (⟨r11.1, r11.2.1, r11.2.2.1, s14.2.2.2.2.2.2.2.1, s14.2.2.2.2.2.2.2.2.1, s14.2.2.2.2.2.2.2.2.2.1⟩ : Grunner)) fun r33 => (cond (!r33.1) (some (.inr (.ret (some ((⟨0, false, 0, 0, 0, 0, 0, 0⟩ : GMeasure), 5))))) (some (.inl (r16.2.1, r16.2.2.1, r16.2.2.2.1, r31.2.1, r31.2.2.1, r16.2.2.2.2, r31.2.2.2, r33.2.1, r33.2.2.1, r33.2.2.2, (w64 (s14.2.2.2.2.2.2.2.2.2.2.1 + r28.Move)), (w64 (s14.2.2.2.2.2.2.2.2.2.2.2 + 1))))))) (fun (r : Option (GMeasure × Int)) => some (.inr (.ret r))))

noncomputable def F_impl_MeasureRun (p0 : GMachine) (p1 : GConfig) (p2 : Int) : Option (GMeasure × Int) :=
  bnd (F_impl_runCode p0 p1 p2) fun r4 => (cond (decide (r4 ≠ 0)) (some ((⟨0, false, 0, 0, 0, 0, 0, 0⟩ : GMeasure), r4)) (bnd (F_impl_runnerOf p0 p1) fun r11 => bnd (run (F_impl_MeasureRun_L1 p2 r11) (0, 0, 0, 0, 0, 0, 0, r11.2.2.2.1, r11.2.2.2.2.1, r11.2.2.2.2.2, 0, 0)) (Out.elim (fun (s14 : Int × Int × Int × Int × Int × Int × Int × Int × (List Int) × (List Int) × Int × Int) => none) (fun (r : Option (GMeasure × Int)) => r))))

noncomputable def F_impl_budgeted (p0 : GMachine) (p1 : Int) : Option (Int) :=
  bnd (F_impl_runCode p0 (⟨0, ([] : (List Int)), ([] : (List Int))⟩ : GConfig) p1) fun r2 => some r2

noncomputable def F_impl_runner_config (p0 : Grunner) : Option (GConfig) :=
  bnd (F_impl_reversed p0.left) fun r11 => bnd (F_impl_reversed p0.right) fun r14 => some (⟨p0.state, r11, r14⟩ : GConfig)

noncomputable def F_impl_tracked_L1 (p1 : Int) (r6 : (Int × Int × (List GRule) × Int × (List Int) × (List Int))) (s9 : (List Int) × (List Grecord) × Int × Int × Int × (List Int) × (List Int) × Int × Int) : Option (((List Int) × (List Grecord) × Int × Int × Int × (List Int) × (List Int) × Int × Int) ⊕ Out ((List Int) × (List Grecord) × Int × Int × Int × (List Int) × (List Int) × Int × Int) (Option (((List Int) × (List Grecord) × Int × Int) × Bool × Int))) :=
  (cond (decide (s9.2.2.2.1 < s9.2.2.2.2.2.2.2.1)) (bnd (F_impl_size_int64 s9.1) fun r16 => bnd (F_impl_runner_config (⟨r6.1, r6.2.1, r6.2.2.1, s9.2.2.2.2.1, s9.2.2.2.2.2.1, s9.2.2.2.2.2.2.1⟩ : Grunner)) fun r18 => bnd (app s9.2.1 ([(⟨r16, 1, r18.State, r18.Left, r18.Right⟩ : Grecord)] : List Grecord)) fun z22 => bnd (app s9.1 ([s9.2.2.2.2.2.2.2.1] : List Int)) fun z26 => bnd ((cond (decide (s9.2.2.2.2.2.2.2.2 = p1)) (bnd (F_impl_runner_halts (⟨r6.1, r6.2.1, r6.2.2.1, s9.2.2.2.2.1, s9.2.2.2.2.2.1, s9.2.2.2.2.2.2.1⟩ : Grunner)) fun r32 => some (.ret (some ((z26, z22, s9.2.2.1, s9.2.2.2.2.2.2.2.1), r32, 0)))) (bnd (F_impl_runner_halts (⟨r6.1, r6.2.1, r6.2.2.1, s9.2.2.2.2.1, s9.2.2.2.2.2.1, s9.2.2.2.2.2.2.1⟩ : Grunner)) fun r34 => (cond r34 (bnd (F_impl_runner_halts (⟨r6.1, r6.2.1, r6.2.2.1, s9.2.2.2.2.1, s9.2.2.2.2.2.1, s9.2.2.2.2.2.2.1⟩ : Grunner)) fun r37 => some (.ret (some ((z26, z22, s9.2.2.1, s9.2.2.2.2.2.2.2.1), r37, 0)))) (some (.brk ()))))) : Option (Out (Unit) (Option (((List Int) × (List Grecord) × Int × Int) × Bool × Int)))) (Out.elim (fun (s29 : Unit) => bnd (F_impl_runner_rule (⟨r6.1, r6.2.1, r6.2.2.1, s9.2.2.2.2.1, s9.2.2.2.2.2.1, s9.2.2.2.2.2.2.1⟩ : Grunner)) fun r39 => bnd (F_impl_runner_step (⟨r6.1, r6.2.1, r6.2.2.1, s9.2.2.2.2.1, s9.2.2.2.2.2.1, s9.2.2.2.2.2.2.1⟩ : Grunner)) fun r44 => (cond (!r44.1) (some (.inr (.ret (some ((z26, z22, s9.2.2.1, s9.2.2.2.2.2.2.2.1), false, 5))))) (some (.inl (z26, z22, s9.2.2.1, s9.2.2.2.2.2.2.2.1, r44.2.1, r44.2.2.1, r44.2.2.2, (w64 (s9.2.2.2.2.2.2.2.1 + r39.Move)), (w64 (s9.2.2.2.2.2.2.2.2 + 1))))))) (fun (r : Option (((List Int) × (List Grecord) × Int × Int) × Bool × Int)) => some (.inr (.ret r))))) (cond (decide (s9.2.2.2.2.2.2.2.1 < s9.2.2.1)) (bnd (F_impl_size_int64 s9.1) fun r196 => bnd (F_impl_runner_config (⟨r6.1, r6.2.1, r6.2.2.1, s9.2.2.2.2.1, s9.2.2.2.2.2.1, s9.2.2.2.2.2.2.1⟩ : Grunner)) fun r198 => bnd (app s9.2.1 ([(⟨r196, (-1), r198.State, r198.Left, r198.Right⟩ : Grecord)] : List Grecord)) fun z202 => bnd (app s9.1 ([s9.2.2.2.2.2.2.2.1] : List Int)) fun z206 => bnd ((cond (decide (s9.2.2.2.2.2.2.2.2 = p1)) (bnd (F_impl_runner_halts (⟨r6.1, r6.2.1, r6.2.2.1, s9.2.2.2.2.1, s9.2.2.2.2.2.1, s9.2.2.2.2.2.2.1⟩ : Grunner)) fun r212 => some (.ret (some ((z206, z202, s9.2.2.2.2.2.2.2.1, s9.2.2.2.1), r212, 0)))) (bnd (F_impl_runner_halts (⟨r6.1, r6.2.1, r6.2.2.1, s9.2.2.2.2.1, s9.2.2.2.2.2.1, s9.2.2.2.2.2.2.1⟩ : Grunner)) fun r214 => (cond r214 (bnd (F_impl_runner_halts (⟨r6.1, r6.2.1, r6.2.2.1, s9.2.2.2.2.1, s9.2.2.2.2.2.1, s9.2.2.2.2.2.2.1⟩ : Grunner)) fun r217 => some (.ret (some ((z206, z202, s9.2.2.2.2.2.2.2.1, s9.2.2.2.1), r217, 0)))) (some (.brk ()))))) : Option (Out (Unit) (Option (((List Int) × (List Grecord) × Int × Int) × Bool × Int)))) (Out.elim (fun (s209 : Unit) => bnd (F_impl_runner_rule (⟨r6.1, r6.2.1, r6.2.2.1, s9.2.2.2.2.1, s9.2.2.2.2.2.1, s9.2.2.2.2.2.2.1⟩ : Grunner)) fun r219 => bnd (F_impl_runner_step (⟨r6.1, r6.2.1, r6.2.2.1, s9.2.2.2.2.1, s9.2.2.2.2.2.1, s9.2.2.2.2.2.2.1⟩ : Grunner)) fun r224 => (cond (!r224.1) (some (.inr (.ret (some ((z206, z202, s9.2.2.2.2.2.2.2.1, s9.2.2.2.1), false, 5))))) (some (.inl (z206, z202, s9.2.2.2.2.2.2.2.1, s9.2.2.2.1, r224.2.1, r224.2.2.1, r224.2.2.2, (w64 (s9.2.2.2.2.2.2.2.1 + r219.Move)), (w64 (s9.2.2.2.2.2.2.2.2 + 1))))))) (fun (r : Option (((List Int) × (List Grecord) × Int × Int) × Bool × Int)) => some (.inr (.ret r))))) (bnd (app s9.1 ([s9.2.2.2.2.2.2.2.1] : List Int)) fun z373 => bnd ((cond (decide (s9.2.2.2.2.2.2.2.2 = p1)) (bnd (F_impl_runner_halts (⟨r6.1, r6.2.1, r6.2.2.1, s9.2.2.2.2.1, s9.2.2.2.2.2.1, s9.2.2.2.2.2.2.1⟩ : Grunner)) fun r379 => some (.ret (some ((z373, s9.2.1, s9.2.2.1, s9.2.2.2.1), r379, 0)))) (bnd (F_impl_runner_halts (⟨r6.1, r6.2.1, r6.2.2.1, s9.2.2.2.2.1, s9.2.2.2.2.2.1, s9.2.2.2.2.2.2.1⟩ : Grunner)) fun r381 => (cond r381 (bnd (F_impl_runner_halts (⟨r6.1, r6.2.1, r6.2.2.1, s9.2.2.2.2.1, s9.2.2.2.2.2.1, s9.2.2.2.2.2.2.1⟩ : Grunner)) fun r384 => some (.ret (some ((z373, s9.2.1, s9.2.2.1, s9.2.2.2.1), r384, 0)))) (some (.brk ()))))) : Option (Out (Unit) (Option (((List Int) × (List Grecord) × Int × Int) × Bool × Int)))) (Out.elim (fun (s376 : Unit) => bnd (F_impl_runner_rule (⟨r6.1, r6.2.1, r6.2.2.1, s9.2.2.2.2.1, s9.2.2.2.2.2.1, s9.2.2.2.2.2.2.1⟩ : Grunner)) fun r386 => bnd (F_impl_runner_step (⟨r6.1, r6.2.1, r6.2.2.1, s9.2.2.2.2.1, s9.2.2.2.2.2.1, s9.2.2.2.2.2.2.1⟩ : Grunner)) fun r391 => (cond (!r391.1) (some (.inr (.ret (some ((z373, s9.2.1, s9.2.2.1, s9.2.2.2.1), false, 5))))) (some (.inl (z373, s9.2.1, s9.2.2.1, s9.2.2.2.1, r391.2.1, r391.2.2.1, r391.2.2.2, (w64 (s9.2.2.2.2.2.2.2.1 + r386.Move)), (w64 (s9.2.2.2.2.2.2.2.2 + 1))))))) (fun (r : Option (((List Int) × (List Grecord) × Int × Int) × Bool × Int)) => some (.inr (.ret r)))))))

noncomputable def F_impl_tracked (p0 : GMachine) (p1 : Int) : Option (((List Int) × (List Grecord) × Int × Int) × Bool × Int) :=
  bnd (F_impl_runnerOf p0 (⟨0, ([] : (List Int)), ([] : (List Int))⟩ : GConfig)) fun r6 => bnd (run (F_impl_tracked_L1 p1 r6) (([] : (List Int)), ([] : (List Grecord)), 0, 0, r6.2.2.2.1, r6.2.2.2.2.1, r6.2.2.2.2.2, 0, 0)) (Out.elim (fun (s9 : (List Int) × (List Grecord) × Int × Int × Int × (List Int) × (List Int) × Int × Int) => none) (fun (r : Option (((List Int) × (List Grecord) × Int × Int) × Bool × Int)) => r))

noncomputable def F_impl_CellsVisited (p0 : GMachine) (p1 : Int) : Option (Int × Int) :=
  bnd (F_impl_budgeted p0 p1) fun r2 => (cond (decide (r2 ≠ 0)) (some (0, r2)) (bnd (F_impl_tracked p0 p1) fun r5 => (cond (decide (r5.2.2 ≠ 0)) (some (0, r5.2.2)) (some ((w64 ((w64 (r5.1.2.2.2 - r5.1.2.2.1)) + 1)), 0)))))

noncomputable def F_impl_RecordsOf_L1 (r5 : ((List Int) × (List Grecord) × Int × Int) × Bool × Int) (s10 : (List (List Int)) × Int) : Option (((List (List Int)) × Int) ⊕ Out ((List (List Int)) × Int) ((List (List Int)) × Int)) :=
  (cond (decide (s10.2 < (r5.1.2.1.length : Int))) (bnd (idx r5.1.2.1 s10.2) fun y13 => bnd (app s10.1 ([([y13.steps, y13.side, y13.Config_State] : List Int)] : List (List Int))) fun z21 => some (.inl (z21, (w64 (s10.2 + 1))))) (some (.inr (.brk (s10.1, s10.2)))))

noncomputable def F_impl_RecordsOf (p0 : GMachine) (p1 : Int) : Option ((List (List Int)) × Int) :=
  bnd (F_impl_budgeted p0 p1) fun r2 => (cond (decide (r2 ≠ 0)) (some (([] : (List (List Int))), r2)) (bnd (F_impl_tracked p0 p1) fun r5 => (cond (decide (r5.2.2 ≠ 0)) (some (([] : (List (List Int))), r5.2.2)) (bnd (run (F_impl_RecordsOf_L1 r5) (([] : List (List Int)), 0)) (Out.elim (fun (s10 : (List (List Int)) × Int) => some (s10.1, 0)) (fun (r : (List (List Int)) × Int) => some r))))))

noncomputable def F_impl_HeadTrack (p0 : GMachine) (p1 : Int) : Option ((List Int) × Int) :=
  bnd (F_impl_ValidMachine p0) fun r2 => (cond (!r2) (some (([] : (List Int)), 1)) (bnd (F_impl_within p1 0 60) fun r5 => (cond (!r5) (some (([] : (List Int)), 2)) (bnd (F_impl_tracked p0 p1) fun r8 => (cond (decide (r8.2.2 ≠ 0)) (some (([] : (List Int)), r8.2.2)) (some (r8.1.1, 0)))))))

noncomputable def F_laws_FnMeasured_L1 (r31 : (List Int) × Int) (s41 : Int × Int × Int) : Option ((Int × Int × Int) ⊕ Out (Int × Int × Int) Bool) :=
  (cond (decide (s41.2.2 < (r31.1.length : Int))) (bnd (idx r31.1 s41.2.2) fun y44 => bnd (idx r31.1 s41.2.2) fun y49 => some (.inl ((if y44 < s41.1 then y44 else s41.1), (if y49 > s41.2.1 then y49 else s41.2.1), (w64 (s41.2.2 + 1))))) (some (.inr (.brk (s41.1, s41.2.1, s41.2.2)))))

noncomputable def F_laws_FnMeasured_L2 (r28 : (List (List Int)) × Int) (r31 : (List Int) × Int) (s59 : Int) : Option ((Int) ⊕ Out (Int) Bool) :=
  (cond (decide (s59 < (r28.1.length : Int))) (bnd (bnd (idx r28.1 s59) fun y64 => (cond (decide ((y64.length : Int) ≠ 3)) (some (.ret false)) (bnd (idx r28.1 s59) fun y69 => bnd (idx y69 0) fun y73 => (cond (decide (y73 < 1)) (some (.ret false)) (bnd (idx r28.1 s59) fun y78 => bnd (idx y78 0) fun y82 => (cond (decide ((r31.1.length : Int) ≤ y82)) (some (.ret false)) (some (.brk ()))))))) : Option (Out (Unit) Bool)) (Out.elim (fun (s62 : Unit) => bnd (idx r28.1 s59) fun y87 => bnd (idx y87 0) fun y91 => bnd (idx r31.1 y91) fun y95 => bnd (idx r28.1 s59) fun y99 => bnd (idx y99 1) fun y103 => (cond (decide ((w64 (y95 * y103)) ≤ 0)) (some (.inr (.ret false))) (cond (decide (0 < s59)) (bnd (idx r28.1 (w64 (s59 - 1))) fun y109 => bnd (idx y109 0) fun y113 => bnd (idx r28.1 s59) fun y117 => bnd (idx y117 0) fun y121 => (cond (decide (y121 ≤ y113)) (some (.inr (.ret false))) (some (.inl (w64 (s59 + 1)))))) (some (.inl (w64 (s59 + 1))))))) (fun (r : Bool) => some (.inr (.ret r))))) (some (.inr (.brk s59))))

noncomputable def F_laws_FnMeasured (p0 : (List (Ik .u8))) (p1 : (List (Ik .u8))) : Option (Bool) :=
  bnd (F_laws_r8Long p0 p1) fun r1 => (cond r1 (some true) (bnd (F_spec_R8Runner p0) fun r4 => bnd (F_spec_R8Budget p1 50) fun r8 => bnd (bnd F_laws_r8Blank fun r15 => bnd (F_impl_MeasureRun r4 r15 r8) fun r18 => some (.brk (r18.1.Steps, r18.1.Halts, r18.1.Space, r18.1.Least, r18.1.Greatest, r18.1.Changes, r18.1.Turns, r18.1.Marks, r18.2)) : Option (Out (Int × Bool × Int × Int × Int × Int × Int × Int × Int) Bool)) (Out.elim (fun (s10 : Int × Bool × Int × Int × Int × Int × Int × Int × Int) => bnd (F_impl_CellsVisited r4 r8) fun r26 => bnd (F_impl_RecordsOf r4 r8) fun r28 => bnd (F_impl_HeadTrack r4 r8) fun r31 => bnd ((cond (decide (s10.2.2.2.2.2.2.2.2 ≠ 0)) (some (.ret false)) (cond (decide (r26.2 ≠ 0)) (some (.ret false)) (cond (decide (r28.2 ≠ 0)) (some (.ret false)) (cond (decide (r31.2 ≠ 0)) (some (.ret false)) (cond (decide ((r31.1.length : Int) = 0)) (some (.ret false)) (some (.brk ()))))))) : Option (Out (Unit) Bool)) (Out.elim (fun (s34 : Unit) => bnd (run (F_laws_FnMeasured_L1 r31) (0, 0, 0)) (Out.elim (fun (s41 : Int × Int × Int) => bnd ((cond (decide (s10.2.2.2.1 ≠ s41.1)) (some (.ret false)) (cond (decide (s10.2.2.2.2.1 ≠ s41.2.1)) (some (.ret false)) (cond (decide (s10.1 ≠ (w64 ((r31.1.length : Int) - 1)))) (some (.ret false)) (cond (decide (r26.1 ≠ (w64 ((w64 (s41.2.1 - s41.1)) + 1)))) (some (.ret false)) (cond (decide ((r28.1.length : Int) ≠ (w64 (r26.1 - 1)))) (some (.ret false)) (some (.brk ()))))))) : Option (Out (Unit) Bool)) (Out.elim (fun (s52 : Unit) => bnd (run (F_laws_FnMeasured_L2 r28 r31) 0) (Out.elim (fun (s59 : Int) => some true) (fun (r : Bool) => some r))) (fun (r : Bool) => some r))) (fun (r : Bool) => some r))) (fun (r : Bool) => some r))) (fun (r : Bool) => some r))))

end Go.Fn
