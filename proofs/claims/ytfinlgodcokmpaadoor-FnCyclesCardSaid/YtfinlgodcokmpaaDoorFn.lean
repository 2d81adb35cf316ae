/-
  What each function of the program computes, as a plain Lean function: printed by program off the translation. No condition.
-/
import Derived.Test.YtfinlgodcokmpaaDoorTy
namespace Go.Fn
open Go Go.Tc
set_option linter.unusedVariables false

noncomputable def F_laws_r8Long (p0 : (List (Ik .u8))) (p1 : (List (Ik .u8))) : Option (Bool) :=
  (cond (decide (1048576 < (p0.length : Int))) (some true) (some (decide (1048576 < (p1.length : Int)))))


noncomputable def F_spec_l00From (p0 : (List (Ik .u8))) : Option (((List (Ik .u8)) × Int × (Ik .u64))) :=
  some (p0, 0, (⟨0⟩ : Ik .u64))


noncomputable def F_spec_l00Src_next (p0 : Gl00Src) : Option ((Int) × (Int × (Ik .u64))) :=
  bnd ((cond (decide (p0.at_ < (p0.code.length : Int))) (bnd (idx p0.code p0.at_) fun y4 => some (.brk (w64 y4.val))) (some (.brk 0))) : Option (Out (Int) ((Int) × (Int × (Ik .u64))))) (Out.elim (fun (s1 : Int) => (cond (decide ((w64 (p0.at_ + 1)) ≤ (p0.code.length : Int))) (some (s1, ((w64 (p0.at_ + 1)), (⟨(wk .u64 ((wk .u64 ((wk .u64 (p0.seed.val * 6364136223846793005)) + (wk .u64 s1))) + 1442695040888963407))⟩ : Ik .u64)))) (some ((w64 (kand .u64 (Int.fdiv (wk .u64 ((wk .u64 ((wk .u64 (p0.seed.val * 6364136223846793005)) + (wk .u64 s1))) + 1442695040888963407)) (2 ^ min (40 : Int).toNat (IntKind.bits .u64))) 255)), ((w64 (p0.at_ + 1)), (⟨(wk .u64 ((wk .u64 ((wk .u64 (p0.seed.val * 6364136223846793005)) + (wk .u64 s1))) + 1442695040888963407))⟩ : Ik .u64)))))) (fun (r : (Int) × (Int × (Ik .u64))) => some r))


noncomputable def F_spec_l00Src_pick (p0 : Gl00Src) (p1 : Int) : Option ((Int) × (Int × (Ik .u64))) :=
  (cond (decide (p1 ≤ 1)) (some (0, (p0.at_, p0.seed))) (bnd (F_spec_l00Src_next p0) fun r2 => (cond (decide (200 < p1)) (bnd (F_spec_l00Src_next (⟨p0.code, r2.2.1, r2.2.2⟩ : Gl00Src)) fun r5 => bnd (nz p1) fun u7 => some ((Int.tmod (w64 ((w64 (r2.1 * 256)) + r5.1)) p1), (r5.2.1, r5.2.2))) (bnd (nz p1) fun u9 => some ((Int.tmod r2.1 p1), (r2.2.1, r2.2.2))))))


noncomputable def F_spec_l00Src_text (p0 : Gl00Src) (p1 : (List ByteArray)) : Option ((ByteArray) × (Int × (Ik .u64))) :=
  bnd (F_spec_l00Src_pick p0 (p1.length : Int)) fun r1 => bnd (idx p1 r1.1) fun y3 => some (y3, (r1.2.1, r1.2.2))

noncomputable def F_spec_l01Split_L1 (p0 : ByteArray) (p1 : (Ik .u8)) (s2 : (List ByteArray) × Int × Int) : Option (((List ByteArray) × Int × Int) ⊕ Out ((List ByteArray) × Int × Int) (List ByteArray)) :=
  (cond (decide (s2.2.2 < (p0.size : Int))) (bnd (bidx p0 s2.2.2) fun y5 => (cond (decide (y5 = p1.val)) (bnd (bslc p0 s2.2.1 s2.2.2) fun z8 => bnd (app s2.1 ([z8] : List ByteArray)) fun z11 => some (.inl (z11, (w64 (s2.2.2 + 1)), (w64 (s2.2.2 + 1))))) (some (.inl (s2.1, s2.2.1, (w64 (s2.2.2 + 1))))))) (some (.inr (.brk (s2.1, s2.2.1, s2.2.2)))))

noncomputable def F_spec_l01Split (p0 : ByteArray) (p1 : (Ik .u8)) : Option ((List ByteArray)) :=
  bnd (run (F_spec_l01Split_L1 p0 p1) (([] : List ByteArray), 0, 0)) (Out.elim (fun (s2 : (List ByteArray) × Int × Int) => bnd (bslc p0 s2.2.1 (p0.size : Int)) fun z14 => bnd (app s2.1 ([z14] : List ByteArray)) fun z17 => some z17) (fun (r : (List ByteArray)) => some r))


noncomputable def F_spec_l05None : Option (GRule) :=
  some (⟨0, 0, (-1)⟩ : GRule)


noncomputable def F_spec_l01Digit (p0 : (Ik .u8)) : Option (Bool) :=
  (cond (decide (48 ≤ p0.val)) (some (decide (p0.val ≤ 57))) (some false))

noncomputable def F_spec_l01Number_L1 (p0 : ByteArray) (s15 : Int × Int) : Option ((Int × Int) ⊕ Out (Int × Int) (Int × Bool)) :=
  (cond (decide (s15.2 < (p0.size : Int))) (bnd (bidx p0 s15.2) fun y18 => bnd (F_spec_l01Digit (⟨y18⟩ : Ik .u8)) fun r20 => (cond (!r20) (some (.inr (.ret (0, false)))) (bnd (bidx p0 s15.2) fun y23 => some (.inl ((w64 ((w64 (10 * s15.1)) + (w64 (wk .u8 (y23 - 48))))), (w64 (s15.2 + 1))))))) (some (.inr (.brk (s15.1, s15.2)))))

noncomputable def F_spec_l01Number (p0 : ByteArray) : Option (Int × Bool) :=
  bnd ((cond (decide (0 < (p0.size : Int))) (bnd (bidx p0 0) fun y4 => (cond (decide (y4 = 45)) (some (.brk 1)) (some (.brk 0)))) (some (.brk 0))) : Option (Out (Int) (Int × Bool))) (Out.elim (fun (s1 : Int) => bnd ((cond (decide ((p0.size : Int) = s1)) (some (.ret (0, false))) (cond (decide (18 < (w64 ((p0.size : Int) - s1)))) (some (.ret (0, false))) (bnd (bidx p0 s1) fun y11 => (cond (decide (y11 = 48)) (cond (decide (1 < (p0.size : Int))) (some (.ret (0, false))) (some (.brk ()))) (some (.brk ())))))) : Option (Out (Unit) (Int × Bool))) (Out.elim (fun (s7 : Unit) => bnd (run (F_spec_l01Number_L1 p0) (0, s1)) (Out.elim (fun (s15 : Int × Int) => (cond (decide (s1 = 1)) (some ((w64 (0 - s15.1)), true)) (some (s15.1, true)))) (fun (r : Int × Bool) => some r))) (fun (r : Int × Bool) => some r))) (fun (r : Int × Bool) => some r))


noncomputable def F_spec_l05ReadRule (p0 : ByteArray) : Option (GRule × Bool) :=
  (cond (p0.toList == (⟨#[45, 45, 45]⟩ : ByteArray).toList) (bnd F_spec_l05None fun r3 => some (r3, true)) (bnd ((cond (decide ((p0.size : Int) < 3)) (some (.ret ((⟨0, 0, 0⟩ : GRule), false))) (bnd (bidx p0 0) fun y8 => bnd (F_spec_l01Digit (⟨y8⟩ : Ik .u8)) fun r10 => (cond (!r10) (some (.ret ((⟨0, 0, 0⟩ : GRule), false))) (bnd (bidx p0 1) fun y13 => (cond (decide (y13 ≠ 76)) (bnd (bidx p0 1) fun y16 => (cond (decide (y16 ≠ 82)) (some (.ret ((⟨0, 0, 0⟩ : GRule), false))) (some (.brk ())))) (some (.brk ()))))))) : Option (Out (Unit) (GRule × Bool))) (Out.elim (fun (s5 : Unit) => bnd (bslc p0 2 (p0.size : Int)) fun z19 => bnd (F_spec_l01Number z19) fun r21 => bnd (bidx p0 0) fun y23 => bnd (bidx p0 1) fun y26 => (cond (decide (y26 = 76)) (cond r21.2 (some ((⟨(w64 (wk .u8 (y23 - 48))), (-1), r21.1⟩ : GRule), (decide (0 ≤ r21.1)))) (some ((⟨(w64 (wk .u8 (y23 - 48))), (-1), r21.1⟩ : GRule), false))) (cond r21.2 (some ((⟨(w64 (wk .u8 (y23 - 48))), 1, r21.1⟩ : GRule), (decide (0 ≤ r21.1)))) (some ((⟨(w64 (wk .u8 (y23 - 48))), 1, r21.1⟩ : GRule), false))))) (fun (r : GRule × Bool) => some r))))


noncomputable def F_spec_l00In (p0 : Int) (p1 : Int) (p2 : Int) : Option (Bool) :=
  (cond (decide (p1 ≤ p0)) (some (decide (p0 ≤ p2))) (some false))


noncomputable def F_spec_l05Rule (p0 : GRule) (p1 : Int) (p2 : Int) : Option (Bool) :=
  bnd F_spec_l05None fun r5 => (cond (decide (p0 = r5)) (some true) (bnd (F_spec_l00In p0.Write 0 (w64 (p1 - 1))) fun r8 => (cond r8 (cond (decide (p0.Move = 1)) (bnd (F_spec_l00In p0.Next 0 (w64 (p2 - 1))) fun r12 => some r12) (cond (decide (p0.Move = (-1))) (bnd (F_spec_l00In p0.Next 0 (w64 (p2 - 1))) fun r15 => some r15) (some false))) (some false))))

noncomputable def F_spec_l05Is_L1 (p0 : GMachine) (s31 : Int) : Option ((Int) ⊕ Out (Int) Bool) :=
  (cond (decide (s31 < (p0.Rules.length : Int))) (bnd (idx p0.Rules s31) fun y38 => bnd (F_spec_l05Rule y38 p0.Symbols p0.States) fun r49 => (cond (!r49) (some (.inr (.ret false))) (some (.inl (w64 (s31 + 1)))))) (some (.inr (.brk s31))))

noncomputable def F_spec_l05Is (p0 : GMachine) : Option (Bool) :=
  bnd (bnd (F_spec_l00In p0.Symbols 2 6) fun r8 => (cond (!r8) (some (.ret false)) (bnd (F_spec_l00In p0.States 1 1000) fun r15 => (cond (!r15) (some (.ret false)) (cond (decide ((p0.Rules.length : Int) ≠ (w64 (p0.Symbols * p0.States)))) (some (.ret false)) (some (.brk ())))))) : Option (Out (Unit) Bool)) (Out.elim (fun (s1 : Unit) => bnd (run (F_spec_l05Is_L1 p0) 0) (Out.elim (fun (s31 : Int) => some true) (fun (r : Bool) => some r))) (fun (r : Bool) => some r))

noncomputable def F_spec_l05Read_L2 (r21 : (List ByteArray)) (s28 : (List GRule) × Int) : Option (((List GRule) × Int) ⊕ Out ((List GRule) × Int) (GMachine × Bool)) :=
  (cond (decide (s28.2 < (r21.length : Int))) (bnd (idx r21 s28.2) fun y31 => bnd (F_spec_l05ReadRule y31) fun r36 => (cond (!r36.2) (some (.inr (.ret ((⟨0, 0, ([] : (List GRule))⟩ : GMachine), false)))) (bnd (app s28.1 ([r36.1] : List GRule)) fun z41 => some (.inl (z41, (w64 (s28.2 + 1))))))) (some (.inr (.brk (s28.1, s28.2)))))

noncomputable def F_spec_l05Read_L1 (r2 : (List ByteArray)) (r11 : (List ByteArray)) (s15 : (List GRule) × Int) : Option (((List GRule) × Int) ⊕ Out ((List GRule) × Int) (GMachine × Bool)) :=
  (cond (decide (s15.2 < (r2.length : Int))) (bnd (idx r2 s15.2) fun y18 => bnd (F_spec_l01Split y18 (⟨44⟩ : Ik .u8)) fun r21 => bnd ((cond (decide ((r21.length : Int) ≠ (r11.length : Int))) (some (.ret ((⟨0, 0, ([] : (List GRule))⟩ : GMachine), false))) (cond (decide (6 < (r11.length : Int))) (some (.ret ((⟨0, 0, ([] : (List GRule))⟩ : GMachine), false))) (some (.brk ())))) : Option (Out (Unit) (GMachine × Bool))) (Out.elim (fun (s24 : Unit) => bnd (run (F_spec_l05Read_L2 r21) (s15.1, 0)) (Out.elim (fun (s28 : (List GRule) × Int) => some (.inl (s28.1, (w64 (s15.2 + 1))))) (fun (r : GMachine × Bool) => some (.inr (.ret r))))) (fun (r : GMachine × Bool) => some (.inr (.ret r))))) (some (.inr (.brk (s15.1, s15.2)))))

noncomputable def F_spec_l05Read (p0 : ByteArray) : Option (GMachine × Bool) :=
  bnd (F_spec_l01Split p0 (⟨59⟩ : Ik .u8)) fun r2 => (cond (decide (1000 < (r2.length : Int))) (some ((⟨0, 0, ([] : (List GRule))⟩ : GMachine), false)) (bnd (idx r2 0) fun y6 => bnd (F_spec_l01Split y6 (⟨44⟩ : Ik .u8)) fun r11 => bnd (run (F_spec_l05Read_L1 r2 r11) (([] : (List GRule)), 0)) (Out.elim (fun (s15 : (List GRule) × Int) => bnd (F_spec_l05Is (⟨(r11.length : Int), (r2.length : Int), s15.1⟩ : GMachine)) fun r44 => (cond (!r44) (some ((⟨0, 0, ([] : (List GRule))⟩ : GMachine), false)) (some ((⟨(r11.length : Int), (r2.length : Int), s15.1⟩ : GMachine), true)))) (fun (r : GMachine × Bool) => some r))))


noncomputable def F_spec_l05Known (p0 : Gl00Src) : Option ((GMachine) × (Int × (Ik .u64))) :=
  bnd (F_spec_l00Src_text p0 ([(⟨#[49, 82, 49, 44, 49, 76, 49, 59, 49, 76, 48, 44, 45, 45, 45]⟩ : ByteArray), (⟨#[49, 82, 49, 44, 45, 45, 45, 59, 49, 76, 49, 44, 48, 82, 50, 59, 49, 76, 50, 44, 49, 76, 48]⟩ : ByteArray), (⟨#[49, 82, 49, 44, 49, 76, 49, 59, 49, 76, 48, 44, 48, 76, 50, 59, 45, 45, 45, 44, 49, 76, 51, 59, 49, 82, 51, 44, 48, 82, 48]⟩ : ByteArray), (⟨#[49, 82, 48, 44, 45, 45, 45]⟩ : ByteArray), (⟨#[49, 82, 49, 44, 48, 82, 48, 59, 49, 76, 48, 44, 49, 82, 49]⟩ : ByteArray), (⟨#[49, 82, 49, 44, 50, 76, 49, 44, 45, 45, 45, 59, 50, 76, 48, 44, 50, 82, 49, 44, 49, 76, 49]⟩ : ByteArray), (⟨#[49, 76, 48, 44, 49, 82, 49, 59, 49, 82, 48, 44, 48, 76, 49]⟩ : ByteArray), (⟨#[49, 82, 49, 44, 49, 82, 48, 59, 49, 76, 48, 44, 49, 76, 49]⟩ : ByteArray)] : List ByteArray)) fun r3 => bnd (F_spec_l05Read r3.1) fun r5 => some (r5.1, (r3.2.1, r3.2.2))


noncomputable def F_spec_l00Src_one (p0 : Gl00Src) (p1 : Int) : Option ((Bool) × (Int × (Ik .u64))) :=
  bnd (F_spec_l00Src_pick p0 p1) fun r1 => some ((decide (r1.1 = 0)), (r1.2.1, r1.2.2))

noncomputable def F_spec_l05DrawSize_L1 (p0 : Gl00Src) (p1 : Int) (p2 : Int) (s3 : Int × (Ik .u64) × (List GRule) × Int) : Option ((Int × (Ik .u64) × (List GRule) × Int) ⊕ Out (Int × (Ik .u64) × (List GRule) × Int) ((GMachine) × (Int × (Ik .u64)))) :=
  (cond (decide (0 < s3.2.2.2)) (bnd (F_spec_l00Src_pick (⟨p0.code, s3.1, s3.2.1⟩ : Gl00Src) p1) fun r6 => bnd (F_spec_l00Src_pick (⟨p0.code, r6.2.1, r6.2.2⟩ : Gl00Src) 2) fun r8 => bnd (F_spec_l00Src_pick (⟨p0.code, r8.2.1, r8.2.2⟩ : Gl00Src) p2) fun r10 => bnd (F_spec_l00Src_one (⟨p0.code, r10.2.1, r10.2.2⟩ : Gl00Src) 7) fun r13 => (cond r13.1 (bnd F_spec_l05None fun r16 => bnd (app s3.2.2.1 ([r16] : List GRule)) fun z19 => some (.inl (r13.2.1, r13.2.2, z19, (w64 (s3.2.2.2 - 1))))) (bnd (app s3.2.2.1 ([(⟨r6.1, (w64 ((w64 (2 * r8.1)) - 1)), r10.1⟩ : GRule)] : List GRule)) fun z23 => some (.inl (r13.2.1, r13.2.2, z23, (w64 (s3.2.2.2 - 1))))))) (some (.inr (.brk (s3.1, s3.2.1, s3.2.2.1, s3.2.2.2)))))

noncomputable def F_spec_l05DrawSize (p0 : Gl00Src) (p1 : Int) (p2 : Int) : Option ((GMachine) × (Int × (Ik .u64))) :=
  bnd (run (F_spec_l05DrawSize_L1 p0 p1 p2) (p0.at_, p0.seed, ([] : (List GRule)), (w64 (p1 * p2)))) (Out.elim (fun (s3 : Int × (Ik .u64) × (List GRule) × Int) => some ((⟨p1, p2, s3.2.2.1⟩ : GMachine), (s3.1, s3.2.1))) (fun (r : (GMachine) × (Int × (Ik .u64))) => some r))


noncomputable def F_spec_l27DrawMachine (p0 : Gl00Src) : Option ((GMachine) × (Int × (Ik .u64))) :=
  bnd (F_spec_l00Src_pick p0 3) fun r2 => (cond (decide (0 < r2.1)) (bnd (F_spec_l00Src_text (⟨p0.code, r2.2.1, r2.2.2⟩ : Gl00Src) ([(⟨#[49, 76, 49, 44, 49, 82, 48, 59, 49, 82, 48, 44, 49, 76, 49]⟩ : ByteArray), (⟨#[49, 76, 49, 44, 48, 82, 48, 59, 49, 82, 48, 44, 49, 76, 49]⟩ : ByteArray), (⟨#[48, 76, 49, 44, 49, 82, 48, 59, 49, 82, 48, 44, 49, 76, 49]⟩ : ByteArray), (⟨#[49, 82, 49, 44, 49, 82, 48, 59, 48, 76, 50, 44, 49, 82, 49, 59, 49, 82, 48, 44, 49, 76, 50]⟩ : ByteArray), (⟨#[49, 76, 49, 44, 49, 82, 48, 59, 49, 82, 48, 44, 48, 76, 49]⟩ : ByteArray), (⟨#[49, 76, 49, 44, 49, 82, 48, 59, 48, 82, 50, 44, 49, 76, 49, 59, 49, 82, 48, 44, 49, 82, 50]⟩ : ByteArray), (⟨#[49, 82, 49, 44, 49, 76, 50, 59, 49, 76, 48, 44, 49, 82, 49, 59, 49, 82, 48, 44, 48, 76, 50]⟩ : ByteArray)] : List ByteArray)) fun r6 => bnd (F_spec_l05Read r6.1) fun r8 => some (r8.1, (r6.2.1, r6.2.2))) (bnd (F_spec_l00Src_pick (⟨p0.code, r2.2.1, r2.2.2⟩ : Gl00Src) 2) fun r12 => bnd (F_spec_l05DrawSize (⟨p0.code, r12.2.1, r12.2.2⟩ : Gl00Src) 2 (w64 (2 + r12.1))) fun r14 => some (r14.1, (r14.2.1, r14.2.2))))


noncomputable def F_spec_l25DrawMachine (p0 : Gl00Src) : Option ((GMachine) × (Int × (Ik .u64))) :=
  bnd (F_spec_l00Src_one p0 3) fun r2 => (cond r2.1 (bnd (F_spec_l00Src_text (⟨p0.code, r2.2.1, r2.2.2⟩ : Gl00Src) ([(⟨#[49, 82, 48, 44, 49, 82, 48]⟩ : ByteArray), (⟨#[48, 82, 48, 44, 48, 82, 48]⟩ : ByteArray), (⟨#[49, 76, 48, 44, 48, 82, 48]⟩ : ByteArray), (⟨#[49, 82, 49, 44, 45, 45, 45, 59, 49, 76, 48, 44, 48, 82, 49]⟩ : ByteArray), (⟨#[49, 82, 49, 44, 48, 76, 48, 59, 49, 76, 48, 44, 49, 82, 49]⟩ : ByteArray), (⟨#[48, 76, 49, 44, 49, 82, 48, 59, 49, 82, 48, 44, 48, 76, 49]⟩ : ByteArray), (⟨#[49, 82, 49, 44, 48, 82, 49, 59, 49, 76, 48, 44, 48, 76, 48]⟩ : ByteArray), (⟨#[49, 76, 49, 44, 49, 76, 49, 59, 49, 82, 48, 44, 48, 82, 48]⟩ : ByteArray), (⟨#[49, 82, 49, 44, 49, 76, 49, 59, 48, 76, 48, 44, 48, 82, 49]⟩ : ByteArray)] : List ByteArray)) fun r6 => bnd (F_spec_l05Read r6.1) fun r8 => some (r8.1, (r6.2.1, r6.2.2))) (bnd (F_spec_l00Src_pick (⟨p0.code, r2.2.1, r2.2.2⟩ : Gl00Src) 3) fun r12 => bnd (F_spec_l05DrawSize (⟨p0.code, r12.2.1, r12.2.2⟩ : Gl00Src) 2 (w64 (1 + r12.1))) fun r14 => some (r14.1, (r14.2.1, r14.2.2))))


noncomputable def F_spec_l31DrawMachine (p0 : Gl00Src) : Option ((GMachine) × (Int × (Ik .u64))) :=
  bnd (F_spec_l00Src_pick p0 4) fun r2 => (cond (decide (r2.1 = 0)) (bnd (F_spec_l05Known (⟨p0.code, r2.2.1, r2.2.2⟩ : Gl00Src)) fun r5 => some (r5.1, (r5.2.1, r5.2.2))) (cond (decide (r2.1 = 1)) (bnd (F_spec_l27DrawMachine (⟨p0.code, r2.2.1, r2.2.2⟩ : Gl00Src)) fun r9 => some (r9.1, (r9.2.1, r9.2.2))) (cond (decide (r2.1 = 2)) (bnd (F_spec_l25DrawMachine (⟨p0.code, r2.2.1, r2.2.2⟩ : Gl00Src)) fun r13 => some (r13.1, (r13.2.1, r13.2.2))) (bnd (F_spec_l00Src_pick (⟨p0.code, r2.2.1, r2.2.2⟩ : Gl00Src) 2) fun r16 => bnd (F_spec_l05DrawSize (⟨p0.code, r16.2.1, r16.2.2⟩ : Gl00Src) 2 (w64 (1 + r16.1))) fun r18 => some (r18.1, (r18.2.1, r18.2.2))))))


noncomputable def F_spec_R8Runner (p0 : (List (Ik .u8))) : Option (GMachine) :=
  bnd (F_spec_l00From p0) fun r2 => bnd (F_spec_l31DrawMachine (⟨r2.1, r2.2.1, r2.2.2⟩ : Gl00Src)) fun r5 => some r5.1


noncomputable def F_impl_within (p0 : Int) (p1 : Int) (p2 : Int) : Option (Bool) :=
  (cond (decide (p1 ≤ p0)) (some (decide (p0 ≤ p2))) (some false))


noncomputable def F_impl_size_impl_Rule (p0 : (List GRule)) : Option (Int) :=
  some (p0.length : Int)


noncomputable def F_impl_noRule : Option (GRule) :=
  some (⟨0, 0, (-1)⟩ : GRule)


noncomputable def F_impl_isRule (p0 : GRule) : Option (Bool) :=
  bnd F_impl_noRule fun r5 => some (!(decide (p0 = r5)))


noncomputable def F_impl_validRule (p0 : GMachine) (p1 : GRule) : Option (Bool) :=
  bnd (F_impl_isRule p1) fun r3 => (cond (!r3) (some true) (bnd (F_impl_within p1.Write 0 (w64 (p0.Symbols - 1))) fun r6 => (cond r6 (cond (decide (p1.Move = (-1))) (bnd (F_impl_within p1.Next 0 (w64 (p0.States - 1))) fun r10 => some r10) (cond (decide (p1.Move = 1)) (bnd (F_impl_within p1.Next 0 (w64 (p0.States - 1))) fun r13 => some r13) (some false))) (some false))))


noncomputable def F_impl_ValidMachine_1 (p0 : GRule) (p1 : GMachine) : Option (Bool) :=
  bnd (F_impl_validRule p1 p0) fun r3 => some (!r3)

noncomputable def F_slices_IndexFunc_Simpl_Rule_impl_Rule_L1 (p0 : (List GRule)) (p1 : (GRule → Option Bool)) (s1 : Int) : Option ((Int) ⊕ Out (Int) Int) :=
  (cond (decide (s1 < (p0.length : Int))) (bnd (idx p0 s1) fun y4 => bnd (p1 y4) fun r8 => (cond r8 (some (.inr (.ret s1))) (some (.inl (w64 (s1 + 1)))))) (some (.inr (.brk s1))))

noncomputable def F_slices_IndexFunc_Simpl_Rule_impl_Rule (p0 : (List GRule)) (p1 : (GRule → Option Bool)) : Option (Int) :=
  bnd (run (F_slices_IndexFunc_Simpl_Rule_impl_Rule_L1 p0 p1) 0) (Out.elim (fun (s1 : Int) => some (-1)) (fun (r : Int) => some r))


noncomputable def F_slices_ContainsFunc_Simpl_Rule_impl_Rule (p0 : (List GRule)) (p1 : (GRule → Option Bool)) : Option (Bool) :=
  bnd (F_slices_IndexFunc_Simpl_Rule_impl_Rule p0 p1) fun r1 => some (decide (0 ≤ r1))


noncomputable def F_impl_ValidMachine (p0 : GMachine) : Option (Bool) :=
  bnd (F_impl_within p0.Symbols 2 6) fun r5 => (cond (!r5) (some false) (bnd (F_impl_within p0.States 1 1000) fun r8 => (cond (!r8) (some false) (bnd (F_impl_size_impl_Rule p0.Rules) fun r11 => (cond (decide (r11 ≠ (w64 (p0.States * p0.Symbols)))) (some false) (bnd (F_slices_ContainsFunc_Simpl_Rule_impl_Rule p0.Rules (fun x_ => F_impl_ValidMachine_1 x_ p0)) fun r14 => some (!r14)))))))


noncomputable def F_impl_size_int64 (p0 : (List Int)) : Option (Int) :=
  some (p0.length : Int)

noncomputable def F_impl_allWithin_L1 (p0 : (List Int)) (p1 : Int) (p2 : Int) (s1 : Int) : Option ((Int) ⊕ Out (Int) Bool) :=
  (cond (decide (s1 < (p0.length : Int))) (bnd (idx p0 s1) fun y4 => bnd (F_impl_within y4 p1 p2) fun r8 => (cond (!r8) (some (.inr (.ret false))) (some (.inl (w64 (s1 + 1)))))) (some (.inr (.brk s1))))

noncomputable def F_impl_allWithin (p0 : (List Int)) (p1 : Int) (p2 : Int) : Option (Bool) :=
  bnd (run (F_impl_allWithin_L1 p0 p1 p2) 0) (Out.elim (fun (s1 : Int) => some true) (fun (r : Bool) => some r))


noncomputable def F_impl_validSide (p0 : (List Int)) (p1 : Int) (p2 : Int) : Option (Bool) :=
  bnd (F_impl_size_int64 p0) fun r1 => (cond (decide (r1 ≤ p2)) (bnd (F_impl_allWithin p0 0 (w64 (p1 - 1))) fun r4 => (cond r4 (cond (decide ((p0.length : Int) = 0)) (some true) (bnd (idx p0 (w64 ((p0.length : Int) - 1))) fun y8 => some (decide (y8 ≠ 0)))) (some false))) (some false))


noncomputable def F_impl_configOf (p0 : GMachine) (p1 : GConfig) : Option (Bool) :=
  bnd (F_impl_within p1.State 0 (w64 (p0.States - 1))) fun r3 => (cond r3 (bnd (F_impl_validSide p1.Left p0.Symbols 200) fun r6 => (cond r6 (bnd (F_impl_validSide p1.Right p0.Symbols 200) fun r9 => some r9) (some false))) (some false))


noncomputable def F_impl_ValidConfig (p0 : GMachine) (p1 : GConfig) : Option (Bool) :=
  bnd (F_impl_ValidMachine p0) fun r3 => (cond r3 (bnd (F_impl_configOf p0 p1) fun r6 => some r6) (some false))


noncomputable def F_impl_budgetOk (p0 : Int) : Option (Bool) :=
  bnd (F_impl_within p0 1 20000) fun r1 => some r1


noncomputable def F_impl_runCode (p0 : GMachine) (p1 : GConfig) (p2 : Int) : Option (Int) :=
  bnd (F_impl_ValidConfig p0 p1) fun r3 => (cond (!r3) (some 1) (bnd (F_impl_budgetOk p2) fun r6 => (cond (!r6) (some 2) (some 0))))


noncomputable def F_impl_budgeted (p0 : GMachine) (p1 : Int) : Option (Int) :=
  bnd (F_impl_runCode p0 (⟨0, ([] : (List Int)), ([] : (List Int))⟩ : GConfig) p1) fun r2 => some r2


noncomputable def F_slices_Clone_Sint64_int64 (p0 : (List Int)) : Option ((List Int)) :=
  bnd (app ([] : List Int) p0) fun z3 => some z3

noncomputable def F_impl_reversed_L1 (s5 : (List Int) × Int × Int) : Option (((List Int) × Int × Int) ⊕ Out ((List Int) × Int × Int) (Option ((List Int)))) :=
  (cond (decide (s5.2.1 < s5.2.2)) (bnd (idx s5.1 s5.2.2) fun y8 => bnd (idx s5.1 s5.2.1) fun y12 => bnd (idx s5.1 s5.2.1) fun y19 => bnd (idx (s5.1.set s5.2.1.toNat y8) s5.2.2) fun y21 => some (.inl (((s5.1.set s5.2.1.toNat y8).set s5.2.2.toNat y12), (w64 (s5.2.1 + 1)), (w64 (s5.2.2 - 1))))) (some (.inr (.brk (s5.1, s5.2.1, s5.2.2)))))

noncomputable def F_impl_reversed (p0 : (List Int)) : Option ((List Int)) :=
  bnd (F_slices_Clone_Sint64_int64 p0) fun r1 => bnd (run (F_impl_reversed_L1) (r1, 0, (w64 ((r1.length : Int) - 1)))) (Out.elim (fun (s5 : (List Int) × Int × Int) => some s5.1) (fun (r : Option ((List Int))) => r))


noncomputable def F_impl_runnerOf (p0 : GMachine) (p1 : GConfig) : Option ((Int × Int × (List GRule) × Int × (List Int) × (List Int))) :=
  bnd (F_impl_reversed p1.Left) fun r6 => bnd (F_impl_reversed p1.Right) fun r9 => some (p0.Symbols, p0.States, p0.Rules, p1.State, r6, r9)


noncomputable def F_impl_blankRun (p0 : GMachine) : Option ((Int × Int × (List GRule) × Int × (List Int) × (List Int))) :=
  bnd (F_impl_runnerOf p0 (⟨0, ([] : (List Int)), ([] : (List Int))⟩ : GConfig)) fun r2 => some (r2.1, r2.2.1, r2.2.2.1, r2.2.2.2.1, r2.2.2.2.2.1, r2.2.2.2.2.2)


noncomputable def F_impl_nearest (p0 : (List Int)) : Option (Int) :=
  (cond (decide ((p0.length : Int) = 0)) (some 0) (bnd (idx p0 (w64 ((p0.length : Int) - 1))) fun y2 => some y2))


noncomputable def F_impl_runner_symbol (p0 : Grunner) : Option (Int) :=
  bnd (F_impl_nearest p0.right) fun r3 => some r3


noncomputable def F_impl_runner_at (p0 : Grunner) : Option (Int) :=
  bnd (F_impl_runner_symbol p0) fun r9 => some (w64 ((w64 (p0.state * (⟨p0.m_Symbols, p0.m_States, p0.m_Rules⟩ : GMachine).Symbols)) + r9))


noncomputable def F_impl_runner_rule (p0 : Grunner) : Option (GRule) :=
  bnd (F_impl_runner_at p0) fun r8 => bnd (idx ((⟨p0.m_Symbols, p0.m_States, p0.m_Rules⟩ : GMachine).Rules) r8) fun y10 => some y10


noncomputable def F_impl_runner_halts (p0 : Grunner) : Option (Bool) :=
  bnd (F_impl_runner_rule p0) fun r1 => bnd (F_impl_isRule r1) fun r3 => some (!r3)


noncomputable def F_impl_pop (p0 : (List Int)) : Option ((List Int)) :=
  bnd (slc p0 0 (if (w64 ((p0.length : Int) - 1)) > 0 then (w64 ((p0.length : Int) - 1)) else 0)) fun z1 => some z1


noncomputable def F_impl_runner_step (p0 : Grunner) : Option ((Bool) × (Int × (List Int) × (List Int))) :=
  bnd (F_impl_runner_rule p0) fun r1 => bnd (slc p0.right 0 (if (w64 ((p0.right.length : Int) - 1)) > 0 then (w64 ((p0.right.length : Int) - 1)) else 0)) fun z5 => bnd ((cond (decide (0 < r1.Move)) (cond (decide (r1.Write = 0)) (cond (decide ((p0.left.length : Int) = 0)) (some (.brk (p0.left, z5))) (bnd (app p0.left ([r1.Write] : List Int)) fun z19 => some (.brk (z19, z5)))) (bnd (app p0.left ([r1.Write] : List Int)) fun z23 => some (.brk (z23, z5)))) (bnd ((cond (decide (r1.Write = 0)) (cond (decide ((z5.length : Int) = 0)) (bnd (F_impl_nearest p0.left) fun r35 => (cond (decide (r35 = 0)) (some (.brk z5)) (bnd (app z5 ([r35] : List Int)) fun z41 => some (.brk z41)))) (bnd (app z5 ([r1.Write] : List Int)) fun z45 => bnd (F_impl_nearest p0.left) fun r48 => (cond (decide (r48 = 0)) (cond (decide ((z45.length : Int) = 0)) (some (.brk z45)) (bnd (app z45 ([r48] : List Int)) fun z55 => some (.brk z55))) (bnd (app z45 ([r48] : List Int)) fun z59 => some (.brk z59))))) (bnd (app z5 ([r1.Write] : List Int)) fun z63 => bnd (F_impl_nearest p0.left) fun r66 => (cond (decide (r66 = 0)) (cond (decide ((z63.length : Int) = 0)) (some (.brk z63)) (bnd (app z63 ([r66] : List Int)) fun z73 => some (.brk z73))) (bnd (app z63 ([r66] : List Int)) fun z77 => some (.brk z77))))) : Option (Out ((List Int)) ((Bool) × (Int × (List Int) × (List Int))))) (Out.elim (fun (s26 : (List Int)) => bnd (slc p0.left 0 (if (w64 ((p0.left.length : Int) - 1)) > 0 then (w64 ((p0.left.length : Int) - 1)) else 0)) fun z179 => some (.brk (z179, s26))) (fun (r : (Bool) × (Int × (List Int) × (List Int))) => some (.ret r))))) : Option (Out ((List Int) × (List Int)) ((Bool) × (Int × (List Int) × (List Int))))) (Out.elim (fun (s8 : (List Int) × (List Int)) => (cond (decide ((s8.1.length : Int) ≤ 200)) (some ((decide ((s8.2.length : Int) ≤ 200)), (r1.Next, s8.1, s8.2))) (some (false, (r1.Next, s8.1, s8.2))))) (fun (r : (Bool) × (Int × (List Int) × (List Int))) => some r))


noncomputable def F_impl_runner_config (p0 : Grunner) : Option (GConfig) :=
  bnd (F_impl_reversed p0.left) fun r11 => bnd (F_impl_reversed p0.right) fun r14 => some (⟨p0.state, r11, r14⟩ : GConfig)

noncomputable def F_impl_digitsText_L1 (p0 : (List Int)) (s2 : Bool × (List (Ik .u8)) × Int) : Option ((Bool × (List (Ik .u8)) × Int) ⊕ Out (Bool × (List (Ik .u8)) × Int) ByteArray) :=
  (cond (decide (s2.2.2 < (p0.length : Int))) (bnd (idx p0 s2.2.2) fun y5 => (cond s2.1 (cond (decide ((wk .u32 (wk .i32 (48 + (wk .i32 y5)))) ≤ 127)) (bnd (app s2.2.1 ([(⟨(wk .u8 (wk .i32 (48 + (wk .i32 y5))))⟩ : Ik .u8)] : List (Ik .u8))) fun z15 => some (.inl (false, z15, (w64 (s2.2.2 + 1))))) none) (cond (decide ((wk .u32 (wk .i32 (48 + (wk .i32 y5)))) ≤ 127)) (bnd (app s2.2.1 ([(⟨(wk .u8 (wk .i32 (48 + (wk .i32 y5))))⟩ : Ik .u8)] : List (Ik .u8))) fun z21 => some (.inl (s2.1, z21, (w64 (s2.2.2 + 1))))) none))) (some (.inr (.brk (s2.1, s2.2.1, s2.2.2)))))

noncomputable def F_impl_digitsText (p0 : (List Int)) : Option (ByteArray) :=
  bnd (run (F_impl_digitsText_L1 p0) (true, ([] : (List (Ik .u8))), 0)) (Out.elim (fun (s2 : Bool × (List (Ik .u8)) × Int) => some (strOf s2.2.1)) (fun (r : ByteArray) => some r))


noncomputable def F_internal_strconv_small (p0 : Int) : Option (ByteArray) :=
  (cond (decide (p0 < 10)) (bnd (bslc (⟨#[48, 49, 50, 51, 52, 53, 54, 55, 56, 57, 97, 98, 99, 100, 101, 102, 103, 104, 105, 106, 107, 108, 109, 110, 111, 112, 113, 114, 115, 116, 117, 118, 119, 120, 121, 122]⟩ : ByteArray) p0 (w64 (p0 + 1))) fun z2 => some z2) (bnd (bslc (⟨#[48, 48, 48, 49, 48, 50, 48, 51, 48, 52, 48, 53, 48, 54, 48, 55, 48, 56, 48, 57, 49, 48, 49, 49, 49, 50, 49, 51, 49, 52, 49, 53, 49, 54, 49, 55, 49, 56, 49, 57, 50, 48, 50, 49, 50, 50, 50, 51, 50, 52, 50, 53, 50, 54, 50, 55, 50, 56, 50, 57, 51, 48, 51, 49, 51, 50, 51, 51, 51, 52, 51, 53, 51, 54, 51, 55, 51, 56, 51, 57, 52, 48, 52, 49, 52, 50, 52, 51, 52, 52, 52, 53, 52, 54, 52, 55, 52, 56, 52, 57, 53, 48, 53, 49, 53, 50, 53, 51, 53, 52, 53, 53, 53, 54, 53, 55, 53, 56, 53, 57, 54, 48, 54, 49, 54, 50, 54, 51, 54, 52, 54, 53, 54, 54, 54, 55, 54, 56, 54, 57, 55, 48, 55, 49, 55, 50, 55, 51, 55, 52, 55, 53, 55, 54, 55, 55, 55, 56, 55, 57, 56, 48, 56, 49, 56, 50, 56, 51, 56, 52, 56, 53, 56, 54, 56, 55, 56, 56, 56, 57, 57, 48, 57, 49, 57, 50, 57, 51, 57, 52, 57, 53, 57, 54, 57, 55, 57, 56, 57, 57]⟩ : ByteArray) (w64 (p0 * 2)) (w64 ((w64 (p0 * 2)) + 2))) fun z4 => some z4))


noncomputable def F_math_bits_Len64 (p0 : (Ik .u64)) : Option (Int) :=
  bnd ((cond (decide (4294967296 ≤ p0.val)) (some (.brk ((⟨(Int.fdiv p0.val (2 ^ min (32 : Int).toNat (IntKind.bits .u64)))⟩ : Ik .u64), 32))) (some (.brk (p0, 0)))) : Option (Out ((Ik .u64) × Int) Int)) (Out.elim (fun (s1 : (Ik .u64) × Int) => bnd ((cond (decide (65536 ≤ s1.1.val)) (some (.brk ((⟨(Int.fdiv s1.1.val (2 ^ min (16 : Int).toNat (IntKind.bits .u64)))⟩ : Ik .u64), (w64 (s1.2 + 16))))) (some (.brk (s1.1, s1.2)))) : Option (Out ((Ik .u64) × Int) Int)) (Out.elim (fun (s4 : (Ik .u64) × Int) => (cond (decide (256 ≤ s4.1.val)) (bnd (bidx (⟨#[0, 1, 2, 2, 3, 3, 3, 3, 4, 4, 4, 4, 4, 4, 4, 4, 5, 5, 5, 5, 5, 5, 5, 5, 5, 5, 5, 5, 5, 5, 5, 5, 6, 6, 6, 6, 6, 6, 6, 6, 6, 6, 6, 6, 6, 6, 6, 6, 6, 6, 6, 6, 6, 6, 6, 6, 6, 6, 6, 6, 6, 6, 6, 6, 7, 7, 7, 7, 7, 7, 7, 7, 7, 7, 7, 7, 7, 7, 7, 7, 7, 7, 7, 7, 7, 7, 7, 7, 7, 7, 7, 7, 7, 7, 7, 7, 7, 7, 7, 7, 7, 7, 7, 7, 7, 7, 7, 7, 7, 7, 7, 7, 7, 7, 7, 7, 7, 7, 7, 7, 7, 7, 7, 7, 7, 7, 7, 7, 8, 8, 8, 8, 8, 8, 8, 8, 8, 8, 8, 8, 8, 8, 8, 8, 8, 8, 8, 8, 8, 8, 8, 8, 8, 8, 8, 8, 8, 8, 8, 8, 8, 8, 8, 8, 8, 8, 8, 8, 8, 8, 8, 8, 8, 8, 8, 8, 8, 8, 8, 8, 8, 8, 8, 8, 8, 8, 8, 8, 8, 8, 8, 8, 8, 8, 8, 8, 8, 8, 8, 8, 8, 8, 8, 8, 8, 8, 8, 8, 8, 8, 8, 8, 8, 8, 8, 8, 8, 8, 8, 8, 8, 8, 8, 8, 8, 8, 8, 8, 8, 8, 8, 8, 8, 8, 8, 8, 8, 8, 8, 8, 8, 8, 8, 8, 8, 8, 8, 8, 8, 8, 8, 8, 8, 8, 8, 8]⟩ : ByteArray) (wk .u8 (Int.fdiv s4.1.val (2 ^ min (8 : Int).toNat (IntKind.bits .u64))))) fun y8 => some (w64 ((w64 (s4.2 + 8)) + (w64 y8)))) (bnd (bidx (⟨#[0, 1, 2, 2, 3, 3, 3, 3, 4, 4, 4, 4, 4, 4, 4, 4, 5, 5, 5, 5, 5, 5, 5, 5, 5, 5, 5, 5, 5, 5, 5, 5, 6, 6, 6, 6, 6, 6, 6, 6, 6, 6, 6, 6, 6, 6, 6, 6, 6, 6, 6, 6, 6, 6, 6, 6, 6, 6, 6, 6, 6, 6, 6, 6, 7, 7, 7, 7, 7, 7, 7, 7, 7, 7, 7, 7, 7, 7, 7, 7, 7, 7, 7, 7, 7, 7, 7, 7, 7, 7, 7, 7, 7, 7, 7, 7, 7, 7, 7, 7, 7, 7, 7, 7, 7, 7, 7, 7, 7, 7, 7, 7, 7, 7, 7, 7, 7, 7, 7, 7, 7, 7, 7, 7, 7, 7, 7, 7, 8, 8, 8, 8, 8, 8, 8, 8, 8, 8, 8, 8, 8, 8, 8, 8, 8, 8, 8, 8, 8, 8, 8, 8, 8, 8, 8, 8, 8, 8, 8, 8, 8, 8, 8, 8, 8, 8, 8, 8, 8, 8, 8, 8, 8, 8, 8, 8, 8, 8, 8, 8, 8, 8, 8, 8, 8, 8, 8, 8, 8, 8, 8, 8, 8, 8, 8, 8, 8, 8, 8, 8, 8, 8, 8, 8, 8, 8, 8, 8, 8, 8, 8, 8, 8, 8, 8, 8, 8, 8, 8, 8, 8, 8, 8, 8, 8, 8, 8, 8, 8, 8, 8, 8, 8, 8, 8, 8, 8, 8, 8, 8, 8, 8, 8, 8, 8, 8, 8, 8, 8, 8, 8, 8, 8, 8, 8, 8]⟩ : ByteArray) (wk .u8 s4.1.val)) fun y10 => some (w64 (s4.2 + (w64 y10)))))) (fun (r : Int) => some r))) (fun (r : Int) => some r))


noncomputable def F_internal_strconv_log10Pow2 (p0 : Int) : Option (Int) :=
  some (Int.fdiv (w64 (p0 * 78913)) (2 ^ min (18 : Int).toNat 64))


noncomputable def F_internal_strconv_bool2_int (p0 : Bool) : Option (Int) :=
  (cond p0 (some 1) (some 0))


noncomputable def F_internal_strconv_isPowerOfTwo (p0 : Int) : Option (Bool) :=
  some (decide ((iand p0 (w64 (p0 - 1))) = 0))


noncomputable def F_internal_strconv_FormatInt (p0 : Int) (p1 : Int) : Option (ByteArray) :=
  (cond (decide (p1 = 10)) (bnd ((cond (decide (0 ≤ p0)) (cond (decide (p0 < 100)) (bnd (F_internal_strconv_small p0) fun r6 => some (.ret r6)) (some (.brk ()))) (some (.brk ()))) : Option (Out (Unit) ByteArray)) (Out.elim (fun (s2 : Unit) => bnd ((cond (decide (p0 < 0)) (some (.brk (⟨(wk .u64 (0 - (wk .u64 p0)))⟩ : Ik .u64))) (some (.brk (⟨(wk .u64 p0)⟩ : Ik .u64)))) : Option (Out ((Ik .u64)) ByteArray)) (Out.elim (fun (s9 : (Ik .u64)) => none) (fun (r : ByteArray) => some r))) (fun (r : ByteArray) => some r))) none)


noncomputable def F_strconv_FormatInt (p0 : Int) (p1 : Int) : Option (ByteArray) :=
  bnd (F_internal_strconv_FormatInt p0 p1) fun r1 => some r1


noncomputable def F_impl_Decimal (p0 : Int) : Option (ByteArray) :=
  bnd (F_strconv_FormatInt p0 10) fun r1 => some r1


noncomputable def F_impl_configText (p0 : GConfig) (p1 : Int) : Option (ByteArray) :=
  (cond (decide (p1 ≠ 0)) (some (⟨#[]⟩ : ByteArray)) (bnd (F_impl_reversed p0.Left) fun r6 => bnd (F_impl_digitsText r6) fun r9 => bnd (cat r9 (⟨#[40]⟩ : ByteArray)) fun z11 => bnd (F_impl_Decimal p0.State) fun r13 => bnd (cat z11 r13) fun z15 => bnd (cat z15 (⟨#[41]⟩ : ByteArray)) fun z17 => bnd (F_impl_digitsText p0.Right) fun r19 => bnd (cat z17 r19) fun z21 => some z21))

noncomputable def F_impl_FindCycle_L1 (p1 : Int) (r7 : (Int × Int × (List GRule) × Int × (List Int) × (List Int))) (s22 : Int × (List Int) × (List Int) × Int × List (ByteArray × Int)) : Option ((Int × (List Int) × (List Int) × Int × List (ByteArray × Int)) ⊕ Out (Int × (List Int) × (List Int) × Int × List (ByteArray × Int)) (Option (GProof × Int))) :=
  bnd (bnd (F_impl_runner_config (⟨r7.1, r7.2.1, r7.2.2.1, s22.1, s22.2.1, s22.2.2.1⟩ : Grunner)) fun r31 => bnd (F_impl_configText r31 0) fun r34 => (cond ((mget s22.2.2.2.2 r34).isSome) (some (.brk (((mget s22.2.2.2.2 r34).getD 0), (w64 (s22.2.2.2.1 - ((mget s22.2.2.2.2 r34).getD 0))), true, s22.2.2.2.2))) (some (.brk (0, 0, false, (mput s22.2.2.2.2 r34 s22.2.2.2.1))))) : Option (Out (Int × Int × Bool × List (ByteArray × Int)) (Option ((Int × (List Int) × (List Int) × Int × List (ByteArray × Int)) ⊕ Out (Int × (List Int) × (List Int) × Int × List (ByteArray × Int)) (Option (GProof × Int)))))) (Out.elim (fun (s26 : Int × Int × Bool × List (ByteArray × Int)) => (cond s26.2.2.1 (some (.inr (.ret (some ((⟨2, ([s26.1, s26.2.1] : List Int), ([] : (List (List Int)))⟩ : GProof), 0))))) (cond (decide (s22.2.2.2.1 < p1)) (bnd (F_impl_runner_halts (⟨r7.1, r7.2.1, r7.2.2.1, s22.1, s22.2.1, s22.2.2.1⟩ : Grunner)) fun r42 => (cond (!r42) (bnd (F_impl_runner_step (⟨r7.1, r7.2.1, r7.2.2.1, s22.1, s22.2.1, s22.2.2.1⟩ : Grunner)) fun r45 => (cond (!r45.1) (some (.inr (.ret (some ((⟨0, ([] : (List Int)), ([] : (List (List Int)))⟩ : GProof), 5))))) (some (.inl (r45.2.1, r45.2.2.1, r45.2.2.2, (w64 (s22.2.2.2.1 + 1)), s26.2.2.2))))) (some (.inr (.brk (s22.1, s22.2.1, s22.2.2.1, s22.2.2.2.1, s26.2.2.2)))))) (some (.inr (.brk (s22.1, s22.2.1, s22.2.2.1, s22.2.2.2.1, s26.2.2.2))))))) (fun (r : Option ((Int × (List Int) × (List Int) × Int × List (ByteArray × Int)) ⊕ Out (Int × (List Int) × (List Int) × Int × List (ByteArray × Int)) (Option (GProof × Int)))) => r))

noncomputable def F_impl_FindCycle (p0 : GMachine) (p1 : Int) : Option (GProof × Int) :=
  bnd (F_impl_budgeted p0 p1) fun r4 => (cond (decide (r4 ≠ 0)) (some ((⟨0, ([] : (List Int)), ([] : (List (List Int)))⟩ : GProof), r4)) (bnd (F_impl_blankRun p0) fun r7 => bnd (run (F_impl_FindCycle_L1 p1 r7) (r7.2.2.2.1, r7.2.2.2.2.1, r7.2.2.2.2.2, 0, ([] : List (ByteArray × Int)))) (Out.elim (fun (s22 : Int × (List Int) × (List Int) × Int × List (ByteArray × Int)) => bnd (F_impl_runner_halts (⟨r7.1, r7.2.1, r7.2.2.1, s22.1, s22.2.1, s22.2.2.1⟩ : Grunner)) fun r51 => (cond r51 (some ((⟨0, ([] : (List Int)), ([] : (List (List Int)))⟩ : GProof), 3)) (some ((⟨0, ([] : (List Int)), ([] : (List (List Int)))⟩ : GProof), 6)))) (fun (r : Option (GProof × Int)) => r))))


noncomputable def F_laws_r8Blank : Option (GConfig) :=
  some (⟨0, ([] : List Int), ([] : List Int)⟩ : GConfig)

noncomputable def F_impl_runner_run_L1 (p0 : Grunner) (p1 : Int) (s14 : Int × (List Int) × (List Int) × Int × Int) : Option ((Int × (List Int) × (List Int) × Int × Int) ⊕ Out (Int × (List Int) × (List Int) × Int × Int) (Option ((Int × Bool × Int) × (Int × (List Int) × (List Int))))) :=
  (cond (decide (s14.2.2.2.1 < p1)) (bnd (F_impl_runner_halts (⟨p0.m_Symbols, p0.m_States, p0.m_Rules, s14.1, s14.2.1, s14.2.2.1⟩ : Grunner)) fun r19 => (cond (!r19) (bnd (F_impl_runner_step (⟨p0.m_Symbols, p0.m_States, p0.m_Rules, s14.1, s14.2.1, s14.2.2.1⟩ : Grunner)) fun r22 => (cond (!r22.1) (some (.inr (.ret (some ((0, false, 5), (r22.2.1, r22.2.2.1, r22.2.2.2)))))) (some (.inl (r22.2.1, r22.2.2.1, r22.2.2.2, (w64 (s14.2.2.2.1 + 1)), s14.2.2.2.1))))) (some (.inr (.brk (s14.1, s14.2.1, s14.2.2.1, s14.2.2.2.1, s14.2.2.2.1)))))) (some (.inr (.brk (s14.1, s14.2.1, s14.2.2.1, s14.2.2.2.1, s14.2.2.2.1)))))

noncomputable def F_impl_runner_run (p0 : Grunner) (p1 : Int) : Option ((Int × Bool × Int) × (Int × (List Int) × (List Int))) :=
  bnd (run (F_impl_runner_run_L1 p0 p1) (p0.state, p0.left, p0.right, 0, 0)) (Out.elim (fun (s14 : Int × (List Int) × (List Int) × Int × Int) => bnd (F_impl_runner_halts (⟨p0.m_Symbols, p0.m_States, p0.m_Rules, s14.1, s14.2.1, s14.2.2.1⟩ : Grunner)) fun r31 => some ((s14.2.2.2.2, r31, 0), (s14.1, s14.2.1, s14.2.2.1))) (fun (r : Option ((Int × Bool × Int) × (Int × (List Int) × (List Int)))) => r))


noncomputable def F_impl_RunMachine (p0 : GMachine) (p1 : GConfig) (p2 : Int) : Option (GConfig × Int × Bool × Int) :=
  bnd (F_impl_ValidConfig p0 p1) fun r4 => (cond (!r4) (some ((⟨0, ([] : (List Int)), ([] : (List Int))⟩ : GConfig), 0, false, 1)) (bnd (F_impl_budgetOk p2) fun r7 => (cond (!r7) (some ((⟨0, ([] : (List Int)), ([] : (List Int))⟩ : GConfig), 0, false, 2)) (bnd (F_impl_runnerOf p0 p1) fun r10 => bnd (F_impl_runner_run (⟨r10.1, r10.2.1, r10.2.2.1, r10.2.2.2.1, r10.2.2.2.2.1, r10.2.2.2.2.2⟩ : Grunner) p2) fun r13 => (cond (decide (r13.1.2.2 ≠ 0)) (some ((⟨0, ([] : (List Int)), ([] : (List Int))⟩ : GConfig), 0, false, r13.1.2.2)) (bnd (F_impl_runner_config (⟨r10.1, r10.2.1, r10.2.2.1, r13.2.1, r13.2.2.1, r13.2.2.2⟩ : Grunner)) fun r17 => some (r17, r13.1.1, r13.1.2.1, 0)))))))

noncomputable def F_slices_IndexFunc_SSint64_Sint64_L1 (p0 : (List (List Int))) (p1 : ((List Int) → Option Bool)) (s1 : Int) : Option ((Int) ⊕ Out (Int) Int) :=
  (cond (decide (s1 < (p0.length : Int))) (bnd (idx p0 s1) fun y4 => bnd (p1 y4) fun r8 => (cond r8 (some (.inr (.ret s1))) (some (.inl (w64 (s1 + 1)))))) (some (.inr (.brk s1))))

noncomputable def F_slices_IndexFunc_SSint64_Sint64 (p0 : (List (List Int))) (p1 : ((List Int) → Option Bool)) : Option (Int) :=
  bnd (run (F_slices_IndexFunc_SSint64_Sint64_L1 p0 p1) 0) (Out.elim (fun (s1 : Int) => some (-1)) (fun (r : Int) => some r))


noncomputable def F_slices_ContainsFunc_SSint64_Sint64 (p0 : (List (List Int))) (p1 : ((List Int) → Option Bool)) : Option (Bool) :=
  bnd (F_slices_IndexFunc_SSint64_Sint64 p0 p1) fun r1 => some (decide (0 ≤ r1))


noncomputable def F_impl_isLetters (p0 : (List Int)) : Option (Bool) :=
  bnd (F_impl_allWithin p0 0 9) fun r1 => some r1


noncomputable def F_impl_IsWord (p0 : (List Int)) : Option (Bool) :=
  (cond (decide ((p0.length : Int) ≤ 400)) (bnd (F_impl_isLetters p0) fun r2 => some r2) (some false))


noncomputable def F_impl_areWords_1 (p0 : (List Int)) : Option (Bool) :=
  bnd (F_impl_IsWord p0) fun r1 => some (!r1)


noncomputable def F_impl_areWords (p0 : (List (List Int))) : Option (Bool) :=
  bnd (F_slices_ContainsFunc_SSint64_Sint64 p0 (fun x_ => F_impl_areWords_1 x_)) fun r1 => some (!r1)


noncomputable def F_impl_ValidProof (p0 : GProof) : Option (Bool) :=
  bnd (F_impl_within p0.Kind 1 8) fun r2 => (cond (!r2) (some false) (cond (decide (300 < (p0.Numbers.length : Int))) (some false) (cond (decide (300 < (p0.Words.length : Int))) (some false) (bnd (F_impl_allWithin p0.Numbers (-1000000000000) 1000000000000) fun r7 => (cond r7 (bnd (F_impl_areWords p0.Words) fun r10 => some r10) (some false))))))


noncomputable def F_impl_proofOf (p0 : GMachine) (p1 : GProof) (p2 : Int) (p3 : Int) : Option (Bool) :=
  bnd (F_impl_ValidMachine p0) fun r3 => (cond r3 (bnd (F_impl_ValidProof p1) fun r6 => (cond r6 (cond (decide (p1.Kind = p2)) (cond (decide ((p1.Numbers.length : Int) = p3)) (some (decide ((p1.Words.length : Int) = 0))) (some false)) (some false)) (some false))) (some false))


noncomputable def F_impl_spanOk (p0 : Int) (p1 : Int) : Option (Bool) :=
  (cond (decide (0 ≤ p0)) (cond (decide (1 ≤ p1)) (cond (decide (p0 ≤ 20000)) (some (decide (p1 ≤ (w64 (20000 - p0))))) (some false)) (some false)) (some false))


noncomputable def F_impl_afterSteps (p0 : GMachine) (p1 : Int) : Option ((Int × Int × (List GRule) × Int × (List Int) × (List Int)) × Bool) :=
  bnd (F_impl_blankRun p0) fun r2 => bnd (F_impl_runner_run (⟨r2.1, r2.2.1, r2.2.2.1, r2.2.2.2.1, r2.2.2.2.2.1, r2.2.2.2.2.2⟩ : Grunner) p1) fun r5 => (cond (decide (r5.1.2.2 = 0)) (some ((r2.1, r2.2.1, r2.2.2.1, r5.2.1, r5.2.2.1, r5.2.2.2), (decide (r5.1.1 = p1)))) (some ((r2.1, r2.2.1, r2.2.2.1, r5.2.1, r5.2.2.1, r5.2.2.2), false)))

noncomputable def F_slices_Equal_Sint64_int64_L1 (p0 : (List Int)) (p1 : (List Int)) (s2 : Int) : Option ((Int) ⊕ Out (Int) Bool) :=
  (cond (decide (s2 < (p0.length : Int))) (bnd (idx p0 s2) fun y5 => bnd (idx p1 s2) fun y9 => (cond (decide (y5 ≠ y9)) (some (.inr (.ret false))) (some (.inl (w64 (s2 + 1)))))) (some (.inr (.brk s2))))

noncomputable def F_slices_Equal_Sint64_int64 (p0 : (List Int)) (p1 : (List Int)) : Option (Bool) :=
  (cond (decide ((p0.length : Int) ≠ (p1.length : Int))) (some false) (bnd (run (F_slices_Equal_Sint64_int64_L1 p0 p1) 0) (Out.elim (fun (s2 : Int) => some true) (fun (r : Bool) => some r))))


noncomputable def F_impl_sameConfig (p0 : GConfig) (p1 : GConfig) : Option (Bool) :=
  (cond (decide (p0.State = p1.State)) (bnd (F_slices_Equal_Sint64_int64 p0.Left p1.Left) fun r4 => (cond r4 (bnd (F_slices_Equal_Sint64_int64 p0.Right p1.Right) fun r7 => some r7) (some false))) (some false))


noncomputable def F_impl_CheckCycle (p0 : GMachine) (p1 : GProof) : Option (Bool) :=
  bnd (bnd (F_impl_proofOf p0 p1 2 2) fun r8 => (cond (!r8) (some (.ret false)) (bnd (idx p1.Numbers 0) fun y11 => bnd (idx p1.Numbers 1) fun y17 => bnd (F_impl_spanOk y11 y17) fun r23 => (cond (!r23) (some (.ret false)) (some (.brk ()))))) : Option (Out (Unit) Bool)) (Out.elim (fun (s3 : Unit) => bnd (idx p1.Numbers 0) fun y26 => bnd (F_impl_afterSteps p0 y26) fun r33 => bnd (idx p1.Numbers 0) fun y36 => bnd (idx p1.Numbers 1) fun y40 => bnd (F_impl_afterSteps p0 (w64 (y36 + y40))) fun r47 => (cond r33.2 (cond r47.2 (bnd (F_impl_runner_config (⟨r33.1.1, r33.1.2.1, r33.1.2.2.1, r33.1.2.2.2.1, r33.1.2.2.2.2.1, r33.1.2.2.2.2.2⟩ : Grunner)) fun r52 => bnd (F_impl_runner_config (⟨r47.1.1, r47.1.2.1, r47.1.2.2.1, r47.1.2.2.2.1, r47.1.2.2.2.2.1, r47.1.2.2.2.2.2⟩ : Grunner)) fun r55 => bnd (F_impl_sameConfig r52 r55) fun r58 => some r58) (some false)) (some false))) (fun (r : Bool) => some r))


noncomputable def F_laws_r8After (p0 : GMachine) (p1 : GConfig) (p2 : Int) : Option (GConfig × Bool) :=
  (cond (decide (p2 = 0)) (some (p1, true)) (bnd (F_impl_RunMachine p0 p1 p2) fun r5 => (cond (decide (r5.2.2.2 = 0)) (some (r5.1, (decide (r5.2.1 = p2)))) (some (r5.1, false)))))

noncomputable def F_laws_r8Same_L1 (p0 : (List Int)) (p1 : (List Int)) (s2 : Int) : Option ((Int) ⊕ Out (Int) Bool) :=
  (cond (decide (s2 < (p0.length : Int))) (bnd (idx p0 s2) fun y5 => bnd (idx p1 s2) fun y9 => (cond (decide (y5 ≠ y9)) (some (.inr (.ret false))) (some (.inl (w64 (s2 + 1)))))) (some (.inr (.brk s2))))

noncomputable def F_laws_r8Same (p0 : (List Int)) (p1 : (List Int)) : Option (Bool) :=
  (cond (decide ((p0.length : Int) ≠ (p1.length : Int))) (some false) (bnd (run (F_laws_r8Same_L1 p0 p1) 0) (Out.elim (fun (s2 : Int) => some true) (fun (r : Bool) => some r))))


noncomputable def F_laws_r8Config (p0 : GConfig) (p1 : GConfig) : Option (Bool) :=
  (cond (decide (p0.State = p1.State)) (bnd (F_laws_r8Same p0.Left p1.Left) fun r4 => (cond r4 (bnd (F_laws_r8Same p0.Right p1.Right) fun r7 => some r7) (some false))) (some false))


noncomputable def F_laws_FnCycles (p0 : (List (Ik .u8))) (p1 : (List (Ik .u8))) : Option (Bool) :=
  bnd (F_laws_r8Long p0 p1) fun r1 => (cond r1 (some true) (bnd (F_spec_R8Runner p0) fun r4 => bnd (F_impl_FindCycle r4 60) fun r8 => bnd (bnd F_laws_r8Blank fun r17 => bnd (F_impl_RunMachine r4 r17 60) fun r20 => some (.brk (r20.2.2.1, r20.2.2.2)) : Option (Out (Bool × Int) Bool)) (Out.elim (fun (s12 : Bool × Int) => (cond (decide (r8.2 ≠ 0)) (bnd ((cond (decide (s12.2 = 5)) (cond (decide (r8.2 = 5)) (some (.brk true)) (cond (decide (s12.2 = 0)) (cond ((decide (r8.2 = 3)) == s12.1) (cond s12.1 (some (.brk true)) (some (.brk (decide (r8.2 = 6))))) (some (.brk false))) (some (.brk false)))) (cond (decide (s12.2 = 0)) (cond ((decide (r8.2 = 3)) == s12.1) (cond s12.1 (some (.brk true)) (some (.brk (decide (r8.2 = 6))))) (some (.brk false))) (some (.brk false)))) : Option (Out (Bool) Bool)) (Out.elim (fun (s32 : Bool) => some s32) (fun (r : Bool) => some r))) (bnd ((cond (decide (s12.2 ≠ 0)) (some (.ret false)) (cond s12.1 (some (.ret false)) (bnd (F_impl_CheckCycle r4 r8.1) fun r49 => (cond (!r49) (some (.ret false)) (cond (decide ((r8.1.Numbers.length : Int) ≠ 2)) (some (.ret false)) (bnd (idx r8.1.Numbers 0) fun y53 => (cond (decide (y53 < 0)) (some (.ret false)) (bnd (idx r8.1.Numbers 1) fun y59 => (cond (decide (y59 < 1)) (some (.ret false)) (bnd (idx r8.1.Numbers 0) fun y63 => bnd (idx r8.1.Numbers 1) fun y65 => (cond (decide (60 < (w64 (y63 + y65)))) (some (.ret false)) (some (.brk ()))))))))))))) : Option (Out (Unit) Bool)) (Out.elim (fun (s42 : Unit) => bnd (idx r8.1.Numbers 0) fun y73 => bnd (idx r8.1.Numbers 1) fun y78 => bnd (bnd F_laws_r8Blank fun r86 => bnd (F_laws_r8After r4 r86 y73) fun r89 => some (.brk (r89.1.State, r89.1.Left, r89.1.Right, r89.2)) : Option (Out (Int × (List Int) × (List Int) × Bool) Bool)) (Out.elim (fun (s81 : Int × (List Int) × (List Int) × Bool) => bnd (F_laws_r8After r4 (⟨s81.1, s81.2.1, s81.2.2.1⟩ : GConfig) y78) fun r100 => bnd ((cond (!s81.2.2.2) (some (.ret false)) (cond (!r100.2) (some (.ret false)) (bnd (F_laws_r8Config (⟨s81.1, s81.2.1, s81.2.2.1⟩ : GConfig) r100.1) fun r108 => (cond (!r108) (some (.ret false)) (some (.brk ())))))) : Option (Out (Unit) Bool)) (Out.elim (fun (s104 : Unit) => (cond (decide (y73 = 0)) (some true) (bnd (bnd F_laws_r8Blank fun r117 => bnd (F_laws_r8After r4 r117 (w64 (y73 - 1))) fun r120 => some (.brk (r120.1.State, r120.1.Left, r120.1.Right, r120.2)) : Option (Out (Int × (List Int) × (List Int) × Bool) Bool)) (Out.elim (fun (s112 : Int × (List Int) × (List Int) × Bool) => bnd (F_laws_r8After r4 (⟨s112.1, s112.2.1, s112.2.2.1⟩ : GConfig) y78) fun r131 => (cond s112.2.2.2 (cond r131.2 (bnd (F_laws_r8Config (⟨s112.1, s112.2.1, s112.2.2.1⟩ : GConfig) r131.1) fun r137 => some (!r137)) (some false)) (some false))) (fun (r : Bool) => some r))))) (fun (r : Bool) => some r))) (fun (r : Bool) => some r))) (fun (r : Bool) => some r))))) (fun (r : Bool) => some r))))

end Go.Fn
