/-
  What each function of the program computes, as a plain Lean function: printed by program off the translation. No condition.
-/
import Derived.Test.YtgojoooilijiiaaTy
namespace Go.Fn
open Go Go.Tc
set_option linter.unusedVariables false

noncomputable def F_laws_r8Long (p0 : (List (Ik .u8))) (p1 : (List (Ik .u8))) : Option (Bool) :=
  (cond (decide (1048576 < (p0.length : Int))) (some true) (some (decide (1048576 < (p1.length : Int)))))


noncomputable def F_spec_l00From (p0 : (List (Ik .u8))) : Option (((List (Ik .u8)) × Int × (Ik .u64))) :=
  some (p0, 0, (⟨0⟩ : Ik .u64))


noncomputable def F_spec_l00Src_next (p0 : Gl00Src) : Option ((Int) × (Int × (Ik .u64))) :=
  bnd ((cond (decide (p0.at_ < (p0.code.length : Int))) (bnd (idx p0.code p0.at_) fun y4 => some (.brk (w64 y4.val))) (some (.brk 0))) : Option (Out (Int) ((Int) × (Int × (Ik .u64))))) (Out.elim (fun (s1 : Int) => (cond (decide ((w64 (p0.at_ + 1)) ≤ (p0.code.length : Int))) (some (s1, ((w64 (p0.at_ + 1)), (⟨(wk .u64 ((wk .u64 ((wk .u64 (p0.seed.val * 6364136223846793005)) + (wk .u64 s1))) + 1442695040888963407))⟩ : Ik .u64)))) (some ((w64 (kand .u64 (Int.fdiv (wk .u64 ((wk .u64 ((wk .u64 (p0.seed.val * 6364136223846793005)) + (wk .u64 s1))) + 1442695040888963407)) (2 ^ min (40 : Int).toNat (IntKind.bits .u64))) 255)), ((w64 (p0.at_ + 1)), (⟨(wk .u64 ((wk .u64 ((wk .u64 (p0.seed.val * 6364136223846793005)) + (wk .u64 s1))) + 1442695040888963407))⟩ : Ik .u64)))))) (fun (r : (Int) × (Int × (Ik .u64))) => some r))


noncomputable def F_spec_l00Src_pick (p0 : Gl00Src) (p1 : Int) : Option ((Int) × (Int × (Ik .u64))) :=
  (cond (decide (p1 ≤ 1)) (some (0, (p0.at_, p0.seed))) (bnd (F_spec_l00Src_next p0) fun r2 => (cond (decide (200 < p1)) (bnd (F_spec_l00Src_next (⟨p0.code, r2.2.1, r2.2.2⟩ : Gl00Src)) fun r5 => bnd (nz p1) fun u7 => some ((Int.tmod (w64 ((w64 (r2.1 * 256)) + r5.1)) p1), (r5.2.1, r5.2.2))) (bnd (nz p1) fun u9 => some ((Int.tmod r2.1 p1), (r2.2.1, r2.2.2))))))


noncomputable def F_spec_l00Src_text (p0 : Gl00Src) (p1 : (List ByteArray)) : Option ((ByteArray) × (Int × (Ik .u64))) :=
  bnd (F_spec_l00Src_pick p0 (p1.length : Int)) fun r1 => bnd (idx p1 r1.1) fun y3 => some (y3, (r1.2.1, r1.2.2))

noncomputable def F_spec_l01Split_L1 (p0 : ByteArray) (p1 : (Ik .u8)) (s2 : (List ByteArray) × Int × Int) : Option (((List ByteArray) × Int × Int) ⊕ Out ((List ByteArray) × Int × Int) (List ByteArray)) :=
  (cond (decide (s2.2.2 < (p0.size : Int))) (bnd (bidx p0 s2.2.2) fun y5 => (cond (decide (y5 = p1.val)) (bnd (bslc p0 s2.2.1 s2.2.2) fun z8 => bnd (app s2.1 ([z8] : List ByteArray)) fun z11 => some (.inl (z11, (w64 (s2.2.2 + 1)), (w64 (s2.2.2 + 1))))) (some (.inl (s2.1, s2.2.1, (w64 (s2.2.2 + 1))))))) (some (.inr (.brk (s2.1, s2.2.1, s2.2.2)))))

noncomputable def F_spec_l01Split (p0 : ByteArray) (p1 : (Ik .u8)) : Option ((List ByteArray)) :=
  bnd (run (F_spec_l01Split_L1 p0 p1) (([] : List ByteArray), 0, 0)) (Out.elim (fun (s2 : (List ByteArray) × Int × Int) => bnd (bslc p0 s2.2.1 (p0.size : Int)) fun z14 => bnd (app s2.1 ([z14] : List ByteArray)) fun z17 => some z17) (fun (r : (List ByteArray)) => some r))


noncomputable def F_spec_l01Digit (p0 : (Ik .u8)) : Option (Bool) :=
  (cond (decide (48 ≤ p0.val)) (some (decide (p0.val ≤ 57))) (some false))

noncomputable def F_spec_l03Read_L1 (p0 : ByteArray) (s3 : (List Int) × Int) : Option (((List Int) × Int) ⊕ Out ((List Int) × Int) ((List Int) × Bool)) :=
  (cond (decide (s3.2 < (p0.size : Int))) (bnd (bidx p0 s3.2) fun y6 => bnd (F_spec_l01Digit (⟨y6⟩ : Ik .u8)) fun r8 => (cond (!r8) (some (.inr (.ret (([] : (List Int)), false)))) (bnd (bidx p0 s3.2) fun y11 => bnd (app s3.1 ([(w64 (wk .u8 (y11 - 48)))] : List Int)) fun z14 => some (.inl (z14, (w64 (s3.2 + 1))))))) (some (.inr (.brk (s3.1, s3.2)))))

noncomputable def F_spec_l03Read (p0 : ByteArray) : Option ((List Int) × Bool) :=
  (cond (p0.toList == (⟨#[45]⟩ : ByteArray).toList) (some (([] : List Int), true)) (bnd (run (F_spec_l03Read_L1 p0) (([] : List Int), 0)) (Out.elim (fun (s3 : (List Int) × Int) => (cond (decide (0 < (s3.1.length : Int))) (some (s3.1, (decide ((s3.1.length : Int) ≤ 400)))) (some (s3.1, false)))) (fun (r : (List Int) × Bool) => some r))))


noncomputable def F_spec_l00In (p0 : Int) (p1 : Int) (p2 : Int) : Option (Bool) :=
  (cond (decide (p1 ≤ p0)) (some (decide (p0 ≤ p2))) (some false))

noncomputable def F_spec_l03Is_L1 (p0 : (List Int)) (s1 : Int) : Option ((Int) ⊕ Out (Int) Bool) :=
  (cond (decide (s1 < (p0.length : Int))) (bnd (idx p0 s1) fun y4 => bnd (F_spec_l00In y4 0 9) fun r8 => (cond (!r8) (some (.inr (.ret false))) (some (.inl (w64 (s1 + 1)))))) (some (.inr (.brk s1))))

noncomputable def F_spec_l03Is (p0 : (List Int)) : Option (Bool) :=
  bnd (run (F_spec_l03Is_L1 p0) 0) (Out.elim (fun (s1 : Int) => some (decide ((p0.length : Int) ≤ 400))) (fun (r : Bool) => some r))

noncomputable def F_spec_l32Is_L1 (p0 : (List GDomino)) (s5 : Int) : Option ((Int) ⊕ Out (Int) Bool) :=
  (cond (decide (s5 < (p0.length : Int))) (bnd (idx p0 s5) fun y8 => bnd (F_spec_l03Is y8.Top) fun r16 => (cond (!r16) (some (.inr (.ret false))) (bnd (idx p0 s5) fun y19 => bnd (F_spec_l03Is y19.Bottom) fun r27 => (cond (!r27) (some (.inr (.ret false))) (bnd (idx p0 s5) fun y30 => bnd (idx p0 s5) fun y38 => (cond (decide ((w64 ((y30.Top.length : Int) + (y38.Bottom.length : Int))) = 0)) (some (.inr (.ret false))) (some (.inl (w64 (s5 + 1)))))))))) (some (.inr (.brk s5))))

noncomputable def F_spec_l32Is (p0 : (List GDomino)) : Option (Bool) :=
  bnd ((cond (decide ((p0.length : Int) < 1)) (some (.ret false)) (cond (decide (80 < (p0.length : Int))) (some (.ret false)) (some (.brk ())))) : Option (Out (Unit) Bool)) (Out.elim (fun (s1 : Unit) => bnd (run (F_spec_l32Is_L1 p0) 0) (Out.elim (fun (s5 : Int) => some true) (fun (r : Bool) => some r))) (fun (r : Bool) => some r))

noncomputable def F_spec_l03Text_L1 (p0 : (List Int)) (s3 : (List (Ik .u8)) × Int) : Option (((List (Ik .u8)) × Int) ⊕ Out ((List (Ik .u8)) × Int) ByteArray) :=
  (cond (decide (s3.2 < (p0.length : Int))) (bnd (idx p0 s3.2) fun y6 => bnd (app s3.1 ([(⟨(wk .u8 (w64 (48 + y6)))⟩ : Ik .u8)] : List (Ik .u8))) fun z11 => some (.inl (z11, (w64 (s3.2 + 1))))) (some (.inr (.brk (s3.1, s3.2)))))

noncomputable def F_spec_l03Text (p0 : (List Int)) : Option (ByteArray) :=
  (cond (decide ((p0.length : Int) = 0)) (some (⟨#[45]⟩ : ByteArray)) (bnd (run (F_spec_l03Text_L1 p0) (([] : List (Ik .u8)), 0)) (Out.elim (fun (s3 : (List (Ik .u8)) × Int) => some (strOf s3.1)) (fun (r : ByteArray) => some r))))

noncomputable def F_spec_l32Text_L1 (p0 : (List GDomino)) (s1 : ByteArray × Int) : Option ((ByteArray × Int) ⊕ Out (ByteArray × Int) ByteArray) :=
  (cond (decide (s1.2 < (p0.length : Int))) (bnd ((cond (decide (0 < s1.2)) (bnd (cat s1.1 (⟨#[32]⟩ : ByteArray)) fun z7 => some (.brk z7)) (some (.brk s1.1))) : Option (Out (ByteArray) ByteArray)) (Out.elim (fun (s4 : ByteArray) => bnd (idx p0 s1.2) fun y9 => bnd (idx p0 s1.2) fun y14 => bnd (F_spec_l03Text y9.Top) fun r22 => bnd (cat r22 (⟨#[47]⟩ : ByteArray)) fun z24 => bnd (F_spec_l03Text y14.Bottom) fun r26 => bnd (cat z24 r26) fun z28 => bnd (cat s4 z28) fun z30 => some (.inl (z30, (w64 (s1.2 + 1))))) (fun (r : ByteArray) => some (.inr (.ret r))))) (some (.inr (.brk (s1.1, s1.2)))))

noncomputable def F_spec_l32Text (p0 : (List GDomino)) : Option (ByteArray) :=
  bnd (run (F_spec_l32Text_L1 p0) ((⟨#[]⟩ : ByteArray), 0)) (Out.elim (fun (s1 : ByteArray × Int) => some s1.1) (fun (r : ByteArray) => some r))

noncomputable def F_spec_ReadDominoes_L1 (r1 : (List ByteArray)) (s6 : (List GDomino) × Int) : Option (((List GDomino) × Int) ⊕ Out ((List GDomino) × Int) ((List GDomino) × Bool)) :=
  (cond (decide (s6.2 < (r1.length : Int))) (bnd (idx r1 s6.2) fun y9 => bnd (F_spec_l01Split y9 (⟨47⟩ : Ik .u8)) fun r14 => (cond (decide ((r14.length : Int) ≠ 2)) (some (.inr (.ret (([] : (List GDomino)), false)))) (bnd (idx r14 0) fun y18 => bnd (F_spec_l03Read y18) fun r23 => bnd (idx r14 1) fun y26 => bnd (F_spec_l03Read y26) fun r29 => (cond (!r23.2) (some (.inr (.ret (([] : (List GDomino)), false)))) (cond (!r29.2) (some (.inr (.ret (([] : (List GDomino)), false)))) (bnd (app s6.1 ([(⟨r23.1, r29.1⟩ : GDomino)] : List GDomino)) fun z35 => some (.inl (z35, (w64 (s6.2 + 1)))))))))) (some (.inr (.brk (s6.1, s6.2)))))

noncomputable def F_spec_ReadDominoes (p0 : ByteArray) : Option ((List GDomino) × Bool) :=
  bnd (F_spec_l01Split p0 (⟨32⟩ : Ik .u8)) fun r1 => (cond (decide (80 < (r1.length : Int))) (some (([] : (List GDomino)), false)) (bnd (run (F_spec_ReadDominoes_L1 r1) (([] : List GDomino), 0)) (Out.elim (fun (s6 : (List GDomino) × Int) => bnd (F_spec_l32Is s6.1) fun r38 => (cond (!r38) (some (([] : (List GDomino)), false)) (bnd (F_spec_l32Text s6.1) fun r41 => (cond (!(r41.toList == p0.toList)) (some (([] : (List GDomino)), false)) (some (s6.1, true)))))) (fun (r : (List GDomino) × Bool) => some r))))

noncomputable def F_spec_l10DrawWord_L1 (p0 : Gl00Src) (p3 : Int) (s4 : Int × (Ik .u64) × (List Int) × Int) : Option ((Int × (Ik .u64) × (List Int) × Int) ⊕ Out (Int × (Ik .u64) × (List Int) × Int) (((List Int)) × (Int × (Ik .u64)))) :=
  (cond (decide (0 < s4.2.2.2)) (bnd (F_spec_l00Src_pick (⟨p0.code, s4.1, s4.2.1⟩ : Gl00Src) p3) fun r7 => bnd (app s4.2.2.1 ([r7.1] : List Int)) fun z10 => some (.inl (r7.2.1, r7.2.2, z10, (w64 (s4.2.2.2 - 1))))) (some (.inr (.brk (s4.1, s4.2.1, s4.2.2.1, s4.2.2.2)))))

noncomputable def F_spec_l10DrawWord (p0 : Gl00Src) (p1 : Int) (p2 : Int) (p3 : Int) : Option (((List Int)) × (Int × (Ik .u64))) :=
  bnd (F_spec_l00Src_pick p0 (w64 ((w64 (p2 - p1)) + 1))) fun r2 => bnd (run (F_spec_l10DrawWord_L1 p0 p3) (r2.2.1, r2.2.2, ([] : List Int), (w64 (p1 + r2.1)))) (Out.elim (fun (s4 : Int × (Ik .u64) × (List Int) × Int) => some (s4.2.2.1, (s4.1, s4.2.1))) (fun (r : ((List Int)) × (Int × (Ik .u64))) => some r))

noncomputable def F_spec_l32DrawOk_L1 (p0 : Gl00Src) (s13 : Int × (Ik .u64) × (List GDomino) × Int) : Option ((Int × (Ik .u64) × (List GDomino) × Int) ⊕ Out (Int × (Ik .u64) × (List GDomino) × Int) (((List GDomino)) × (Int × (Ik .u64)))) :=
  (cond (decide (0 < s13.2.2.2)) (bnd (F_spec_l10DrawWord (⟨p0.code, s13.1, s13.2.1⟩ : Gl00Src) 1 3 2) fun r16 => bnd (F_spec_l10DrawWord (⟨p0.code, r16.2.1, r16.2.2⟩ : Gl00Src) 0 3 2) fun r19 => bnd (app s13.2.2.1 ([(⟨r16.1, r19.1⟩ : GDomino)] : List GDomino)) fun z23 => some (.inl (r19.2.1, r19.2.2, z23, (w64 (s13.2.2.2 - 1))))) (some (.inr (.brk (s13.1, s13.2.1, s13.2.2.1, s13.2.2.2)))))

noncomputable def F_spec_l32DrawOk (p0 : Gl00Src) : Option (((List GDomino)) × (Int × (Ik .u64))) :=
  bnd (F_spec_l00Src_pick p0 3) fun r2 => (cond (decide (0 < r2.1)) (bnd (F_spec_l00Src_text (⟨p0.code, r2.2.1, r2.2.2⟩ : Gl00Src) ([(⟨#[49, 47, 49, 48, 49, 32, 49, 48, 47, 48, 48, 32, 48, 49, 49, 47, 49, 49]⟩ : ByteArray), (⟨#[48, 47, 48, 48, 32, 48, 48, 47, 48]⟩ : ByteArray), (⟨#[49, 47, 48, 32, 48, 47, 49]⟩ : ByteArray), (⟨#[48, 47, 48, 49, 32, 49, 48, 47, 48, 32, 49, 47, 45]⟩ : ByteArray), (⟨#[48, 49, 47, 48, 32, 49, 47, 49, 49, 32, 48, 47, 49, 48]⟩ : ByteArray), (⟨#[45, 47, 49, 32, 49, 47, 45]⟩ : ByteArray)] : List ByteArray)) fun r5 => bnd (F_spec_ReadDominoes r5.1) fun r7 => some (r7.1, (r5.2.1, r5.2.2))) (bnd (F_spec_l00Src_pick (⟨p0.code, r2.2.1, r2.2.2⟩ : Gl00Src) 4) fun r11 => bnd (run (F_spec_l32DrawOk_L1 p0) (r11.2.1, r11.2.2, ([] : List GDomino), (w64 (1 + r11.1)))) (Out.elim (fun (s13 : Int × (Ik .u64) × (List GDomino) × Int) => some (s13.2.2.1, (s13.1, s13.2.1))) (fun (r : ((List GDomino)) × (Int × (Ik .u64))) => some r))))


noncomputable def F_spec_l05Budget (p0 : Int) : Option (Bool) :=
  bnd (F_spec_l00In p0 1 20000) fun r1 => some r1


noncomputable def F_spec_l00Own (p0 : (List Int)) : Option ((List Int)) :=
  bnd (app ([] : List Int) p0) fun z2 => some z2


noncomputable def F_spec_l00Min (p0 : Int) (p1 : Int) : Option (Int) :=
  (cond (decide (p0 < p1)) (some p0) (some p1))

noncomputable def F_spec_l00Same_L1 (p0 : (List Int)) (p1 : (List Int)) (s2 : Int) : Option ((Int) ⊕ Out (Int) Bool) :=
  (cond (decide (s2 < (p0.length : Int))) (bnd (idx p0 s2) fun y5 => bnd (idx p1 s2) fun y9 => (cond (decide (y5 ≠ y9)) (some (.inr (.ret false))) (some (.inl (w64 (s2 + 1)))))) (some (.inr (.brk s2))))

noncomputable def F_spec_l00Same (p0 : (List Int)) (p1 : (List Int)) : Option (Bool) :=
  (cond (decide ((p0.length : Int) ≠ (p1.length : Int))) (some false) (bnd (run (F_spec_l00Same_L1 p0 p1) 0) (Out.elim (fun (s2 : Int) => some true) (fun (r : Bool) => some r))))


noncomputable def F_spec_l32Put (p0 : Gl32Rest) (p1 : GDomino) : Option (Gl32Rest × Bool) :=
  bnd (F_spec_l00Own p1.Top) fun r4 => bnd (F_spec_l00Own p1.Bottom) fun r9 => bnd ((cond p0.upper (bnd (F_spec_l00Own p0.word) fun r24 => bnd (app r24 p1.Top) fun z27 => some (.brk (z27, r9))) (bnd (F_spec_l00Own p0.word) fun r37 => bnd (app r37 p1.Bottom) fun z40 => some (.brk (r4, z40)))) : Option (Out ((List Int) × (List Int)) (Gl32Rest × Bool))) (Out.elim (fun (s12 : (List Int) × (List Int)) => bnd (F_spec_l00Min (s12.1.length : Int) (s12.2.length : Int)) fun r43 => bnd (slc s12.1 0 r43) fun z45 => bnd (slc s12.2 0 r43) fun z48 => bnd (F_spec_l00Same z45 z48) fun r54 => (cond (!r54) (some ((⟨([] : (List Int)), false, 0, 0⟩ : Gl32Rest), false)) (cond (decide (r43 < (s12.1.length : Int))) (bnd (slc s12.1 r43 (s12.1.length : Int)) fun z58 => some ((⟨z58, true, 0, 0⟩ : Gl32Rest), true)) (bnd (slc s12.2 r43 (s12.2.length : Int)) fun z61 => some ((⟨z61, false, 0, 0⟩ : Gl32Rest), true))))) (fun (r : Gl32Rest × Bool) => some r))

noncomputable def F_spec_l32Back_L1 (p0 : (List Gl32Rest)) (s4 : (List Int) × (List Int) × Bool × Int × Int) : Option (((List Int) × (List Int) × Bool × Int × Int) ⊕ Out ((List Int) × (List Int) × Bool × Int × Int) ((List Int) × Int)) :=
  (cond (decide (0 ≤ s4.2.2.2.1)) (bnd (app ([s4.2.2.2.2] : List Int) s4.1) fun z8 => bnd (idx p0 s4.2.2.2.1) fun y11 => some (.inl (z8, y11.word, y11.upper, y11.before, y11.domino))) (some (.inr (.brk (s4.1, s4.2.1, s4.2.2.1, s4.2.2.2.1, s4.2.2.2.2)))))

noncomputable def F_spec_l32Back (p0 : (List Gl32Rest)) (p1 : Gl32Rest) : Option ((List Int) × Int) :=
  bnd (run (F_spec_l32Back_L1 p0) (([] : List Int), p1.word, p1.upper, p1.before, p1.domino)) (Out.elim (fun (s4 : (List Int) × (List Int) × Bool × Int × Int) => (cond (decide (400 < (s4.1.length : Int))) (some (([] : (List Int)), 5)) (some (s4.1, 0)))) (fun (r : (List Int) × Int) => some r))

noncomputable def F_spec_l32Known_L1 (p0 : (List Gl32Rest)) (p1 : Gl32Rest) (s1 : Int) : Option ((Int) ⊕ Out (Int) Bool) :=
  (cond (decide (s1 < (p0.length : Int))) (bnd (idx p0 s1) fun y4 => (cond (y4.upper == p1.upper) (bnd (idx p0 s1) fun y12 => bnd (F_spec_l00Same y12.word p1.word) fun r22 => (cond r22 (some (.inr (.ret true))) (some (.inl (w64 (s1 + 1)))))) (some (.inl (w64 (s1 + 1)))))) (some (.inr (.brk s1))))

noncomputable def F_spec_l32Known (p0 : (List Gl32Rest)) (p1 : Gl32Rest) : Option (Bool) :=
  bnd (run (F_spec_l32Known_L1 p0 p1) 1) (Out.elim (fun (s1 : Int) => some false) (fun (r : Bool) => some r))


noncomputable def F_spec_l00Src_one (p0 : Gl00Src) (p1 : Int) : Option ((Bool) × (Int × (Ik .u64))) :=
  bnd (F_spec_l00Src_pick p0 p1) fun r1 => some ((decide (r1.1 = 0)), (r1.2.1, r1.2.2))

noncomputable def F_spec_R8Dominoes_L1 (r1 : ((List (Ik .u8)) × Int × (Ik .u64))) (r4 : ((List GDomino)) × (Int × (Ik .u64))) (s10 : Int × (Ik .u64) × (List Int) × Int) : Option ((Int × (Ik .u64) × (List Int) × Int) ⊕ Out (Int × (Ik .u64) × (List Int) × Int) ((List GDomino) × (List Int))) :=
  (cond (decide (0 < s10.2.2.2)) (bnd (F_spec_l00Src_pick (⟨r1.1, s10.1, s10.2.1⟩ : Gl00Src) (r4.1.length : Int)) fun r13 => bnd (app s10.2.2.1 ([r13.1] : List Int)) fun z16 => some (.inl (r13.2.1, r13.2.2, z16, (w64 (s10.2.2.2 - 1))))) (some (.inr (.brk (s10.1, s10.2.1, s10.2.2.1, s10.2.2.2)))))

noncomputable def F_spec_R8Dominoes_L3 (r1 : ((List (Ik .u8)) × Int × (Ik .u64))) (r4 : ((List GDomino)) × (Int × (Ik .u64))) (s10 : Int × (Ik .u64) × (List Int) × Int) (s31 : (List Gl32Rest) × Bool × Int) (s35 : (List Gl32Rest) × Bool × Int) : Option (((List Gl32Rest) × Bool × Int) ⊕ Out ((List Gl32Rest) × Bool × Int) (Option ((List GDomino) × (List Int)))) :=
  (cond (decide (s35.2.2 < (r4.1.length : Int))) (bnd ((cond (decide (s31.2.2 = 0)) (some (.brk false)) (some (.brk false))) : Option (Out (Bool) (Option ((List GDomino) × (List Int))))) (Out.elim (fun (s38 : Bool) => (cond s38 (some (.inl (s35.1, s35.2.1, (w64 (s35.2.2 + 1))))) (bnd (idx s35.1 s31.2.2) fun y42 => bnd (idx r4.1 s35.2.2) fun y46 => bnd (F_spec_l00Own y46.Top) fun r57 => bnd (F_spec_l00Own y46.Bottom) fun r61 => bnd ((cond y42.upper (bnd (F_spec_l00Own y42.word) fun r72 => bnd (app r72 y46.Top) fun z76 => some (.brk (z76, r61))) (bnd (F_spec_l00Own y42.word) fun r96 => bnd (app r96 y46.Bottom) fun z100 => some (.brk (r57, z100)))) : Option (Out ((List Int) × (List Int)) (Option (((List Gl32Rest) × Bool × Int) ⊕ Out ((List Gl32Rest) × Bool × Int) (Option ((List GDomino) × (List Int))))))) (Out.elim (fun (s64 : (List Int) × (List Int)) => bnd (F_spec_l00Min (s64.1.length : Int) (s64.2.length : Int)) fun r116 => bnd (slc s64.1 0 r116) fun z118 => bnd (slc s64.2 0 r116) fun z121 => bnd (F_spec_l00Same z118 z121) fun r127 => (cond (!r127) (some (.inl (s35.1, s35.2.1, (w64 (s35.2.2 + 1))))) (cond (decide (r116 < (s64.1.length : Int))) (bnd (slc s64.1 r116 (s64.1.length : Int)) fun z132 => (cond (decide ((z132.length : Int) = 0)) (bnd (F_spec_l32Back s35.1 (⟨z132, true, s31.2.2, s35.2.2⟩ : Gl32Rest)) fun r137 => some (.inr (.ret (cond (decide (r137.2 = 0)) (bnd (F_spec_l00Src_one (⟨r1.1, s10.1, s10.2.1⟩ : Gl00Src) 2) fun r141 => (cond r141.1 (some (r4.1, r137.1)) (some (r4.1, s10.2.2.1)))) (some (r4.1, s10.2.2.1)))))) (cond (decide (400 < (z132.length : Int))) (some (.inl (s35.1, false, (w64 (s35.2.2 + 1))))) (bnd (F_spec_l32Known s35.1 (⟨z132, true, s31.2.2, s35.2.2⟩ : Gl32Rest)) fun r145 => (cond r145 (some (.inl (s35.1, s35.2.1, (w64 (s35.2.2 + 1))))) (bnd (app s35.1 ([(⟨z132, true, s31.2.2, s35.2.2⟩ : Gl32Rest)] : List Gl32Rest)) fun z149 => (cond (decide (300 < (z149.length : Int))) (some (.inr (.ret (some (r4.1, s10.2.2.1))))) (some (.inl (z149, s35.2.1, (w64 (s35.2.2 + 1)))))))))))) (bnd (slc s64.2 r116 (s64.2.length : Int)) fun z153 => (cond (decide ((z153.length : Int) = 0)) (bnd (F_spec_l32Back s35.1 (⟨z153, false, s31.2.2, s35.2.2⟩ : Gl32Rest)) fun r158 => some (.inr (.ret (cond (decide (r158.2 = 0)) (bnd (F_spec_l00Src_one (⟨r1.1, s10.1, s10.2.1⟩ : Gl00Src) 2) fun r162 => (cond r162.1 (some (r4.1, r158.1)) (some (r4.1, s10.2.2.1)))) (some (r4.1, s10.2.2.1)))))) (cond (decide (400 < (z153.length : Int))) (some (.inl (s35.1, false, (w64 (s35.2.2 + 1))))) (bnd (F_spec_l32Known s35.1 (⟨z153, false, s31.2.2, s35.2.2⟩ : Gl32Rest)) fun r166 => (cond r166 (some (.inl (s35.1, s35.2.1, (w64 (s35.2.2 + 1))))) (bnd (app s35.1 ([(⟨z153, false, s31.2.2, s35.2.2⟩ : Gl32Rest)] : List Gl32Rest)) fun z170 => (cond (decide (300 < (z170.length : Int))) (some (.inr (.ret (some (r4.1, s10.2.2.1))))) (some (.inl (z170, s35.2.1, (w64 (s35.2.2 + 1))))))))))))))) (fun (r : Option (((List Gl32Rest) × Bool × Int) ⊕ Out ((List Gl32Rest) × Bool × Int) (Option ((List GDomino) × (List Int))))) => r))))) (fun (r : Option ((List GDomino) × (List Int))) => some (.inr (.ret r))))) (some (.inr (.brk (s35.1, s35.2.1, s35.2.2)))))

noncomputable def F_spec_R8Dominoes_L2 (r1 : ((List (Ik .u8)) × Int × (Ik .u64))) (r4 : ((List GDomino)) × (Int × (Ik .u64))) (s10 : Int × (Ik .u64) × (List Int) × Int) (s31 : (List Gl32Rest) × Bool × Int) : Option (((List Gl32Rest) × Bool × Int) ⊕ Out ((List Gl32Rest) × Bool × Int) (Option ((List GDomino) × (List Int)))) :=
  (cond (decide (s31.2.2 < (s31.1.length : Int))) (cond (decide (s31.2.2 = 40)) (some (.inr (.ret (some (r4.1, s10.2.2.1))))) (bnd (run (F_spec_R8Dominoes_L3 r1 r4 s10 s31) (s31.1, s31.2.1, 0)) (Out.elim (fun (s35 : (List Gl32Rest) × Bool × Int) => some (.inl (s35.1, s35.2.1, (w64 (s31.2.2 + 1))))) (fun (r : Option ((List GDomino) × (List Int))) => some (.inr (.ret r)))))) (some (.inr (.brk (s31.1, s31.2.1, s31.2.2)))))

noncomputable def F_spec_R8Dominoes (p0 : (List (Ik .u8))) : Option ((List GDomino) × (List Int)) :=
  bnd (F_spec_l00From p0) fun r1 => bnd (F_spec_l32DrawOk (⟨r1.1, r1.2.1, r1.2.2⟩ : Gl00Src)) fun r4 => bnd (F_spec_l00Src_pick (⟨r1.1, r4.2.1, r4.2.2⟩ : Gl00Src) 5) fun r8 => bnd (run (F_spec_R8Dominoes_L1 r1 r4) (r8.2.1, r8.2.2, ([] : List Int), (w64 (1 + r8.1)))) (Out.elim (fun (s10 : Int × (Ik .u64) × (List Int) × Int) => bnd (F_spec_l32Is r4.1) fun r20 => (cond (!r20) (some (r4.1, s10.2.2.1)) (bnd (F_spec_l05Budget 40) fun r23 => (cond (!r23) (some (r4.1, s10.2.2.1)) (bnd (F_spec_l00In (-1) (-1) (w64 ((r4.1.length : Int) - 1))) fun r26 => (cond (!r26) (some (r4.1, s10.2.2.1)) (bnd (run (F_spec_R8Dominoes_L2 r1 r4 s10) (([(⟨([] : (List Int)), false, (-1), (-1)⟩ : Gl32Rest)] : List Gl32Rest), true, 0)) (Out.elim (fun (s31 : (List Gl32Rest) × Bool × Int) => (cond (!s31.2.1) (some (r4.1, s10.2.2.1)) (some (r4.1, s10.2.2.1)))) (fun (r : Option ((List GDomino) × (List Int))) => r))))))))) (fun (r : (List GDomino) × (List Int)) => some r))


noncomputable def F_impl_size_impl_Domino (p0 : (List GDomino)) : Option (Int) :=
  some (p0.length : Int)


noncomputable def F_impl_within (p0 : Int) (p1 : Int) (p2 : Int) : Option (Bool) :=
  (cond (decide (p1 ≤ p0)) (some (decide (p0 ≤ p2))) (some false))

noncomputable def F_slices_IndexFunc_Simpl_Domino_impl_Domino_L1 (p0 : (List GDomino)) (p1 : (GDomino → Option Bool)) (s1 : Int) : Option ((Int) ⊕ Out (Int) Int) :=
  (cond (decide (s1 < (p0.length : Int))) (bnd (idx p0 s1) fun y4 => bnd (p1 y4) fun r8 => (cond r8 (some (.inr (.ret s1))) (some (.inl (w64 (s1 + 1)))))) (some (.inr (.brk s1))))

noncomputable def F_slices_IndexFunc_Simpl_Domino_impl_Domino (p0 : (List GDomino)) (p1 : (GDomino → Option Bool)) : Option (Int) :=
  bnd (run (F_slices_IndexFunc_Simpl_Domino_impl_Domino_L1 p0 p1) 0) (Out.elim (fun (s1 : Int) => some (-1)) (fun (r : Int) => some r))


noncomputable def F_slices_ContainsFunc_Simpl_Domino_impl_Domino (p0 : (List GDomino)) (p1 : (GDomino → Option Bool)) : Option (Bool) :=
  bnd (F_slices_IndexFunc_Simpl_Domino_impl_Domino p0 p1) fun r1 => some (decide (0 ≤ r1))

noncomputable def F_slices_IndexFunc_SSint64_Sint64_L1 (p0 : (List (List Int))) (p1 : ((List Int) → Option Bool)) (s1 : Int) : Option ((Int) ⊕ Out (Int) Int) :=
  (cond (decide (s1 < (p0.length : Int))) (bnd (idx p0 s1) fun y4 => bnd (p1 y4) fun r8 => (cond r8 (some (.inr (.ret s1))) (some (.inl (w64 (s1 + 1)))))) (some (.inr (.brk s1))))

noncomputable def F_slices_IndexFunc_SSint64_Sint64 (p0 : (List (List Int))) (p1 : ((List Int) → Option Bool)) : Option (Int) :=
  bnd (run (F_slices_IndexFunc_SSint64_Sint64_L1 p0 p1) 0) (Out.elim (fun (s1 : Int) => some (-1)) (fun (r : Int) => some r))


noncomputable def F_slices_ContainsFunc_SSint64_Sint64 (p0 : (List (List Int))) (p1 : ((List Int) → Option Bool)) : Option (Bool) :=
  bnd (F_slices_IndexFunc_SSint64_Sint64 p0 p1) fun r1 => some (decide (0 ≤ r1))

noncomputable def F_impl_allWithin_L1 (p0 : (List Int)) (p1 : Int) (p2 : Int) (s1 : Int) : Option ((Int) ⊕ Out (Int) Bool) :=
  (cond (decide (s1 < (p0.length : Int))) (bnd (idx p0 s1) fun y4 => bnd (F_impl_within y4 p1 p2) fun r8 => (cond (!r8) (some (.inr (.ret false))) (some (.inl (w64 (s1 + 1)))))) (some (.inr (.brk s1))))

noncomputable def F_impl_allWithin (p0 : (List Int)) (p1 : Int) (p2 : Int) : Option (Bool) :=
  bnd (run (F_impl_allWithin_L1 p0 p1 p2) 0) (Out.elim (fun (s1 : Int) => some true) (fun (r : Bool) => some r))


noncomputable def F_impl_isLetters (p0 : (List Int)) : Option (Bool) :=
  bnd (F_impl_allWithin p0 0 9) fun r1 => some r1


noncomputable def F_impl_IsWord (p0 : (List Int)) : Option (Bool) :=
  (cond (decide ((p0.length : Int) ≤ 400)) (bnd (F_impl_isLetters p0) fun r2 => some r2) (some false))


noncomputable def F_impl_areWords_1 (p0 : (List Int)) : Option (Bool) :=
  bnd (F_impl_IsWord p0) fun r1 => some (!r1)


noncomputable def F_impl_areWords (p0 : (List (List Int))) : Option (Bool) :=
  bnd (F_slices_ContainsFunc_SSint64_Sint64 p0 (fun x_ => F_impl_areWords_1 x_)) fun r1 => some (!r1)


noncomputable def F_impl_validDomino (p0 : GDomino) : Option (Bool) :=
  bnd (F_impl_areWords ([p0.Top, p0.Bottom] : List (List Int))) fun r3 => (cond r3 (some (decide (0 < (w64 ((p0.Top.length : Int) + (p0.Bottom.length : Int)))))) (some false))


noncomputable def F_impl_ValidDominoes_1 (p0 : GDomino) : Option (Bool) :=
  bnd (F_impl_validDomino p0) fun r2 => some (!r2)


noncomputable def F_impl_ValidDominoes (p0 : (List GDomino)) : Option (Bool) :=
  bnd (F_impl_size_impl_Domino p0) fun r1 => bnd (F_impl_within r1 1 80) fun r3 => (cond r3 (bnd (F_slices_ContainsFunc_Simpl_Domino_impl_Domino p0 (fun x_ => F_impl_ValidDominoes_1 x_)) fun r6 => some (!r6)) (some false))


noncomputable def F_impl_size_int64 (p0 : (List Int)) : Option (Int) :=
  some (p0.length : Int)


noncomputable def F_impl_matchRange (p0 : (List GDomino)) (p1 : (List Int)) : Option (Bool) :=
  bnd (F_impl_size_int64 p1) fun r1 => bnd (F_impl_within r1 1 400) fun r3 => (cond r3 (bnd (F_impl_size_impl_Domino p0) fun r6 => bnd (F_impl_allWithin p1 0 (w64 (r6 - 1))) fun r8 => some r8) (some false))


noncomputable def F_impl_one : Option ((List Int)) :=
  some ([1] : List Int)

noncomputable def F_impl_trimmed_L1 (s1 : (List Int)) : Option (((List Int)) ⊕ Out ((List Int)) (List Int)) :=
  (cond (decide (0 < (s1.length : Int))) (bnd (idx s1 (w64 ((s1.length : Int) - 1))) fun y4 => (cond (decide (y4 = 0)) (bnd (slc s1 0 (w64 ((s1.length : Int) - 1))) fun z9 => some (.inl z9)) (some (.inr (.brk s1))))) (some (.inr (.brk s1))))

noncomputable def F_impl_trimmed (p0 : (List Int)) : Option ((List Int)) :=
  bnd (run (F_impl_trimmed_L1) p0) (Out.elim (fun (s1 : (List Int)) => some s1) (fun (r : (List Int)) => some r))

noncomputable def F_impl_multiply_L2 (p1 : (List Int)) (s4 : (List Int) × Int) (y7 : Int) (s11 : (List Int) × Int × Int) : Option (((List Int) × Int × Int) ⊕ Out ((List Int) × Int × Int) (List Int)) :=
  bnd ((cond (decide (s11.2.2 < (p1.length : Int))) (some (.brk true)) (some (.brk (decide (0 < s11.2.1))))) : Option (Out (Bool) (List Int))) (Out.elim (fun (s13 : Bool) => (cond s13 (bnd (idx s11.1 (w64 (s4.2 + s11.2.2))) fun y17 => (cond (decide (s11.2.2 < (p1.length : Int))) (bnd (idx p1 s11.2.2) fun y21 => bnd (idx s11.1 (w64 (s4.2 + s11.2.2))) fun y25 => some (.inl ((s11.1.set (w64 (s4.2 + s11.2.2)).toNat (Int.tmod (w64 ((w64 (s11.2.1 + y17)) + (w64 (y7 * y21)))) 1000000)), (w64 (Int.tdiv (w64 ((w64 (s11.2.1 + y17)) + (w64 (y7 * y21)))) 1000000)), (w64 (s11.2.2 + 1))))) (bnd (idx s11.1 (w64 (s4.2 + s11.2.2))) fun y27 => some (.inl ((s11.1.set (w64 (s4.2 + s11.2.2)).toNat (Int.tmod (w64 (s11.2.1 + y17)) 1000000)), (w64 (Int.tdiv (w64 (s11.2.1 + y17)) 1000000)), (w64 (s11.2.2 + 1))))))) (some (.inr (.brk (s11.1, s11.2.1, s11.2.2)))))) (fun (r : (List Int)) => some (.inr (.ret r))))

noncomputable def F_impl_multiply_L1 (p0 : (List Int)) (p1 : (List Int)) (s4 : (List Int) × Int) : Option (((List Int) × Int) ⊕ Out ((List Int) × Int) (List Int)) :=
  (cond (decide (s4.2 < (p0.length : Int))) (bnd (idx p0 s4.2) fun y7 => bnd (run (F_impl_multiply_L2 p1 s4 y7) (s4.1, 0, 0)) (Out.elim (fun (s11 : (List Int) × Int × Int) => some (.inl (s11.1, (w64 (s4.2 + 1))))) (fun (r : (List Int)) => some (.inr (.ret r))))) (some (.inr (.brk (s4.1, s4.2)))))

noncomputable def F_impl_multiply (p0 : (List Int)) (p1 : (List Int)) : Option ((List Int)) :=
  bnd (mke (w64 ((p0.length : Int) + (p1.length : Int))) (0 : Int)) fun z1 => bnd (run (F_impl_multiply_L1 p0 p1) (z1, 0)) (Out.elim (fun (s4 : (List Int) × Int) => bnd (F_impl_trimmed s4.1) fun r29 => some r29) (fun (r : (List Int)) => some r))

noncomputable def F_impl_basePower_L1 (s4 : Int × (List Int)) : Option ((Int × (List Int)) ⊕ Out (Int × (List Int)) (List Int)) :=
  (cond (decide (0 < s4.1)) (cond (decide ((s4.2.length : Int) ≤ 40)) (bnd (F_impl_multiply s4.2 ([11] : List Int)) fun r9 => some (.inl ((w64 (s4.1 - 1)), r9))) (some (.inr (.brk (s4.1, s4.2))))) (some (.inr (.brk (s4.1, s4.2)))))

noncomputable def F_impl_basePower (p0 : Int) : Option ((List Int)) :=
  bnd F_impl_one fun r1 => bnd (run (F_impl_basePower_L1) (p0, r1)) (Out.elim (fun (s4 : Int × (List Int)) => some s4.2) (fun (r : (List Int)) => some r))

noncomputable def F_impl_moved_L1 (p0 : (List Int)) (p1 : Int) (s2 : (List Int) × Int) : Option (((List Int) × Int) ⊕ Out ((List Int) × Int) (List Int)) :=
  (cond (decide (s2.2 < (p0.length : Int))) (bnd (idx p0 s2.2) fun y5 => bnd (app s2.1 ([(w64 (y5 + p1))] : List Int)) fun z10 => some (.inl (z10, (w64 (s2.2 + 1))))) (some (.inr (.brk (s2.1, s2.2)))))

noncomputable def F_impl_moved (p0 : (List Int)) (p1 : Int) : Option ((List Int)) :=
  bnd (run (F_impl_moved_L1 p0 p1) (([] : List Int), 0)) (Out.elim (fun (s2 : (List Int) × Int) => some s2.1) (fun (r : (List Int)) => some r))


noncomputable def F_slices_Clone_Sint64_int64 (p0 : (List Int)) : Option ((List Int)) :=
  bnd (app ([] : List Int) p0) fun z3 => some z3

noncomputable def F_impl_reversed_L1 (s5 : (List Int) × Int × Int) : Option (((List Int) × Int × Int) ⊕ Out ((List Int) × Int × Int) (Option ((List Int)))) :=
  (cond (decide (s5.2.1 < s5.2.2)) (bnd (idx s5.1 s5.2.2) fun y8 => bnd (idx s5.1 s5.2.1) fun y12 => bnd (idx s5.1 s5.2.1) fun y19 => bnd (idx (s5.1.set s5.2.1.toNat y8) s5.2.2) fun y21 => some (.inl (((s5.1.set s5.2.1.toNat y8).set s5.2.2.toNat y12), (w64 (s5.2.1 + 1)), (w64 (s5.2.2 - 1))))) (some (.inr (.brk (s5.1, s5.2.1, s5.2.2)))))

noncomputable def F_impl_reversed (p0 : (List Int)) : Option ((List Int)) :=
  bnd (F_slices_Clone_Sint64_int64 p0) fun r1 => bnd (run (F_impl_reversed_L1) (r1, 0, (w64 ((r1.length : Int) - 1)))) (Out.elim (fun (s5 : (List Int) × Int × Int) => some s5.1) (fun (r : Option ((List Int))) => r))

noncomputable def F_impl_carried_L1 (p0 : (List Int)) (s2 : (List Int) × Int × Int) : Option (((List Int) × Int × Int) ⊕ Out ((List Int) × Int × Int) (List Int)) :=
  bnd ((cond (decide (s2.2.2 < (p0.length : Int))) (some (.brk true)) (some (.brk (decide (0 < s2.2.1))))) : Option (Out (Bool) (List Int))) (Out.elim (fun (s4 : Bool) => (cond s4 (cond (decide (s2.2.2 < (p0.length : Int))) (bnd (idx p0 s2.2.2) fun y9 => bnd (app s2.1 ([(Int.tmod (w64 (s2.2.1 + y9)) 1000000)] : List Int)) fun z14 => some (.inl (z14, (w64 (Int.tdiv (w64 (s2.2.1 + y9)) 1000000)), (w64 (s2.2.2 + 1))))) (bnd (app s2.1 ([(Int.tmod s2.2.1 1000000)] : List Int)) fun z18 => some (.inl (z18, (w64 (Int.tdiv s2.2.1 1000000)), (w64 (s2.2.2 + 1)))))) (some (.inr (.brk (s2.1, s2.2.1, s2.2.2)))))) (fun (r : (List Int)) => some (.inr (.ret r))))

noncomputable def F_impl_carried (p0 : (List Int)) : Option ((List Int)) :=
  bnd (run (F_impl_carried_L1 p0) (([] : List Int), 0, 0)) (Out.elim (fun (s2 : (List Int) × Int × Int) => bnd (F_impl_trimmed s2.1) fun r21 => some r21) (fun (r : (List Int)) => some r))


noncomputable def F_impl_naturalOf (p0 : Int) : Option ((List Int)) :=
  bnd (F_impl_carried ([p0] : List Int)) fun r2 => some r2

noncomputable def F_impl_add_L1 (p1 : (List Int)) (s4 : (List Int) × Int) : Option (((List Int) × Int) ⊕ Out ((List Int) × Int) (List Int)) :=
  (cond (decide (s4.2 < (p1.length : Int))) (bnd (idx p1 s4.2) fun y7 => bnd (idx s4.1 s4.2) fun y11 => bnd (idx s4.1 s4.2) fun y14 => some (.inl ((s4.1.set s4.2.toNat (w64 (y11 + y7))), (w64 (s4.2 + 1))))) (some (.inr (.brk (s4.1, s4.2)))))

noncomputable def F_impl_add (p0 : (List Int)) (p1 : (List Int)) : Option ((List Int)) :=
  bnd (mke (if (p1.length : Int) > (p0.length : Int) then (p1.length : Int) else (p0.length : Int)) (0 : Int)) fun z1 => bnd (run (F_impl_add_L1 p1) ((cpy z1 p0), 0)) (Out.elim (fun (s4 : (List Int) × Int) => bnd (F_impl_carried s4.1) fun r16 => some r16) (fun (r : (List Int)) => some r))

noncomputable def F_impl_fromDigits_L1 (p0 : (List Int)) (p1 : Int) (s2 : (List Int) × Int) : Option (((List Int) × Int) ⊕ Out ((List Int) × Int) (List Int)) :=
  (cond (decide (0 ≤ s2.2)) (bnd (idx p0 s2.2) fun y5 => bnd (F_impl_naturalOf p1) fun r12 => bnd (F_impl_multiply s2.1 r12) fun r15 => bnd (F_impl_naturalOf y5) fun r18 => bnd (F_impl_add r15 r18) fun r21 => some (.inl (r21, (w64 (s2.2 - 1))))) (some (.inr (.brk (s2.1, s2.2)))))

noncomputable def F_impl_fromDigits (p0 : (List Int)) (p1 : Int) : Option ((List Int)) :=
  bnd (run (F_impl_fromDigits_L1 p0 p1) (([] : List Int), (w64 ((p0.length : Int) - 1)))) (Out.elim (fun (s2 : (List Int) × Int) => some s2.1) (fun (r : (List Int)) => some r))


noncomputable def F_impl_valueOf (p0 : (List Int)) : Option ((List Int)) :=
  bnd (F_impl_moved p0 1) fun r1 => bnd (F_impl_reversed r1) fun r4 => bnd (F_impl_fromDigits r4 11) fun r7 => some r7


noncomputable def F_impl_IsNatural (p0 : (List Int)) : Option (Bool) :=
  (cond (decide ((p0.length : Int) ≤ 40)) (bnd (F_impl_allWithin p0 0 999999) fun r2 => (cond r2 (cond (decide ((p0.length : Int) = 0)) (some true) (bnd (idx p0 (w64 ((p0.length : Int) - 1))) fun y6 => some (decide (y6 ≠ 0)))) (some false))) (some false))


noncomputable def F_impl_naturals_1 (p0 : (List Int)) : Option (Bool) :=
  bnd (F_impl_IsNatural p0) fun r1 => some (!r1)


noncomputable def F_impl_naturals (p0 : (List (List Int))) : Option (Bool) :=
  bnd (F_slices_ContainsFunc_SSint64_Sint64 p0 (fun x_ => F_impl_naturals_1 x_)) fun r1 => some (!r1)


noncomputable def F_impl_isSquare (p0 : (List (List Int))) : Option (Bool) :=
  (cond (decide ((p0.length : Int) = 9)) (bnd (F_impl_naturals p0) fun r2 => some r2) (some false))


noncomputable def F_impl_checkedSquare (p0 : (List (List Int))) : Option ((List (List Int)) × Int) :=
  bnd (F_impl_isSquare p0) fun r1 => (cond (!r1) (some (([] : (List (List Int))), 5)) (some (p0, 0)))


noncomputable def F_impl_squareOf (p0 : GDomino) : Option ((List (List Int)) × Int) :=
  bnd (F_impl_basePower (p0.Top.length : Int)) fun r5 => bnd (F_impl_basePower (p0.Bottom.length : Int)) fun r7 => bnd (F_impl_valueOf p0.Top) fun r9 => bnd (F_impl_valueOf p0.Bottom) fun r11 => bnd F_impl_one fun r13 => bnd (F_impl_checkedSquare ([r5, ([] : List Int), ([] : List Int), ([] : List Int), r7, ([] : List Int), r9, r11, r13] : List (List Int))) fun r25 => some (r25.1, r25.2)

noncomputable def F_impl_productOf_L3 (p0 : (List (List Int))) (p1 : (List (List Int))) (s2 : (List (List Int)) × Int) (s5 : (List (List Int)) × Int) (s9 : (List Int) × Int) : Option (((List Int) × Int) ⊕ Out ((List Int) × Int) ((List (List Int)) × Int)) :=
  (cond (decide (s9.2 < 3)) (bnd (idx p0 (w64 ((w64 (3 * s2.2)) + s9.2))) fun y12 => bnd (idx p1 (w64 ((w64 (3 * s9.2)) + s5.2))) fun y16 => bnd (F_impl_multiply y12 y16) fun r23 => bnd (F_impl_add s9.1 r23) fun r26 => some (.inl (r26, (w64 (s9.2 + 1))))) (some (.inr (.brk (s9.1, s9.2)))))

noncomputable def F_impl_productOf_L2 (p0 : (List (List Int))) (p1 : (List (List Int))) (s2 : (List (List Int)) × Int) (s5 : (List (List Int)) × Int) : Option (((List (List Int)) × Int) ⊕ Out ((List (List Int)) × Int) ((List (List Int)) × Int)) :=
  (cond (decide (s5.2 < 3)) (bnd (run (F_impl_productOf_L3 p0 p1 s2 s5) (([] : List Int), 0)) (Out.elim (fun (s9 : (List Int) × Int) => bnd (app s5.1 ([s9.1] : List (List Int))) fun z30 => some (.inl (z30, (w64 (s5.2 + 1))))) (fun (r : (List (List Int)) × Int) => some (.inr (.ret r))))) (some (.inr (.brk (s5.1, s5.2)))))

noncomputable def F_impl_productOf_L1 (p0 : (List (List Int))) (p1 : (List (List Int))) (s2 : (List (List Int)) × Int) : Option (((List (List Int)) × Int) ⊕ Out ((List (List Int)) × Int) ((List (List Int)) × Int)) :=
  (cond (decide (s2.2 < 3)) (bnd (run (F_impl_productOf_L2 p0 p1 s2) (s2.1, 0)) (Out.elim (fun (s5 : (List (List Int)) × Int) => some (.inl (s5.1, (w64 (s2.2 + 1))))) (fun (r : (List (List Int)) × Int) => some (.inr (.ret r))))) (some (.inr (.brk (s2.1, s2.2)))))

noncomputable def F_impl_productOf (p0 : (List (List Int))) (p1 : (List (List Int))) : Option ((List (List Int)) × Int) :=
  bnd (run (F_impl_productOf_L1 p0 p1) (([] : List (List Int)), 0)) (Out.elim (fun (s2 : (List (List Int)) × Int) => bnd (F_impl_checkedSquare s2.1) fun r33 => some (r33.1, r33.2)) (fun (r : (List (List Int)) × Int) => some r))

noncomputable def F_impl_ProductOf_L1 (p0 : (List GDomino)) (z18 : (List Int)) (s21 : (List (List Int)) × Int × Int) : Option (((List (List Int)) × Int × Int) ⊕ Out ((List (List Int)) × Int × Int) ((List (List Int)) × Int)) :=
  (cond (decide (s21.2.2 < (z18.length : Int))) (bnd (idx z18 s21.2.2) fun y24 => (cond (decide (s21.2.1 ≠ 0)) (some (.inr (.brk (s21.1, s21.2.1, s21.2.2)))) (bnd (idx p0 y24) fun y29 => bnd (F_impl_squareOf y29) fun r33 => (cond (decide (r33.2 = 0)) (bnd (F_impl_productOf s21.1 r33.1) fun r37 => some (.inl (r37.1, r37.2, (w64 (s21.2.2 + 1))))) (some (.inl (s21.1, r33.2, (w64 (s21.2.2 + 1))))))))) (some (.inr (.brk (s21.1, s21.2.1, s21.2.2)))))

noncomputable def F_impl_ProductOf (p0 : (List GDomino)) (p1 : (List Int)) : Option ((List (List Int)) × Int) :=
  bnd (F_impl_ValidDominoes p0) fun r1 => (cond (!r1) (some (([] : (List (List Int))), 1)) (bnd (F_impl_matchRange p0 p1) fun r4 => (cond (!r4) (some (([] : (List (List Int))), 2)) (bnd (idx p1 0) fun y7 => bnd (idx p0 y7) fun y11 => bnd (F_impl_squareOf y11) fun r15 => bnd (slc p1 1 (p1.length : Int)) fun z18 => bnd (run (F_impl_ProductOf_L1 p0 z18) (r15.1, r15.2, 0)) (Out.elim (fun (s21 : (List (List Int)) × Int × Int) => (cond (decide (s21.2.1 ≠ 0)) (some (([] : (List (List Int))), s21.2.1)) (some (s21.1, 0)))) (fun (r : (List (List Int)) × Int) => some r))))))

noncomputable def F_slices_Equal_Sint64_int64_L1 (p0 : (List Int)) (p1 : (List Int)) (s2 : Int) : Option ((Int) ⊕ Out (Int) Bool) :=
  (cond (decide (s2 < (p0.length : Int))) (bnd (idx p0 s2) fun y5 => bnd (idx p1 s2) fun y9 => (cond (decide (y5 ≠ y9)) (some (.inr (.ret false))) (some (.inl (w64 (s2 + 1)))))) (some (.inr (.brk s2))))

noncomputable def F_slices_Equal_Sint64_int64 (p0 : (List Int)) (p1 : (List Int)) : Option (Bool) :=
  (cond (decide ((p0.length : Int) ≠ (p1.length : Int))) (some false) (bnd (run (F_slices_Equal_Sint64_int64_L1 p0 p1) 0) (Out.elim (fun (s2 : Int) => some true) (fun (r : Bool) => some r))))

noncomputable def F_impl_matchWord_L1 (p0 : (List GDomino)) (p1 : (List Int)) (s6 : (List Int) × (List Int) × Int) : Option (((List Int) × (List Int) × Int) ⊕ Out ((List Int) × (List Int) × Int) ((List Int) × Int)) :=
  (cond (decide (s6.2.2 < (p1.length : Int))) (bnd (idx p1 s6.2.2) fun y9 => bnd (idx p0 y9) fun y13 => bnd (idx p0 y9) fun y18 => bnd (app s6.1 y13.Top) fun z26 => bnd (app s6.2.1 y18.Bottom) fun z29 => some (.inl (z26, z29, (w64 (s6.2.2 + 1))))) (some (.inr (.brk (s6.1, s6.2.1, s6.2.2)))))

noncomputable def F_impl_matchWord (p0 : (List GDomino)) (p1 : (List Int)) : Option ((List Int) × Int) :=
  bnd (F_impl_matchRange p0 p1) fun r1 => (cond (!r1) (some (([] : (List Int)), 2)) (bnd (run (F_impl_matchWord_L1 p0 p1) (([] : List Int), ([] : List Int), 0)) (Out.elim (fun (s6 : (List Int) × (List Int) × Int) => (cond (decide (4000 < (s6.1.length : Int))) (some (([] : (List Int)), 5)) (cond (decide (4000 < (s6.2.1.length : Int))) (some (([] : (List Int)), 5)) (bnd (F_slices_Equal_Sint64_int64 s6.1 s6.2.1) fun r34 => (cond (!r34) (some (([] : (List Int)), 6)) (some (s6.1, 0))))))) (fun (r : (List Int) × Int) => some r))))


noncomputable def F_impl_MatchWord (p0 : (List GDomino)) (p1 : (List Int)) : Option ((List Int) × Int) :=
  bnd (F_impl_ValidDominoes p0) fun r1 => (cond (!r1) (some (([] : (List Int)), 1)) (bnd (F_impl_matchWord p0 p1) fun r4 => some (r4.1, r4.2)))

noncomputable def F_impl_divideSmall_L1 (p0 : (List Int)) (p1 : Int) (s4 : (List Int) × Int × Int) : Option (((List Int) × Int × Int) ⊕ Out ((List Int) × Int × Int) ((List Int) × Int)) :=
  (cond (decide (0 ≤ s4.2.2)) (bnd (idx p0 s4.2.2) fun y7 => bnd (nz p1) fun u11 => bnd (nz p1) fun u13 => bnd (idx s4.1 s4.2.2) fun y18 => some (.inl ((s4.1.set s4.2.2.toNat (w64 (Int.tdiv (w64 ((w64 (s4.2.1 * 1000000)) + y7)) p1))), (Int.tmod (w64 ((w64 (s4.2.1 * 1000000)) + y7)) p1), (w64 (s4.2.2 - 1))))) (some (.inr (.brk (s4.1, s4.2.1, s4.2.2)))))

noncomputable def F_impl_divideSmall (p0 : (List Int)) (p1 : Int) : Option ((List Int) × Int) :=
  bnd (mke (p0.length : Int) (0 : Int)) fun z1 => bnd (run (F_impl_divideSmall_L1 p0 p1) (z1, 0, (w64 ((p0.length : Int) - 1)))) (Out.elim (fun (s4 : (List Int) × Int × Int) => bnd (F_impl_trimmed s4.1) fun r20 => some (r20, s4.2.1)) (fun (r : (List Int) × Int) => some r))

noncomputable def F_impl_DigitsOf_L1 (p1 : Int) (s8 : (List Int) × (List Int)) : Option (((List Int) × (List Int)) ⊕ Out ((List Int) × (List Int)) ((List Int) × Int)) :=
  (cond (decide (0 < (s8.1.length : Int))) (bnd (F_impl_divideSmall s8.1 p1) fun r11 => bnd (app s8.2 ([r11.2] : List Int)) fun z15 => some (.inl (r11.1, z15))) (some (.inr (.brk (s8.1, s8.2)))))

noncomputable def F_impl_DigitsOf (p0 : (List Int)) (p1 : Int) : Option ((List Int) × Int) :=
  bnd (F_impl_IsNatural p0) fun r1 => (cond (!r1) (some (([] : (List Int)), 1)) (bnd (F_impl_within p1 2 1000000) fun r4 => (cond (!r4) (some (([] : (List Int)), 2)) (bnd (run (F_impl_DigitsOf_L1 p1) (p0, ([] : List Int))) (Out.elim (fun (s8 : (List Int) × (List Int)) => some (s8.2, 0)) (fun (r : (List Int) × Int) => some r))))))


noncomputable def F_impl_wordOfValue (p0 : (List Int)) : Option ((List Int)) :=
  bnd (F_impl_DigitsOf p0 11) fun r1 => bnd (F_impl_reversed r1.1) fun r4 => bnd (F_impl_moved r4 (-1)) fun r7 => some r7

noncomputable def F_impl_WordsOfSquare_L1 (p0 : (List (List Int))) (r35 : (List (List Int)) × Int) (s41 : Int) : Option ((Int) ⊕ Out (Int) (Option ((List Int) × (List Int) × Int))) :=
  (cond (decide (s41 < (p0.length : Int))) (bnd (idx p0 s41) fun y44 => bnd (idx r35.1 s41) fun y48 => bnd (F_slices_Equal_Sint64_int64 y44 y48) fun r52 => (cond (!r52) (some (.inr (.ret (some (([] : (List Int)), ([] : (List Int)), 9))))) (some (.inl (w64 (s41 + 1)))))) (some (.inr (.brk s41))))

noncomputable def F_impl_WordsOfSquare (p0 : (List (List Int))) : Option ((List Int) × (List Int) × Int) :=
  bnd (F_impl_isSquare p0) fun r1 => (cond (!r1) (some (([] : (List Int)), ([] : (List Int)), 1)) (bnd (bnd (idx p0 6) fun y6 => bnd (idx p0 7) fun y10 => bnd (F_impl_wordOfValue y6) fun r17 => bnd (F_impl_wordOfValue y10) fun r20 => some (.brk (r17, r20)) : Option (Out ((List Int) × (List Int)) ((List Int) × (List Int) × Int))) (Out.elim (fun (s4 : (List Int) × (List Int)) => bnd (F_impl_validDomino (⟨s4.1, s4.2⟩ : GDomino)) fun r32 => (cond (!r32) (some (([] : (List Int)), ([] : (List Int)), 9)) (bnd (F_impl_squareOf (⟨s4.1, s4.2⟩ : GDomino)) fun r35 => (cond (decide (r35.2 ≠ 0)) (some (([] : (List Int)), ([] : (List Int)), 9)) (cond (decide ((p0.length : Int) ≠ (r35.1.length : Int))) (some (([] : (List Int)), ([] : (List Int)), 9)) (bnd (run (F_impl_WordsOfSquare_L1 p0 r35) 0) (Out.elim (fun (s41 : Int) => some (s4.1, s4.2, 0)) (fun (r : Option ((List Int) × (List Int) × Int)) => r)))))))) (fun (r : (List Int) × (List Int) × Int) => some r))))


noncomputable def F_impl_IsBalanced (p0 : (List (List Int))) : Option (Bool) :=
  bnd (F_impl_isSquare p0) fun r4 => (cond r4 (bnd (idx p0 6) fun y7 => bnd (idx p0 7) fun y13 => bnd (F_slices_Equal_Sint64_int64 y7 y13) fun r19 => some r19) (some false))

noncomputable def F_laws_r8Same_L1 (p0 : (List Int)) (p1 : (List Int)) (s2 : Int) : Option ((Int) ⊕ Out (Int) Bool) :=
  (cond (decide (s2 < (p0.length : Int))) (bnd (idx p0 s2) fun y5 => bnd (idx p1 s2) fun y9 => (cond (decide (y5 ≠ y9)) (some (.inr (.ret false))) (some (.inl (w64 (s2 + 1)))))) (some (.inr (.brk s2))))

noncomputable def F_laws_r8Same (p0 : (List Int)) (p1 : (List Int)) : Option (Bool) :=
  (cond (decide ((p0.length : Int) ≠ (p1.length : Int))) (some false) (bnd (run (F_laws_r8Same_L1 p0 p1) 0) (Out.elim (fun (s2 : Int) => some true) (fun (r : Bool) => some r))))


noncomputable def F_laws_r8At (p0 : (List (Ik .u8))) (p1 : Int) (p2 : Int) : Option (Int) :=
  (cond (decide (p2 ≤ 1)) (some 0) (cond (decide ((p0.length : Int) ≤ p1)) (some 0) (bnd (idx p0 p1) fun y3 => bnd (nz p2) fun u7 => some (Int.tmod (w64 y3.val) p2))))


noncomputable def F_impl_MultiplySquares (p0 : (List (List Int))) (p1 : (List (List Int))) : Option ((List (List Int)) × Int) :=
  bnd (F_impl_isSquare p0) fun r1 => (cond (!r1) (some (([] : (List (List Int))), 1)) (bnd (F_impl_isSquare p1) fun r4 => (cond (!r4) (some (([] : (List (List Int))), 1)) (bnd (F_impl_productOf p0 p1) fun r7 => some (r7.1, r7.2)))))

noncomputable def F_laws_r8Lists_L1 (p0 : (List (List Int))) (p1 : (List (List Int))) (s2 : Int) : Option ((Int) ⊕ Out (Int) Bool) :=
  (cond (decide (s2 < (p0.length : Int))) (bnd (idx p0 s2) fun y5 => bnd (idx p1 s2) fun y9 => bnd (F_laws_r8Same y5 y9) fun r16 => (cond (!r16) (some (.inr (.ret false))) (some (.inl (w64 (s2 + 1)))))) (some (.inr (.brk s2))))

noncomputable def F_laws_r8Lists (p0 : (List (List Int))) (p1 : (List (List Int))) : Option (Bool) :=
  (cond (decide ((p0.length : Int) ≠ (p1.length : Int))) (some false) (bnd (run (F_laws_r8Lists_L1 p0 p1) 0) (Out.elim (fun (s2 : Int) => some true) (fun (r : Bool) => some r))))

noncomputable def F_laws_FnMatrices_L1 (r4 : (List GDomino) × (List Int)) (s31 : (List Int) × (List Int) × Int) : Option (((List Int) × (List Int) × Int) ⊕ Out ((List Int) × (List Int) × Int) Bool) :=
  (cond (decide (s31.2.2 < (r4.2.length : Int))) (bnd (idx r4.2 s31.2.2) fun y34 => bnd (idx r4.1 y34) fun y38 => bnd (app s31.1 y38.Top) fun z43 => bnd (idx r4.2 s31.2.2) fun y46 => bnd (idx r4.1 y46) fun y50 => bnd (app s31.2.1 y50.Bottom) fun z55 => some (.inl (z43, z55, (w64 (s31.2.2 + 1))))) (some (.inr (.brk (s31.1, s31.2.1, s31.2.2)))))

noncomputable def F_laws_FnMatrices (p0 : (List (Ik .u8))) (p1 : (List (Ik .u8))) : Option (Bool) :=
  bnd (F_laws_r8Long p0 p1) fun r1 => (cond r1 (some true) (bnd (F_spec_R8Dominoes p0) fun r4 => bnd (F_impl_ProductOf r4.1 r4.2) fun r7 => bnd (F_impl_MatchWord r4.1 r4.2) fun r10 => bnd ((cond (decide (r7.2 = 5)) (some (.ret true)) (cond (decide (r10.2 = 5)) (some (.ret true)) (some (.brk ())))) : Option (Out (Unit) Bool)) (Out.elim (fun (s13 : Unit) => bnd (F_impl_WordsOfSquare r7.1) fun r17 => bnd ((cond (decide (r7.2 ≠ 0)) (some (.ret false)) (cond (decide (r17.2.2 ≠ 0)) (some (.ret false)) (bnd (F_impl_IsBalanced r7.1) fun r24 => (cond (r24 != (decide (r10.2 = 0))) (some (.ret false)) (cond (decide (r10.2 ≠ 0)) (cond (decide (r10.2 ≠ 6)) (some (.ret false)) (some (.brk ()))) (some (.brk ()))))))) : Option (Out (Unit) Bool)) (Out.elim (fun (s20 : Unit) => bnd (run (F_laws_FnMatrices_L1 r4) (([] : List Int), ([] : List Int), 0)) (Out.elim (fun (s31 : (List Int) × (List Int) × Int) => bnd (bnd (F_laws_r8Same r17.1 s31.1) fun r60 => (cond (!r60) (some (.ret false)) (bnd (F_laws_r8Same r17.2.1 s31.2.1) fun r63 => (cond (!r63) (some (.ret false)) (some (.brk ()))))) : Option (Out (Unit) Bool)) (Out.elim (fun (s58 : Unit) => bnd (F_laws_r8At p1 0 (r4.2.length : Int)) fun r66 => (cond (decide (0 < r66)) (bnd (slc r4.2 0 r66) fun z69 => bnd (F_impl_ProductOf r4.1 z69) fun r72 => bnd (slc r4.2 r66 (r4.2.length : Int)) fun z75 => bnd (F_impl_ProductOf r4.1 z75) fun r78 => bnd (F_impl_MultiplySquares r72.1 r78.1) fun r81 => (cond (decide (r72.2 ≠ 0)) (some false) (cond (decide (r78.2 ≠ 0)) (some false) (cond (decide (r81.2 ≠ 0)) (some false) (bnd (F_laws_r8Lists r81.1 r7.1) fun r87 => some r87))))) (bnd (F_laws_r8Lists r7.1 r7.1) fun r89 => some r89))) (fun (r : Bool) => some r))) (fun (r : Bool) => some r))) (fun (r : Bool) => some r))) (fun (r : Bool) => some r))))

end Go.Fn
