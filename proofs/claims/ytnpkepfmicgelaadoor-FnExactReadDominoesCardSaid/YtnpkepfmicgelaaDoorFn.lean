/-
  What each function of the program computes, as a plain Lean function: printed by program off the translation. No condition.
-/
import Derived.Test.YtnpkepfmicgelaaDoorTy
namespace Go.Fn
open Go Go.Tc
set_option linter.unusedVariables false
noncomputable def F_spec_l01Split_L1 (p0 : ByteArray) (p1 : (Ik .u8)) (s2 : (List ByteArray) × Int × Int) : Option (((List ByteArray) × Int × Int) ⊕ Out ((List ByteArray) × Int × Int) (List ByteArray)) :=
  (cond (decide (s2.2.2 < (p0.size : Int))) (bnd (bidx p0 s2.2.2) fun y5 => (cond (decide (y5 = p1.val)) (bnd (bslc p0 s2.2.1 s2.2.2) fun z8 => bnd (app s2.1 ([z8] : List ByteArray)) fun z11 => some (.inl (z11, (w64 (s2.2.2 + 1)), (w64 (s2.2.2 + 1))))) (some (.inl (s2.1, s2.2.1, (w64 (s2.2.2 + 1))))))) (some (.inr (.brk (s2.1, s2.2.1, s2.2.2)))))

noncomputable def F_spec_l01Split (p0 : ByteArray) (p1 : (Ik .u8)) : Option ((List ByteArray)) :=
  bnd (run (F_spec_l01Split_L1 p0 p1) (([] : List ByteArray), 0, 0)) (Out.elim (fun (s2 : (List ByteArray) × Int × Int) => bnd (bslc p0 s2.2.1 (p0.size : Int)) fun z14 => bnd (app s2.1 ([z14] : List ByteArray)) fun z17 => some z17) (fun (r : (List ByteArray)) => some r))


noncomputable def F_spec_l01Digit (p0 : (Ik .u8)) : Option (Bool) :=
  (cond (decide (48 ≤ p0.val)) (some (decide (p0.val ≤ 57))) (some false))

noncomputable def F_spec_l03Read_L1 (p0 : ByteArray) (s3 : (List Int) × Int) : Option (((List Int) × Int) ⊕ Out ((List Int) × Int) ((List Int) × Bool)) :=
  (cond (decide (s3.2 < (p0.size : Int))) (bnd (bidx p0 s3.2) fun y6 => bnd (F_spec_l01Digit (⟨y6⟩ : Ik .u8)) fun r8 => (cond (!r8) (some (.inr (.ret (([] : (List Int)), false)))) (bnd (bidx p0 s3.2) fun y11 => bnd (app s3.1 ([(w64 (wk .u8 (y11 - 48)))] : List Int)) fun z14 => some (.inl (z14, (w64 (s3.2 + 1))))))) (some (.inr (.brk (s3.1, s3.2)))))

noncomputable def F_spec_l03Read (p0 : ByteArray) : Option ((List Int) × Bool) :=
  (cond (p0.toList == (⟨#[45]⟩ : ByteArray).toList) (some (([] : List Int), true)) (bnd (run (F_spec_l03Read_L1 p0) (([] : List Int), 0)) (Out.elim (fun (s3 : (List Int) × Int) => (cond (decide (0 < (s3.1.length : Int))) (some (s3.1, (decide ((s3.1.length : Int) ≤ 400)))) (some (s3.1, false)))) (fun (r : (List Int) × Bool) => some r))))


noncomputable def F_spec_l00In (p0 : Int) (p1 : Int) (p2 : Int) : Option (Bool) :=
  (cond (decide (p1 ≤ p0)) (some (decide (p0 ≤ p2))) (some false))

noncomputable def F_spec_l03Is_L1 (p0 : (List Int)) (s1 : Int) : Option ((Int) ⊕ Out (Int) Bool) :=
  (cond (decide (s1 < (p0.length : Int))) (bnd (idx p0 s1) fun y4 => bnd (F_spec_l00In y4 0 9) fun r8 => (cond (!r8) (some (.inr (.ret false))) (some (.inl (w64 (s1 + 1)))))) (some (.inr (.brk s1))))

noncomputable def F_spec_l03Is (p0 : (List Int)) : Option (Bool) :=
  bnd (run (F_spec_l03Is_L1 p0) 0) (Out.elim (fun (s1 : Int) => some (decide ((p0.length : Int) ≤ 400))) (fun (r : Bool) => some r))

noncomputable def F_spec_l32Is_L1 (p0 : (List GDomino)) (s5 : Int) : Option ((Int) ⊕ Out (Int) Bool) :=
  (cond (decide (s5 < (p0.length : Int))) (bnd (idx p0 s5) fun y8 => bnd (F_spec_l03Is y8.Top) fun r16 => (cond (!r16) (some (.inr (.ret false))) (bnd (idx p0 s5) fun y19 => bnd (F_spec_l03Is y19.Bottom) fun r27 => (cond (!r27) (some (.inr (.ret false))) (bnd (idx p0 s5) fun y30 => bnd (idx p0 s5) fun y38 => (cond (decide ((w64 ((y30.Top.length : Int) + (y38.Bottom.length : Int))) = 0)) (some (.inr (.ret false))) (some (.inl (w64 (s5 + 1)))))))))) (some (.inr (.brk s5))))

noncomputable def F_spec_l32Is (p0 : (List GDomino)) : Option (Bool) :=
  bnd ((cond (decide ((p0.length : Int) < 1)) (some (.ret false)) (cond (decide (80 < (p0.length : Int))) (some (.ret false)) (some (.brk ())))) : Option (Out (Unit) Bool)) (Out.elim (fun (s1 : Unit) => bnd (run (F_spec_l32Is_L1 p0) 0) (Out.elim (fun (s5 : Int) => some true) (fun (r : Bool) => some r))) (fun (r : Bool) => some r))

noncomputable def F_spec_l03Text_L1 (p0 : (List Int)) (s3 : (List (Ik .u8)) × Int) : Option (((List (Ik .u8)) × Int) ⊕ Out ((List (Ik .u8)) × Int) ByteArray) :=
  (cond (decide (s3.2 < (p0.length : Int))) (bnd (idx p0 s3.2) fun y6 => bnd (app s3.1 ([(⟨(wk .u8 (w64 (48 + y6)))⟩ : Ik .u8)] : List (Ik .u8))) fun z11 => some (.inl (z11, (w64 (s3.2 + 1))))) (some (.inr (.brk (s3.1, s3.2)))))

noncomputable def F_spec_l03Text (p0 : (List Int)) : Option (ByteArray) :=
  (cond (decide ((p0.length : Int) = 0)) (some (⟨#[45]⟩ : ByteArray)) (bnd (run (F_spec_l03Text_L1 p0) (([] : List (Ik .u8)), 0)) (Out.elim (fun (s3 : (List (Ik .u8)) × Int) => some (strOf s3.1)) (fun (r : ByteArray) => some r))))

noncomputable def F_spec_l32Text_L1 (p0 : (List GDomino)) (s1 : ByteArray × Int) : Option ((ByteArray × Int) ⊕ Out (ByteArray × Int) ByteArray) :=
  (cond (decide (s1.2 < (p0.length : Int))) (bnd ((cond (decide (0 < s1.2)) (bnd (cat s1.1 (⟨#[32]⟩ : ByteArray)) fun z7 => some (.brk z7)) (some (.brk s1.1))) : Option (Out (ByteArray) ByteArray)) (Out.elim (fun (s4 : ByteArray) => bnd (idx p0 s1.2) fun y9 => bnd (idx p0 s1.2) fun y14 => bnd (F_spec_l03Text y9.Top) fun r22 => bnd (cat r22 (⟨#[47]⟩ : ByteArray)) fun z24 => bnd (F_spec_l03Text y14.Bottom) fun r26 => bnd (cat z24 r26) fun z28 => bnd (cat s4 z28) fun z30 => some (.inl (z30, (w64 (s1.2 + 1))))) (fun (r : ByteArray) => some (.inr (.ret r))))) (some (.inr (.brk (s1.1, s1.2)))))

noncomputable def F_spec_l32Text (p0 : (List GDomino)) : Option (ByteArray) :=
  bnd (run (F_spec_l32Text_L1 p0) ((⟨#[]⟩ : ByteArray), 0)) (Out.elim (fun (s1 : ByteArray × Int) => some s1.1) (fun (r : ByteArray) => some r))

noncomputable def F_spec_ReadDominoes_L1 (r1 : (List ByteArray)) (s6 : (List GDomino) × Int) : Option (((List GDomino) × Int) ⊕ Out ((List GDomino) × Int) ((List GDomino) × Bool)) :=
  (cond (decide (s6.2 < (r1.length : Int))) (bnd (idx r1 s6.2) fun y9 => bnd (F_spec_l01Split y9 (⟨47⟩ : Ik .u8)) fun r14 => (cond (decide ((r14.length : Int) ≠ 2)) (some (.inr (.ret (([] : (List GDomino)), false)))) (bnd (idx r14 0) fun y18 => bnd (F_spec_l03Read y18) fun r23 => bnd (idx r14 1) fun y26 => bnd (F_spec_l03Read y26) fun r29 => (cond (!r23.2) (some (.inr (.ret (([] : (List GDomino)), false)))) (cond (!r29.2) (some (.inr (.ret (([] : (List GDomino)), false)))) (bnd (app s6.1 ([(⟨r23.1, r29.1⟩ : GDomino)] : List GDomino)) fun z35 => some (.inl (z35, (w64 (s6.2 + 1)))))))))) (some (.inr (.brk (s6.1, s6.2)))))

noncomputable def F_spec_ReadDominoes (p0 : ByteArray) : Option ((List GDomino) × Bool) :=
  bnd (F_spec_l01Split p0 (⟨32⟩ : Ik .u8)) fun r1 => (cond (decide (80 < (r1.length : Int))) (some (([] : (List GDomino)), false)) (bnd (run (F_spec_ReadDominoes_L1 r1) (([] : List GDomino), 0)) (Out.elim (fun (s6 : (List GDomino) × Int) => bnd (F_spec_l32Is s6.1) fun r38 => (cond (!r38) (some (([] : (List GDomino)), false)) (bnd (F_spec_l32Text s6.1) fun r41 => (cond (!(r41.toList == p0.toList)) (some (([] : (List GDomino)), false)) (some (s6.1, true)))))) (fun (r : (List GDomino) × Bool) => some r))))


noncomputable def F_internal_bytealg_Cutover (p0 : Int) : Option (Int) :=
  some (w64 (Int.tdiv (w64 (p0 + 16)) 8))

noncomputable def F_internal_bytealg_hashStr_string_L1 (p0 : ByteArray) (s1 : (Ik .u32) × Int) : Option (((Ik .u32) × Int) ⊕ Out ((Ik .u32) × Int) ((Ik .u32) × (Ik .u32))) :=
  (cond (decide (s1.2 < (p0.size : Int))) (bnd (bidx p0 s1.2) fun y4 => some (.inl ((⟨(wk .u32 ((wk .u32 (s1.1.val * 16777619)) + (wk .u32 y4)))⟩ : Ik .u32), (w64 (s1.2 + 1))))) (some (.inr (.brk (s1.1, s1.2)))))

noncomputable def F_internal_bytealg_hashStr_string_L2 (s6 : (Ik .u32) × (Ik .u32) × Int) : Option (((Ik .u32) × (Ik .u32) × Int) ⊕ Out ((Ik .u32) × (Ik .u32) × Int) ((Ik .u32) × (Ik .u32))) :=
  (cond (decide (0 < s6.2.2)) (cond (decide ((iand s6.2.2 1) ≠ 0)) (some (.inl ((⟨(wk .u32 (s6.1.val * s6.2.1.val))⟩ : Ik .u32), (⟨(wk .u32 (s6.2.1.val * s6.2.1.val))⟩ : Ik .u32), (Int.fdiv s6.2.2 (2 ^ min (1 : Int).toNat 64))))) (some (.inl (s6.1, (⟨(wk .u32 (s6.2.1.val * s6.2.1.val))⟩ : Ik .u32), (Int.fdiv s6.2.2 (2 ^ min (1 : Int).toNat 64)))))) (some (.inr (.brk (s6.1, s6.2.1, s6.2.2)))))

noncomputable def F_internal_bytealg_hashStr_string (p0 : ByteArray) : Option ((Ik .u32) × (Ik .u32)) :=
  bnd (run (F_internal_bytealg_hashStr_string_L1 p0) ((⟨0⟩ : Ik .u32), 0)) (Out.elim (fun (s1 : (Ik .u32) × Int) => bnd (run (F_internal_bytealg_hashStr_string_L2) ((⟨1⟩ : Ik .u32), (⟨16777619⟩ : Ik .u32), (p0.size : Int))) (Out.elim (fun (s6 : (Ik .u32) × (Ik .u32) × Int) => some (s1.1, s6.1)) (fun (r : (Ik .u32) × (Ik .u32)) => some r))) (fun (r : (Ik .u32) × (Ik .u32)) => some r))

noncomputable def F_internal_bytealg_IndexRabinKarp_string_L1 (p0 : ByteArray) (p1 : ByteArray) (s3 : (Ik .u32) × Int) : Option (((Ik .u32) × Int) ⊕ Out ((Ik .u32) × Int) Int) :=
  (cond (decide (s3.2 < (p1.size : Int))) (bnd (bidx p0 s3.2) fun y6 => some (.inl ((⟨(wk .u32 ((wk .u32 (s3.1.val * 16777619)) + (wk .u32 y6)))⟩ : Ik .u32), (w64 (s3.2 + 1))))) (some (.inr (.brk (s3.1, s3.2)))))

noncomputable def F_internal_bytealg_IndexRabinKarp_string_L2 (p0 : ByteArray) (p1 : ByteArray) (r1 : (Ik .u32) × (Ik .u32)) (s14 : (Ik .u32) × Int) : Option (((Ik .u32) × Int) ⊕ Out ((Ik .u32) × Int) Int) :=
  (cond (decide (s14.2 < (p0.size : Int))) (bnd (bidx p0 s14.2) fun y17 => bnd (bidx p0 (w64 (s14.2 - (p1.size : Int)))) fun y19 => (cond (decide ((wk .u32 ((wk .u32 ((wk .u32 (s14.1.val * 16777619)) + (wk .u32 y17))) - (wk .u32 (r1.2.val * (wk .u32 y19))))) = r1.1.val)) (bnd (bslc p0 (w64 ((w64 (s14.2 + 1)) - (p1.size : Int))) (w64 (s14.2 + 1))) fun z22 => (cond (z22.toList == p1.toList) (some (.inr (.ret (w64 ((w64 (s14.2 + 1)) - (p1.size : Int)))))) (some (.inl ((⟨(wk .u32 ((wk .u32 ((wk .u32 (s14.1.val * 16777619)) + (wk .u32 y17))) - (wk .u32 (r1.2.val * (wk .u32 y19)))))⟩ : Ik .u32), (w64 (s14.2 + 1))))))) (some (.inl ((⟨(wk .u32 ((wk .u32 ((wk .u32 (s14.1.val * 16777619)) + (wk .u32 y17))) - (wk .u32 (r1.2.val * (wk .u32 y19)))))⟩ : Ik .u32), (w64 (s14.2 + 1))))))) (some (.inr (.brk (s14.1, s14.2)))))

noncomputable def F_internal_bytealg_IndexRabinKarp_string (p0 : ByteArray) (p1 : ByteArray) : Option (Int) :=
  bnd (F_internal_bytealg_hashStr_string p1) fun r1 => bnd (run (F_internal_bytealg_IndexRabinKarp_string_L1 p0 p1) ((⟨0⟩ : Ik .u32), 0)) (Out.elim (fun (s3 : (Ik .u32) × Int) => bnd ((cond (decide (s3.1.val = r1.1.val)) (bnd (bslc p0 0 (p1.size : Int)) fun z11 => (cond (z11.toList == p1.toList) (some (.ret 0)) (some (.brk ())))) (some (.brk ()))) : Option (Out (Unit) Int)) (Out.elim (fun (s8 : Unit) => bnd (run (F_internal_bytealg_IndexRabinKarp_string_L2 p0 p1 r1) (s3.1, (p1.size : Int))) (Out.elim (fun (s14 : (Ik .u32) × Int) => some (-1)) (fun (r : Int) => some r))) (fun (r : Int) => some r))) (fun (r : Int) => some r))



noncomputable def F_impl_readDigits_L1 (p0 : ByteArray) (s2 : (List Int) × Int) : Option (((List Int) × Int) ⊕ Out ((List Int) × Int) ((List Int) × Bool)) :=
  (cond (decide (s2.2 < (p0.size : Int))) (bnd (bidx p0 s2.2) fun y5 => (cond (decide (y5 < 48)) (some (.inr (.ret (([] : (List Int)), false)))) (bnd (bidx p0 s2.2) fun y8 => (cond (decide (57 < y8)) (some (.inr (.ret (([] : (List Int)), false)))) (bnd (bidx p0 s2.2) fun y11 => bnd (app s2.1 ([(w64 (wk .u8 (y11 - 48)))] : List Int)) fun z14 => some (.inl (z14, (w64 (s2.2 + 1))))))))) (some (.inr (.brk (s2.1, s2.2)))))

noncomputable def F_impl_readDigits (p0 : ByteArray) : Option ((List Int) × Bool) :=
  bnd (run (F_impl_readDigits_L1 p0) (([] : List Int), 0)) (Out.elim (fun (s2 : (List Int) × Int) => some (s2.1, true)) (fun (r : (List Int) × Bool) => some r))


noncomputable def F_impl_ReadWord (p0 : ByteArray) : Option ((List Int) × Bool) :=
  (cond (p0.toList == (⟨#[45]⟩ : ByteArray).toList) (some (([] : List Int), true)) (bnd (F_impl_readDigits p0) fun r3 => (cond (!r3.2) (some (([] : (List Int)), false)) (cond (decide ((r3.1.length : Int) = 0)) (some (([] : (List Int)), false)) (cond (decide (400 < (r3.1.length : Int))) (some (([] : (List Int)), false)) (some (r3.1, true)))))))


noncomputable def F_impl_size_impl_Domino (p0 : (List GDomino)) : Option (Int) :=
  some (p0.length : Int)


noncomputable def F_impl_within (p0 : Int) (p1 : Int) (p2 : Int) : Option (Bool) :=
  (cond (decide (p1 ≤ p0)) (some (decide (p0 ≤ p2))) (some false))

noncomputable def F_slices_IndexFunc_Simpl_Domino_impl_Domino_L1 (p0 : (List GDomino)) (p1 : (GDomino → Option Bool)) (s1 : Int) : Option ((Int) ⊕ Out (Int) Int) :=
  (cond (decide (s1 < (p0.length : Int))) (bnd (idx p0 s1) fun y4 => bnd (p1 y4) fun r8 => (cond r8 (some (.inr (.ret s1))) (some (.inl (w64 (s1 + 1)))))) (some (.inr (.brk s1))))

noncomputable def F_slices_IndexFunc_Simpl_Domino_impl_Domino (p0 : (List GDomino)) (p1 : (GDomino → Option Bool)) : Option (Int) :=
  bnd (run (F_slices_IndexFunc_Simpl_Domino_impl_Domino_L1 p0 p1) 0) (Out.elim (fun (s1 : Int) => some (-1)) (fun (r : Int) => some r))


noncomputable def F_slices_ContainsFunc_Simpl_Domino_impl_Domino (p0 : (List GDomino)) (p1 : (GDomino → Option Bool)) : Option (Bool) :=
  bnd (F_slices_IndexFunc_Simpl_Domino_impl_Domino p0 p1) fun r1 => some (decide (0 ≤ r1))

noncomputable def F_slices_IndexFunc_SSint64_Sint64_L1 (p0 : (List (List Int))) (p1 : ((List Int) → Option Bool)) (s1 : Int) : Option ((Int) ⊕ Out (Int) Int) :=
  (cond (decide (s1 < (p0.length : Int))) (bnd (idx p0 s1) fun y4 => bnd (p1 y4) fun r8 => (cond r8 (some (.inr (.ret s1))) (some (.inl (w64 (s1 + 1)))))) (some (.inr (.brk s1))))

noncomputable def F_slices_IndexFunc_SSint64_Sint64 (p0 : (List (List Int))) (p1 : ((List Int) → Option Bool)) : Option (Int) :=
  bnd (run (F_slices_IndexFunc_SSint64_Sint64_L1 p0 p1) 0) (Out.elim (fun (s1 : Int) => some (-1)) (fun (r : Int) => some r))


noncomputable def F_slices_ContainsFunc_SSint64_Sint64 (p0 : (List (List Int))) (p1 : ((List Int) → Option Bool)) : Option (Bool) :=
  bnd (F_slices_IndexFunc_SSint64_Sint64 p0 p1) fun r1 => some (decide (0 ≤ r1))

noncomputable def F_impl_allWithin_L1 (p0 : (List Int)) (p1 : Int) (p2 : Int) (s1 : Int) : Option ((Int) ⊕ Out (Int) Bool) :=
  (cond (decide (s1 < (p0.length : Int))) (bnd (idx p0 s1) fun y4 => bnd (F_impl_within y4 p1 p2) fun r8 => (cond (!r8) (some (.inr (.ret false))) (some (.inl (w64 (s1 + 1)))))) (some (.inr (.brk s1))))

noncomputable def F_impl_allWithin (p0 : (List Int)) (p1 : Int) (p2 : Int) : Option (Bool) :=
  bnd (run (F_impl_allWithin_L1 p0 p1 p2) 0) (Out.elim (fun (s1 : Int) => some true) (fun (r : Bool) => some r))


noncomputable def F_impl_isLetters (p0 : (List Int)) : Option (Bool) :=
  bnd (F_impl_allWithin p0 0 9) fun r1 => some r1


noncomputable def F_impl_IsWord (p0 : (List Int)) : Option (Bool) :=
  (cond (decide ((p0.length : Int) ≤ 400)) (bnd (F_impl_isLetters p0) fun r2 => some r2) (some false))


noncomputable def F_impl_areWords_1 (p0 : (List Int)) : Option (Bool) :=
  bnd (F_impl_IsWord p0) fun r1 => some (!r1)


noncomputable def F_impl_areWords (p0 : (List (List Int))) : Option (Bool) :=
  bnd (F_slices_ContainsFunc_SSint64_Sint64 p0 (fun x_ => F_impl_areWords_1 x_)) fun r1 => some (!r1)


noncomputable def F_impl_validDomino (p0 : GDomino) : Option (Bool) :=
  bnd (F_impl_areWords ([p0.Top, p0.Bottom] : List (List Int))) fun r3 => (cond r3 (some (decide (0 < (w64 ((p0.Top.length : Int) + (p0.Bottom.length : Int)))))) (some false))


noncomputable def F_impl_ValidDominoes_1 (p0 : GDomino) : Option (Bool) :=
  bnd (F_impl_validDomino p0) fun r2 => some (!r2)


noncomputable def F_impl_ValidDominoes (p0 : (List GDomino)) : Option (Bool) :=
  bnd (F_impl_size_impl_Domino p0) fun r1 => bnd (F_impl_within r1 1 80) fun r3 => (cond r3 (bnd (F_slices_ContainsFunc_Simpl_Domino_impl_Domino p0 (fun x_ => F_impl_ValidDominoes_1 x_)) fun r6 => some (!r6)) (some false))

noncomputable def F_impl_digitsText_L1 (p0 : (List Int)) (s2 : Bool × (List (Ik .u8)) × Int) : Option ((Bool × (List (Ik .u8)) × Int) ⊕ Out (Bool × (List (Ik .u8)) × Int) ByteArray) :=
  (cond (decide (s2.2.2 < (p0.length : Int))) (bnd (idx p0 s2.2.2) fun y5 => (cond s2.1 (cond (decide ((wk .u32 (wk .i32 (48 + (wk .i32 y5)))) ≤ 127)) (bnd (app s2.2.1 ([(⟨(wk .u8 (wk .i32 (48 + (wk .i32 y5))))⟩ : Ik .u8)] : List (Ik .u8))) fun z15 => some (.inl (false, z15, (w64 (s2.2.2 + 1))))) none) (cond (decide ((wk .u32 (wk .i32 (48 + (wk .i32 y5)))) ≤ 127)) (bnd (app s2.2.1 ([(⟨(wk .u8 (wk .i32 (48 + (wk .i32 y5))))⟩ : Ik .u8)] : List (Ik .u8))) fun z21 => some (.inl (s2.1, z21, (w64 (s2.2.2 + 1))))) none))) (some (.inr (.brk (s2.1, s2.2.1, s2.2.2)))))

noncomputable def F_impl_digitsText (p0 : (List Int)) : Option (ByteArray) :=
  bnd (run (F_impl_digitsText_L1 p0) (true, ([] : (List (Ik .u8))), 0)) (Out.elim (fun (s2 : Bool × (List (Ik .u8)) × Int) => some (strOf s2.2.1)) (fun (r : ByteArray) => some r))


noncomputable def F_impl_wordText (p0 : (List Int)) : Option (ByteArray) :=
  (cond (decide ((p0.length : Int) = 0)) (some (⟨#[45]⟩ : ByteArray)) (bnd (F_impl_digitsText p0) fun r2 => some r2))


noncomputable def F_impl_DominoesText_L1 (p0 : (List GDomino)) (s5 : (List ByteArray) × Int) : Option (((List ByteArray) × Int) ⊕ Out ((List ByteArray) × Int) ByteArray) :=
  (cond (decide (s5.2 < (p0.length : Int))) (bnd (idx p0 s5.2) fun y8 => bnd (F_impl_wordText y8.Top) fun r16 => bnd (cat r16 (⟨#[47]⟩ : ByteArray)) fun z18 => bnd (F_impl_wordText y8.Bottom) fun r20 => bnd (cat z18 r20) fun z22 => bnd (app s5.1 ([z22] : List ByteArray)) fun z25 => some (.inl (z25, (w64 (s5.2 + 1))))) (some (.inr (.brk (s5.1, s5.2)))))

noncomputable def F_impl_DominoesText (p0 : (List GDomino)) : Option (ByteArray) :=
  bnd (F_impl_ValidDominoes p0) fun r1 => (cond (!r1) (some (⟨#[]⟩ : ByteArray)) (bnd (run (F_impl_DominoesText_L1 p0) (([] : List ByteArray), 0)) (Out.elim (fun (s5 : (List ByteArray) × Int) => bnd (joinG s5.1 (⟨#[32]⟩ : ByteArray)) fun r28 => some r28) (fun (r : ByteArray) => some r))))

noncomputable def F_impl_ReadDominoes_L1 (r2 : (List ByteArray)) (s5 : (List GDomino) × Int) : Option (((List GDomino) × Int) ⊕ Out ((List GDomino) × Int) ((List GDomino) × Bool)) :=
  (cond (decide (s5.2 < (r2.length : Int))) (bnd (idx r2 s5.2) fun y8 => bnd (cutG y8 (⟨#[47]⟩ : ByteArray)) fun r13 => bnd (F_impl_ReadWord r13.1) fun r16 => bnd (F_impl_ReadWord r13.2.1) fun r19 => bnd (app s5.1 ([(⟨r16.1, r19.1⟩ : GDomino)] : List GDomino)) fun z23 => some (.inl (z23, (w64 (s5.2 + 1))))) (some (.inr (.brk (s5.1, s5.2)))))

noncomputable def F_impl_ReadDominoes (p0 : ByteArray) : Option ((List GDomino) × Bool) :=
  bnd (splitG p0 (⟨#[32]⟩ : ByteArray)) fun r2 => bnd (run (F_impl_ReadDominoes_L1 r2) (([] : List GDomino), 0)) (Out.elim (fun (s5 : (List GDomino) × Int) => bnd (F_impl_ValidDominoes s5.1) fun r26 => (cond (!r26) (some (([] : (List GDomino)), false)) (bnd (F_impl_DominoesText s5.1) fun r29 => (cond (!(r29.toList == p0.toList)) (some (([] : (List GDomino)), false)) (some (s5.1, true)))))) (fun (r : (List GDomino) × Bool) => some r))

noncomputable def F_laws_eqInt64S_L1 (p0 : (List Int)) (p1 : (List Int)) (s2 : Int) : Option ((Int) ⊕ Out (Int) Bool) :=
  (cond (decide (s2 < (p0.length : Int))) (bnd (idx p0 s2) fun y5 => bnd (idx p1 s2) fun y9 => (cond (decide (y5 ≠ y9)) (some (.inr (.ret false))) (some (.inl (w64 (s2 + 1)))))) (some (.inr (.brk s2))))

noncomputable def F_laws_eqInt64S (p0 : (List Int)) (p1 : (List Int)) : Option (Bool) :=
  (cond (decide ((p0.length : Int) ≠ (p1.length : Int))) (some false) (bnd (run (F_laws_eqInt64S_L1 p0 p1) 0) (Out.elim (fun (s2 : Int) => some true) (fun (r : Bool) => some r))))


noncomputable def F_laws_eqDomino (p0 : GDomino) (p1 : GDomino) : Option (Bool) :=
  bnd (F_laws_eqInt64S p0.Top p1.Top) fun r3 => (cond (!r3) (some false) (bnd (F_laws_eqInt64S p0.Bottom p1.Bottom) fun r6 => (cond (!r6) (some false) (some true))))

noncomputable def F_laws_eqDominoS_L1 (p0 : (List GDomino)) (p1 : (List GDomino)) (s2 : Int) : Option ((Int) ⊕ Out (Int) Bool) :=
  (cond (decide (s2 < (p0.length : Int))) (bnd (idx p0 s2) fun y5 => bnd (idx p1 s2) fun y9 => bnd (F_laws_eqDomino y5 y9) fun r16 => (cond (!r16) (some (.inr (.ret false))) (some (.inl (w64 (s2 + 1)))))) (some (.inr (.brk s2))))

noncomputable def F_laws_eqDominoS (p0 : (List GDomino)) (p1 : (List GDomino)) : Option (Bool) :=
  (cond (decide ((p0.length : Int) ≠ (p1.length : Int))) (some false) (bnd (run (F_laws_eqDominoS_L1 p0 p1) 0) (Out.elim (fun (s2 : Int) => some true) (fun (r : Bool) => some r))))

noncomputable def F_laws_markInt64S_L1 (s1 : (List Int) × Int × Int) : Option (((List Int) × Int × Int) ⊕ Out ((List Int) × Int × Int) (Int × (List Int))) :=
  (cond (decide (s1.2.2 < (s1.1.length : Int))) (bnd (idx s1.1 s1.2.2) fun y4 => some (.inl ((s1.1.set s1.2.2.toNat s1.2.1), (w64 (s1.2.1 + 1)), (w64 (s1.2.2 + 1))))) (some (.inr (.brk (s1.1, s1.2.1, s1.2.2)))))

noncomputable def F_laws_markInt64S (p0 : (List Int)) (p1 : Int) : Option (Int × (List Int)) :=
  bnd (run (F_laws_markInt64S_L1) (p0, p1, 0)) (Out.elim (fun (s1 : (List Int) × Int × Int) => some (s1.2.1, s1.1)) (fun (r : Int × (List Int)) => some r))

noncomputable def F_laws_markDominoS_L1 (s1 : (List GDomino) × Int × Int) : Option (((List GDomino) × Int × Int) ⊕ Out ((List GDomino) × Int × Int) (Int × (List GDomino))) :=
  (cond (decide (s1.2.2 < (s1.1.length : Int))) (bnd (idx s1.1 s1.2.2) fun y4 => bnd (F_laws_markInt64S y4.Top s1.2.1) fun r10 => bnd (idx (s1.1.set s1.2.2.toNat (⟨r10.2, y4.Bottom⟩ : GDomino)) s1.2.2) fun y12 => bnd (F_laws_markInt64S y12.Bottom r10.1) fun r15 => some (.inl (((s1.1.set s1.2.2.toNat (⟨r10.2, y4.Bottom⟩ : GDomino)).set s1.2.2.toNat (⟨y12.Top, r15.2⟩ : GDomino)), r15.1, (w64 (s1.2.2 + 1))))) (some (.inr (.brk (s1.1, s1.2.1, s1.2.2)))))

noncomputable def F_laws_markDominoS (p0 : (List GDomino)) (p1 : Int) : Option (Int × (List GDomino)) :=
  bnd (run (F_laws_markDominoS_L1) (p0, p1, 0)) (Out.elim (fun (s1 : (List GDomino) × Int × Int) => some (s1.2.1, s1.1)) (fun (r : Int × (List GDomino)) => some r))

noncomputable def F_laws_heldInt64S_L1 (p0 : (List Int)) (s1 : Int × Int) : Option ((Int × Int) ⊕ Out (Int × Int) Int) :=
  (cond (decide (s1.2 < (p0.length : Int))) (bnd (idx p0 s1.2) fun y4 => (cond (decide (y4 ≠ s1.1)) (some (.inr (.ret (-1)))) (some (.inl ((w64 (s1.1 + 1)), (w64 (s1.2 + 1))))))) (some (.inr (.brk (s1.1, s1.2)))))

noncomputable def F_laws_heldInt64S (p0 : (List Int)) (p1 : Int) : Option (Int) :=
  bnd (run (F_laws_heldInt64S_L1 p0) (p1, 0)) (Out.elim (fun (s1 : Int × Int) => some s1.1) (fun (r : Int) => some r))

noncomputable def F_laws_heldDominoS_L1 (p0 : (List GDomino)) (s1 : Int × Int) : Option ((Int × Int) ⊕ Out (Int × Int) Int) :=
  (cond (decide (s1.2 < (p0.length : Int))) (bnd (idx p0 s1.2) fun y4 => bnd (F_laws_heldInt64S y4.Top s1.1) fun r9 => (cond (decide (r9 < 0)) (some (.inr (.ret (-1)))) (bnd (idx p0 s1.2) fun y12 => bnd (F_laws_heldInt64S y12.Bottom r9) fun r17 => (cond (decide (r17 < 0)) (some (.inr (.ret (-1)))) (some (.inl (r17, (w64 (s1.2 + 1))))))))) (some (.inr (.brk (s1.1, s1.2)))))

noncomputable def F_laws_heldDominoS (p0 : (List GDomino)) (p1 : Int) : Option (Int) :=
  bnd (run (F_laws_heldDominoS_L1 p0) (p1, 0)) (Out.elim (fun (s1 : Int × Int) => some s1.1) (fun (r : Int) => some r))


noncomputable def F_laws_FnExactReadDominoes (p0 : ByteArray) : Option (Bool) :=
  (cond (decide (1048576 < (p0.size : Int))) (some true) (bnd (F_spec_ReadDominoes p0) fun r2 => bnd (F_impl_ReadDominoes p0) fun r5 => bnd (bnd (F_laws_eqDominoS r5.1 r2.1) fun r10 => (cond (!r10) (some (.ret false)) (cond (r5.2 != r2.2) (some (.ret false)) (some (.brk ())))) : Option (Out (Unit) Bool)) (Out.elim (fun (s8 : Unit) => bnd (F_laws_markDominoS r5.1 1) fun r14 => bnd (F_laws_heldDominoS r14.2 1) fun r16 => (cond (decide (r16 < 0)) (some false) (cond (decide (r16 ≠ r14.1)) (some false) (bnd (F_impl_ReadDominoes p0) fun r20 => bnd (F_laws_eqDominoS r20.1 r2.1) fun r23 => (cond (!r23) (some false) (cond (r20.2 != r2.2) (some false) (bnd (F_laws_heldDominoS r14.2 1) fun r27 => (cond (decide (r27 < 0)) (some false) (cond (decide (r27 ≠ r14.1)) (some false) (some true)))))))))) (fun (r : Bool) => some r))))

end Go.Fn
