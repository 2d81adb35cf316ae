/-
  What each function of the program computes, as a plain Lean function: printed by program off the translation. No condition.
-/
import Derived.Test.YtnpkepfmicgelaaDoorTy
namespace Go.Fn
open Go Go.Tc
set_option linter.unusedVariables false
noncomputable def F_spec_l01Split_L1 (p0 : ByteArray) (p1 : (Ik .u8)) (s2 : (List ByteArray) × Int × Int) : Option (((List ByteArray) × Int × Int) ⊕ Out ((List ByteArray) × Int × Int) (List ByteArray)) :=
  (cond (decide (s2.2.2 < (p0.size : Int))) (bnd (bidx p0 s2.2.2) fun y5 => (cond (decide (y5 = p1.val)) (bnd (bslc p0 s2.2.1 s2.2.2) fun z8 => bnd (app s2.1 ([z8] : List ByteArray)) fun z11 => some (.inl (z11, (w64 (s2.2.2 + 1)), (w64 (s2.2.2 + 1))))) (some (.inl (s2.1, s2.2.1, (w64 (s2.2.2 + 1))))))) (some (.inr (.brk (s2.1, s2.2.1, s2.2.2)))))

noncomputable def F_spec_l01Split (p0 : ByteArray) (p1 : (Ik .u8)) : Option ((List ByteArray)) :=
  bnd (run (F_spec_l01Split_L1 p0 p1) (([] : List ByteArray), 0, 0)) (Out.elim (fun (s2 : (List ByteArray) × Int × Int) => bnd (bslc p0 s2.2.1 (p0.size : Int)) fun z14 => bnd (app s2.1 ([z14] : List ByteArray)) fun z17 => some z17) (fun (r : (List ByteArray)) => some r))


noncomputable def F_spec_l01Digit (p0 : (Ik .u8)) : Option (Bool) :=
  (cond (decide (48 ≤ p0.val)) (some (decide (p0.val ≤ 57))) (some false))

noncomputable def F_spec_l01Number_L1 (p0 : ByteArray) (s15 : Int × Int) : Option ((Int × Int) ⊕ Out (Int × Int) (Int × Bool)) :=
  (cond (decide (s15.2 < (p0.size : Int))) (bnd (bidx p0 s15.2) fun y18 => bnd (F_spec_l01Digit (⟨y18⟩ : Ik .u8)) fun r20 => (cond (!r20) (some (.inr (.ret (0, false)))) (bnd (bidx p0 s15.2) fun y23 => some (.inl ((w64 ((w64 (10 * s15.1)) + (w64 (wk .u8 (y23 - 48))))), (w64 (s15.2 + 1))))))) (some (.inr (.brk (s15.1, s15.2)))))

noncomputable def F_spec_l01Number (p0 : ByteArray) : Option (Int × Bool) :=
  bnd ((cond (decide (0 < (p0.size : Int))) (bnd (bidx p0 0) fun y4 => (cond (decide (y4 = 45)) (some (.brk 1)) (some (.brk 0)))) (some (.brk 0))) : Option (Out (Int) (Int × Bool))) (Out.elim (fun (s1 : Int) => bnd ((cond (decide ((p0.size : Int) = s1)) (some (.ret (0, false))) (cond (decide (18 < (w64 ((p0.size : Int) - s1)))) (some (.ret (0, false))) (bnd (bidx p0 s1) fun y11 => (cond (decide (y11 = 48)) (cond (decide (1 < (p0.size : Int))) (some (.ret (0, false))) (some (.brk ()))) (some (.brk ())))))) : Option (Out (Unit) (Int × Bool))) (Out.elim (fun (s7 : Unit) => bnd (run (F_spec_l01Number_L1 p0) (0, s1)) (Out.elim (fun (s15 : Int × Int) => (cond (decide (s1 = 1)) (some ((w64 (0 - s15.1)), true)) (some (s15.1, true)))) (fun (r : Int × Bool) => some r))) (fun (r : Int × Bool) => some r))) (fun (r : Int × Bool) => some r))


noncomputable def F_spec_l00In (p0 : Int) (p1 : Int) (p2 : Int) : Option (Bool) :=
  (cond (decide (p1 ≤ p0)) (some (decide (p0 ≤ p2))) (some false))


noncomputable def F_spec_l33Color (p0 : Int) : Option (Bool) :=
  bnd (F_spec_l00In p0 0 9999) fun r1 => some r1

noncomputable def F_spec_l33Is_L2 (p0 : (List GTile)) (s1 : Int) (y4 : GTile) (s23 : Int) : Option ((Int) ⊕ Out (Int) Bool) :=
  (cond (decide (s23 < s1)) (cond (decide (s1 < 300)) (bnd (idx p0 s23) fun y27 => (cond (decide (y27 = y4)) (some (.inr (.ret false))) (some (.inl (w64 (s23 + 1)))))) (some (.inr (.brk s23)))) (some (.inr (.brk s23))))

noncomputable def F_spec_l33Is_L1 (p0 : (List GTile)) (s1 : Int) : Option ((Int) ⊕ Out (Int) Bool) :=
  (cond (decide (s1 < (p0.length : Int))) (bnd (idx p0 s1) fun y4 => bnd (bnd (F_spec_l33Color y4.Left) fun r11 => (cond (!r11) (some (.ret false)) (bnd (F_spec_l33Color y4.Bottom) fun r14 => (cond (!r14) (some (.ret false)) (bnd (F_spec_l33Color y4.Right) fun r17 => (cond (!r17) (some (.ret false)) (bnd (F_spec_l33Color y4.Top) fun r20 => (cond (!r20) (some (.ret false)) (some (.brk ()))))))))) : Option (Out (Unit) Bool)) (Out.elim (fun (s9 : Unit) => bnd (run (F_spec_l33Is_L2 p0 s1 y4) 0) (Out.elim (fun (s23 : Int) => some (.inl (w64 (s1 + 1)))) (fun (r : Bool) => some (.inr (.ret r))))) (fun (r : Bool) => some (.inr (.ret r))))) (some (.inr (.brk s1))))

noncomputable def F_spec_l33Is (p0 : (List GTile)) : Option (Bool) :=
  bnd (run (F_spec_l33Is_L1 p0) 0) (Out.elim (fun (s1 : Int) => (cond (decide (0 < (p0.length : Int))) (some (decide ((p0.length : Int) ≤ 300))) (some false))) (fun (r : Bool) => some r))

noncomputable def F_spec_ReadTiles_L2 (r14 : (List ByteArray)) (s19 : (List Int) × Int) : Option (((List Int) × Int) ⊕ Out ((List Int) × Int) ((List GTile) × Bool)) :=
  (cond (decide (s19.2 < 4)) (bnd (idx r14 s19.2) fun y22 => bnd (F_spec_l01Number y22) fun r27 => (cond (!r27.2) (some (.inr (.ret (([] : (List GTile)), false)))) (bnd (app s19.1 ([r27.1] : List Int)) fun z31 => some (.inl (z31, (w64 (s19.2 + 1))))))) (some (.inr (.brk (s19.1, s19.2)))))

noncomputable def F_spec_ReadTiles_L1 (r1 : (List ByteArray)) (s6 : (List GTile) × Int) : Option (((List GTile) × Int) ⊕ Out ((List GTile) × Int) ((List GTile) × Bool)) :=
  (cond (decide (s6.2 < (r1.length : Int))) (bnd (idx r1 s6.2) fun y9 => bnd (F_spec_l01Split y9 (⟨46⟩ : Ik .u8)) fun r14 => (cond (decide ((r14.length : Int) ≠ 4)) (some (.inr (.ret (([] : (List GTile)), false)))) (bnd (run (F_spec_ReadTiles_L2 r14) (([] : List Int), 0)) (Out.elim (fun (s19 : (List Int) × Int) => bnd (idx s19.1 0) fun y34 => bnd (idx s19.1 1) fun y38 => bnd (idx s19.1 2) fun y42 => bnd (idx s19.1 3) fun y46 => bnd (app s6.1 ([(⟨y34, y38, y42, y46⟩ : GTile)] : List GTile)) fun z54 => some (.inl (z54, (w64 (s6.2 + 1))))) (fun (r : (List GTile) × Bool) => some (.inr (.ret r))))))) (some (.inr (.brk (s6.1, s6.2)))))

noncomputable def F_spec_ReadTiles (p0 : ByteArray) : Option ((List GTile) × Bool) :=
  bnd (F_spec_l01Split p0 (⟨32⟩ : Ik .u8)) fun r1 => (cond (decide (300 < (r1.length : Int))) (some (([] : (List GTile)), false)) (bnd (run (F_spec_ReadTiles_L1 r1) (([] : List GTile), 0)) (Out.elim (fun (s6 : (List GTile) × Int) => bnd (F_spec_l33Is s6.1) fun r57 => (cond (!r57) (some (([] : (List GTile)), false)) (some (s6.1, true)))) (fun (r : (List GTile) × Bool) => some r))))


noncomputable def F_internal_bytealg_Cutover (p0 : Int) : Option (Int) :=
  some (w64 (Int.tdiv (w64 (p0 + 16)) 8))

noncomputable def F_internal_bytealg_hashStr_string_L1 (p0 : ByteArray) (s1 : (Ik .u32) × Int) : Option (((Ik .u32) × Int) ⊕ Out ((Ik .u32) × Int) ((Ik .u32) × (Ik .u32))) :=
  (cond (decide (s1.2 < (p0.size : Int))) (bnd (bidx p0 s1.2) fun y4 => some (.inl ((⟨(wk .u32 ((wk .u32 (s1.1.val * 16777619)) + (wk .u32 y4)))⟩ : Ik .u32), (w64 (s1.2 + 1))))) (some (.inr (.brk (s1.1, s1.2)))))

noncomputable def F_internal_bytealg_hashStr_string_L2 (s6 : (Ik .u32) × (Ik .u32) × Int) : Option (((Ik .u32) × (Ik .u32) × Int) ⊕ Out ((Ik .u32) × (Ik .u32) × Int) ((Ik .u32) × (Ik .u32))) :=
  (cond (decide (0 < s6.2.2)) (cond (decide ((iand s6.2.2 1) ≠ 0)) (some (.inl ((⟨(wk .u32 (s6.1.val * s6.2.1.val))⟩ : Ik .u32), (⟨(wk .u32 (s6.2.1.val * s6.2.1.val))⟩ : Ik .u32), (Int.fdiv s6.2.2 (2 ^ min (1 : Int).toNat 64))))) (some (.inl (s6.1, (⟨(wk .u32 (s6.2.1.val * s6.2.1.val))⟩ : Ik .u32), (Int.fdiv s6.2.2 (2 ^ min (1 : Int).toNat 64)))))) (some (.inr (.brk (s6.1, s6.2.1, s6.2.2)))))

noncomputable def F_internal_bytealg_hashStr_string (p0 : ByteArray) : Option ((Ik .u32) × (Ik .u32)) :=
  bnd (run (F_internal_bytealg_hashStr_string_L1 p0) ((⟨0⟩ : Ik .u32), 0)) (Out.elim (fun (s1 : (Ik .u32) × Int) => bnd (run (F_internal_bytealg_hashStr_string_L2) ((⟨1⟩ : Ik .u32), (⟨16777619⟩ : Ik .u32), (p0.size : Int))) (Out.elim (fun (s6 : (Ik .u32) × (Ik .u32) × Int) => some (s1.1, s6.1)) (fun (r : (Ik .u32) × (Ik .u32)) => some r))) (fun (r : (Ik .u32) × (Ik .u32)) => some r))

noncomputable def F_internal_bytealg_IndexRabinKarp_string_L1 (p0 : ByteArray) (p1 : ByteArray) (s3 : (Ik .u32) × Int) : Option (((Ik .u32) × Int) ⊕ Out ((Ik .u32) × Int) Int) :=
  (cond (decide (s3.2 < (p1.size : Int))) (bnd (bidx p0 s3.2) fun y6 => some (.inl ((⟨(wk .u32 ((wk .u32 (s3.1.val * 16777619)) + (wk .u32 y6)))⟩ : Ik .u32), (w64 (s3.2 + 1))))) (some (.inr (.brk (s3.1, s3.2)))))

noncomputable def F_internal_bytealg_IndexRabinKarp_string_L2 (p0 : ByteArray) (p1 : ByteArray) (r1 : (Ik .u32) × (Ik .u32)) (s14 : (Ik .u32) × Int) : Option (((Ik .u32) × Int) ⊕ Out ((Ik .u32) × Int) Int) :=
  (cond (decide (s14.2 < (p0.size : Int))) (bnd (bidx p0 s14.2) fun y17 => bnd (bidx p0 (w64 (s14.2 - (p1.size : Int)))) fun y19 => (cond (decide ((wk .u32 ((wk .u32 ((wk .u32 (s14.1.val * 16777619)) + (wk .u32 y17))) - (wk .u32 (r1.2.val * (wk .u32 y19))))) = r1.1.val)) (bnd (bslc p0 (w64 ((w64 (s14.2 + 1)) - (p1.size : Int))) (w64 (s14.2 + 1))) fun z22 => (cond (z22.toList == p1.toList) (some (.inr (.ret (w64 ((w64 (s14.2 + 1)) - (p1.size : Int)))))) (some (.inl ((⟨(wk .u32 ((wk .u32 ((wk .u32 (s14.1.val * 16777619)) + (wk .u32 y17))) - (wk .u32 (r1.2.val * (wk .u32 y19)))))⟩ : Ik .u32), (w64 (s14.2 + 1))))))) (some (.inl ((⟨(wk .u32 ((wk .u32 ((wk .u32 (s14.1.val * 16777619)) + (wk .u32 y17))) - (wk .u32 (r1.2.val * (wk .u32 y19)))))⟩ : Ik .u32), (w64 (s14.2 + 1))))))) (some (.inr (.brk (s14.1, s14.2)))))

noncomputable def F_internal_bytealg_IndexRabinKarp_string (p0 : ByteArray) (p1 : ByteArray) : Option (Int) :=
  bnd (F_internal_bytealg_hashStr_string p1) fun r1 => bnd (run (F_internal_bytealg_IndexRabinKarp_string_L1 p0 p1) ((⟨0⟩ : Ik .u32), 0)) (Out.elim (fun (s3 : (Ik .u32) × Int) => bnd ((cond (decide (s3.1.val = r1.1.val)) (bnd (bslc p0 0 (p1.size : Int)) fun z11 => (cond (z11.toList == p1.toList) (some (.ret 0)) (some (.brk ())))) (some (.brk ()))) : Option (Out (Unit) Int)) (Out.elim (fun (s8 : Unit) => bnd (run (F_internal_bytealg_IndexRabinKarp_string_L2 p0 p1 r1) (s3.1, (p1.size : Int))) (Out.elim (fun (s14 : (Ik .u32) × Int) => some (-1)) (fun (r : Int) => some r))) (fun (r : Int) => some r))) (fun (r : Int) => some r))




noncomputable def F_internal_strconv_lower (p0 : (Ik .u8)) : Option ((Ik .u8)) :=
  some (⟨(kor .u8 p0.val 32)⟩ : Ik .u8)

noncomputable def F_internal_strconv_underscoreOK_L1 (s1 : ByteArray) (s14 : (Ik .i32) × Int × Bool) (s47 : (Ik .i32) × Int) : Option (((Ik .i32) × Int) ⊕ Out ((Ik .i32) × Int) Bool) :=
  (cond (decide (s47.2 < (s1.size : Int))) (bnd (bnd (bidx s1 s47.2) fun y52 => (cond (decide (48 ≤ y52)) (bnd (bidx s1 s47.2) fun y55 => (cond (decide (y55 ≤ 57)) (some (.brk true)) (cond s14.2.2 (bnd (bidx s1 s47.2) fun y59 => bnd (F_internal_strconv_lower (⟨y59⟩ : Ik .u8)) fun r61 => (cond (decide (97 ≤ r61.val)) (bnd (bidx s1 s47.2) fun y64 => bnd (F_internal_strconv_lower (⟨y64⟩ : Ik .u8)) fun r66 => some (.brk (decide (r66.val ≤ 102)))) (some (.brk false)))) (some (.brk false))))) (cond s14.2.2 (bnd (bidx s1 s47.2) fun y69 => bnd (F_internal_strconv_lower (⟨y69⟩ : Ik .u8)) fun r71 => (cond (decide (97 ≤ r71.val)) (bnd (bidx s1 s47.2) fun y74 => bnd (F_internal_strconv_lower (⟨y74⟩ : Ik .u8)) fun r76 => some (.brk (decide (r76.val ≤ 102)))) (some (.brk false)))) (some (.brk false)))) : Option (Out (Bool) Bool)) (Out.elim (fun (s50 : Bool) => (cond s50 (some (.inl ((⟨48⟩ : Ik .i32), (w64 (s47.2 + 1))))) (bnd (bidx s1 s47.2) fun y79 => (cond (decide (y79 = 95)) (cond (decide (s47.1.val ≠ 48)) (some (.inr (.ret false))) (some (.inl ((⟨95⟩ : Ik .i32), (w64 (s47.2 + 1)))))) (cond (decide (s47.1.val = 95)) (some (.inr (.ret false))) (some (.inl ((⟨33⟩ : Ik .i32), (w64 (s47.2 + 1)))))))))) (fun (r : Bool) => some (.inr (.ret r))))) (some (.inr (.brk (s47.1, s47.2)))))

noncomputable def F_internal_strconv_underscoreOK (p0 : ByteArray) : Option (Bool) :=
  bnd ((cond (decide (1 ≤ (p0.size : Int))) (bnd (bidx p0 0) fun y4 => (cond (decide (y4 = 45)) (bnd (bslc p0 1 (p0.size : Int)) fun z7 => some (.brk z7)) (bnd (bidx p0 0) fun y9 => (cond (decide (y9 = 43)) (bnd (bslc p0 1 (p0.size : Int)) fun z12 => some (.brk z12)) (some (.brk p0)))))) (some (.brk p0))) : Option (Out (ByteArray) Bool)) (Out.elim (fun (s1 : ByteArray) => bnd ((cond (decide (2 ≤ (s1.size : Int))) (bnd (bidx s1 0) fun y17 => (cond (decide (y17 = 48)) (bnd (bidx s1 1) fun y20 => bnd (F_internal_strconv_lower (⟨y20⟩ : Ik .u8)) fun r22 => (cond (decide (r22.val = 98)) (bnd (bidx s1 1) fun y25 => bnd (F_internal_strconv_lower (⟨y25⟩ : Ik .u8)) fun r27 => some (.brk ((⟨48⟩ : Ik .i32), 2, (decide (r27.val = 120))))) (bnd (bidx s1 1) fun y29 => bnd (F_internal_strconv_lower (⟨y29⟩ : Ik .u8)) fun r31 => (cond (decide (r31.val = 111)) (bnd (bidx s1 1) fun y34 => bnd (F_internal_strconv_lower (⟨y34⟩ : Ik .u8)) fun r36 => some (.brk ((⟨48⟩ : Ik .i32), 2, (decide (r36.val = 120))))) (bnd (bidx s1 1) fun y38 => bnd (F_internal_strconv_lower (⟨y38⟩ : Ik .u8)) fun r40 => (cond (decide (r40.val = 120)) (bnd (bidx s1 1) fun y43 => bnd (F_internal_strconv_lower (⟨y43⟩ : Ik .u8)) fun r45 => some (.brk ((⟨48⟩ : Ik .i32), 2, (decide (r45.val = 120))))) (some (.brk ((⟨94⟩ : Ik .i32), 0, false))))))))) (some (.brk ((⟨94⟩ : Ik .i32), 0, false))))) (some (.brk ((⟨94⟩ : Ik .i32), 0, false)))) : Option (Out ((Ik .i32) × Int × Bool) Bool)) (Out.elim (fun (s14 : (Ik .i32) × Int × Bool) => bnd (run (F_internal_strconv_underscoreOK_L1 s1 s14) (s14.1, s14.2.1)) (Out.elim (fun (s47 : (Ik .i32) × Int) => some (decide (s47.1.val ≠ 95))) (fun (r : Bool) => some r))) (fun (r : Bool) => some r))) (fun (r : Bool) => some r))


noncomputable def F_internal_strconv_small (p0 : Int) : Option (ByteArray) :=
  (cond (decide (p0 < 10)) (bnd (bslc (⟨#[48, 49, 50, 51, 52, 53, 54, 55, 56, 57, 97, 98, 99, 100, 101, 102, 103, 104, 105, 106, 107, 108, 109, 110, 111, 112, 113, 114, 115, 116, 117, 118, 119, 120, 121, 122]⟩ : ByteArray) p0 (w64 (p0 + 1))) fun z2 => some z2) (bnd (bslc (⟨#[48, 48, 48, 49, 48, 50, 48, 51, 48, 52, 48, 53, 48, 54, 48, 55, 48, 56, 48, 57, 49, 48, 49, 49, 49, 50, 49, 51, 49, 52, 49, 53, 49, 54, 49, 55, 49, 56, 49, 57, 50, 48, 50, 49, 50, 50, 50, 51, 50, 52, 50, 53, 50, 54, 50, 55, 50, 56, 50, 57, 51, 48, 51, 49, 51, 50, 51, 51, 51, 52, 51, 53, 51, 54, 51, 55, 51, 56, 51, 57, 52, 48, 52, 49, 52, 50, 52, 51, 52, 52, 52, 53, 52, 54, 52, 55, 52, 56, 52, 57, 53, 48, 53, 49, 53, 50, 53, 51, 53, 52, 53, 53, 53, 54, 53, 55, 53, 56, 53, 57, 54, 48, 54, 49, 54, 50, 54, 51, 54, 52, 54, 53, 54, 54, 54, 55, 54, 56, 54, 57, 55, 48, 55, 49, 55, 50, 55, 51, 55, 52, 55, 53, 55, 54, 55, 55, 55, 56, 55, 57, 56, 48, 56, 49, 56, 50, 56, 51, 56, 52, 56, 53, 56, 54, 56, 55, 56, 56, 56, 57, 57, 48, 57, 49, 57, 50, 57, 51, 57, 52, 57, 53, 57, 54, 57, 55, 57, 56, 57, 57]⟩ : ByteArray) (w64 (p0 * 2)) (w64 ((w64 (p0 * 2)) + 2))) fun z4 => some z4))


noncomputable def F_math_bits_Len64 (p0 : (Ik .u64)) : Option (Int) :=
  bnd ((cond (decide (4294967296 ≤ p0.val)) (some (.brk ((⟨(Int.fdiv p0.val (2 ^ min (32 : Int).toNat (IntKind.bits .u64)))⟩ : Ik .u64), 32))) (some (.brk (p0, 0)))) : Option (Out ((Ik .u64) × Int) Int)) (Out.elim (fun (s1 : (Ik .u64) × Int) => bnd ((cond (decide (65536 ≤ s1.1.val)) (some (.brk ((⟨(Int.fdiv s1.1.val (2 ^ min (16 : Int).toNat (IntKind.bits .u64)))⟩ : Ik .u64), (w64 (s1.2 + 16))))) (some (.brk (s1.1, s1.2)))) : Option (Out ((Ik .u64) × Int) Int)) (Out.elim (fun (s4 : (Ik .u64) × Int) => (cond (decide (256 ≤ s4.1.val)) (bnd (bidx (⟨#[0, 1, 2, 2, 3, 3, 3, 3, 4, 4, 4, 4, 4, 4, 4, 4, 5, 5, 5, 5, 5, 5, 5, 5, 5, 5, 5, 5, 5, 5, 5, 5, 6, 6, 6, 6, 6, 6, 6, 6, 6, 6, 6, 6, 6, 6, 6, 6, 6, 6, 6, 6, 6, 6, 6, 6, 6, 6, 6, 6, 6, 6, 6, 6, 7, 7, 7, 7, 7, 7, 7, 7, 7, 7, 7, 7, 7, 7, 7, 7, 7, 7, 7, 7, 7, 7, 7, 7, 7, 7, 7, 7, 7, 7, 7, 7, 7, 7, 7, 7, 7, 7, 7, 7, 7, 7, 7, 7, 7, 7, 7, 7, 7, 7, 7, 7, 7, 7, 7, 7, 7, 7, 7, 7, 7, 7, 7, 7, 8, 8, 8, 8, 8, 8, 8, 8, 8, 8, 8, 8, 8, 8, 8, 8, 8, 8, 8, 8, 8, 8, 8, 8, 8, 8, 8, 8, 8, 8, 8, 8, 8, 8, 8, 8, 8, 8, 8, 8, 8, 8, 8, 8, 8, 8, 8, 8, 8, 8, 8, 8, 8, 8, 8, 8, 8, 8, 8, 8, 8, 8, 8, 8, 8, 8, 8, 8, 8, 8, 8, 8, 8, 8, 8, 8, 8, 8, 8, 8, 8, 8, 8, 8, 8, 8, 8, 8, 8, 8, 8, 8, 8, 8, 8, 8, 8, 8, 8, 8, 8, 8, 8, 8, 8, 8, 8, 8, 8, 8, 8, 8, 8, 8, 8, 8, 8, 8, 8, 8, 8, 8, 8, 8, 8, 8, 8, 8]⟩ : ByteArray) (wk .u8 (Int.fdiv s4.1.val (2 ^ min (8 : Int).toNat (IntKind.bits .u64))))) fun y8 => some (w64 ((w64 (s4.2 + 8)) + (w64 y8)))) (bnd (bidx (⟨#[0, 1, 2, 2, 3, 3, 3, 3, 4, 4, 4, 4, 4, 4, 4, 4, 5, 5, 5, 5, 5, 5, 5, 5, 5, 5, 5, 5, 5, 5, 5, 5, 6, 6, 6, 6, 6, 6, 6, 6, 6, 6, 6, 6, 6, 6, 6, 6, 6, 6, 6, 6, 6, 6, 6, 6, 6, 6, 6, 6, 6, 6, 6, 6, 7, 7, 7, 7, 7, 7, 7, 7, 7, 7, 7, 7, 7, 7, 7, 7, 7, 7, 7, 7, 7, 7, 7, 7, 7, 7, 7, 7, 7, 7, 7, 7, 7, 7, 7, 7, 7, 7, 7, 7, 7, 7, 7, 7, 7, 7, 7, 7, 7, 7, 7, 7, 7, 7, 7, 7, 7, 7, 7, 7, 7, 7, 7, 7, 8, 8, 8, 8, 8, 8, 8, 8, 8, 8, 8, 8, 8, 8, 8, 8, 8, 8, 8, 8, 8, 8, 8, 8, 8, 8, 8, 8, 8, 8, 8, 8, 8, 8, 8, 8, 8, 8, 8, 8, 8, 8, 8, 8, 8, 8, 8, 8, 8, 8, 8, 8, 8, 8, 8, 8, 8, 8, 8, 8, 8, 8, 8, 8, 8, 8, 8, 8, 8, 8, 8, 8, 8, 8, 8, 8, 8, 8, 8, 8, 8, 8, 8, 8, 8, 8, 8, 8, 8, 8, 8, 8, 8, 8, 8, 8, 8, 8, 8, 8, 8, 8, 8, 8, 8, 8, 8, 8, 8, 8, 8, 8, 8, 8, 8, 8, 8, 8, 8, 8, 8, 8, 8, 8, 8, 8, 8, 8]⟩ : ByteArray) (wk .u8 s4.1.val)) fun y10 => some (w64 (s4.2 + (w64 y10)))))) (fun (r : Int) => some r))) (fun (r : Int) => some r))


noncomputable def F_internal_strconv_log10Pow2 (p0 : Int) : Option (Int) :=
  some (Int.fdiv (w64 (p0 * 78913)) (2 ^ min (18 : Int).toNat 64))


noncomputable def F_internal_strconv_bool2_int (p0 : Bool) : Option (Int) :=
  (cond p0 (some 1) (some 0))


noncomputable def F_internal_strconv_isPowerOfTwo (p0 : Int) : Option (Bool) :=
  some (decide ((iand p0 (w64 (p0 - 1))) = 0))




noncomputable def F_impl_Decimal (p0 : Int) : Option (ByteArray) :=
  bnd (fmtG p0 10) fun r1 => some r1


noncomputable def F_internal_stringslite_HasPrefix (p0 : ByteArray) (p1 : ByteArray) : Option (Bool) :=
  (cond (decide ((p1.size : Int) ≤ (p0.size : Int))) (bnd (bslc p0 0 (p1.size : Int)) fun z2 => some (z2.toList == p1.toList)) (some false))


noncomputable def F_internal_stringslite_TrimPrefix (p0 : ByteArray) (p1 : ByteArray) : Option (ByteArray) :=
  bnd (F_internal_stringslite_HasPrefix p0 p1) fun r1 => (cond r1 (bnd (bslc p0 (p1.size : Int) (p0.size : Int)) fun z4 => some z4) (some p0))


noncomputable def F_strings_TrimPrefix (p0 : ByteArray) (p1 : ByteArray) : Option (ByteArray) :=
  bnd (F_internal_stringslite_TrimPrefix p0 p1) fun r1 => some r1


noncomputable def F_impl_ReadDecimal (p0 : ByteArray) : Option (Int × Bool) :=
  bnd (parseG p0 10 64) fun r1 => (cond (!r1.2) (some (0, false)) (bnd (F_impl_Decimal r1.1) fun r5 => (cond (!(r5.toList == p0.toList)) (some (0, false)) (bnd (F_strings_TrimPrefix p0 (⟨#[45]⟩ : ByteArray)) fun r8 => (cond (decide (18 < (r8.size : Int))) (some (0, false)) (some (r1.1, true)))))))

noncomputable def F_impl_readDecimals_L1 (r2 : (List ByteArray)) (s5 : (List Int) × Int) : Option (((List Int) × Int) ⊕ Out ((List Int) × Int) ((List Int) × Bool)) :=
  (cond (decide (s5.2 < (r2.length : Int))) (bnd (idx r2 s5.2) fun y8 => bnd (F_impl_ReadDecimal y8) fun r13 => (cond (!r13.2) (some (.inr (.ret (([] : (List Int)), false)))) (bnd (app s5.1 ([r13.1] : List Int)) fun z17 => some (.inl (z17, (w64 (s5.2 + 1))))))) (some (.inr (.brk (s5.1, s5.2)))))

noncomputable def F_impl_readDecimals (p0 : ByteArray) : Option ((List Int) × Bool) :=
  bnd (splitG p0 (⟨#[44]⟩ : ByteArray)) fun r2 => bnd (run (F_impl_readDecimals_L1 r2) (([] : List Int), 0)) (Out.elim (fun (s5 : (List Int) × Int) => some (s5.1, true)) (fun (r : (List Int) × Bool) => some r))


noncomputable def F_impl_readDotted (p0 : ByteArray) : Option ((List Int)) :=
  (cond (p0.toList == (⟨#[45]⟩ : ByteArray).toList) (some ([] : (List Int))) (bnd (replG p0 (⟨#[46]⟩ : ByteArray) (⟨#[44]⟩ : ByteArray)) fun r2 => bnd (F_impl_readDecimals r2) fun r4 => (cond (!r4.2) (some ([(-1)] : List Int)) (some r4.1))))


noncomputable def F_impl_size_impl_Tile (p0 : (List GTile)) : Option (Int) :=
  some (p0.length : Int)


noncomputable def F_impl_within (p0 : Int) (p1 : Int) (p2 : Int) : Option (Bool) :=
  (cond (decide (p1 ≤ p0)) (some (decide (p0 ≤ p2))) (some false))

noncomputable def F_impl_allWithin_L1 (p0 : (List Int)) (p1 : Int) (p2 : Int) (s1 : Int) : Option ((Int) ⊕ Out (Int) Bool) :=
  (cond (decide (s1 < (p0.length : Int))) (bnd (idx p0 s1) fun y4 => bnd (F_impl_within y4 p1 p2) fun r8 => (cond (!r8) (some (.inr (.ret false))) (some (.inl (w64 (s1 + 1)))))) (some (.inr (.brk s1))))

noncomputable def F_impl_allWithin (p0 : (List Int)) (p1 : Int) (p2 : Int) : Option (Bool) :=
  bnd (run (F_impl_allWithin_L1 p0 p1 p2) 0) (Out.elim (fun (s1 : Int) => some true) (fun (r : Bool) => some r))


noncomputable def F_impl_colorsOk (p0 : (List Int)) : Option (Bool) :=
  bnd (F_impl_allWithin p0 0 9999) fun r1 => some r1

noncomputable def F_slices_Index_Simpl_Tile_impl_Tile_L1 (p0 : (List GTile)) (p1 : GTile) (s2 : Int) : Option ((Int) ⊕ Out (Int) Int) :=
  (cond (decide (s2 < (p0.length : Int))) (bnd (idx p0 s2) fun y5 => (cond (decide (p1 = y5)) (some (.inr (.ret s2))) (some (.inl (w64 (s2 + 1)))))) (some (.inr (.brk s2))))

noncomputable def F_slices_Index_Simpl_Tile_impl_Tile (p0 : (List GTile)) (p1 : GTile) : Option (Int) :=
  bnd (run (F_slices_Index_Simpl_Tile_impl_Tile_L1 p0 p1) 0) (Out.elim (fun (s2 : Int) => some (-1)) (fun (r : Int) => some r))

noncomputable def F_impl_ValidTiles_L1 (p0 : (List GTile)) (s6 : Int) : Option ((Int) ⊕ Out (Int) Bool) :=
  (cond (decide (s6 < (p0.length : Int))) (bnd (idx p0 s6) fun y9 => bnd (F_impl_colorsOk ([y9.Left, y9.Bottom, y9.Right, y9.Top] : List Int)) fun r15 => (cond (!r15) (some (.inr (.ret false))) (bnd (F_slices_Index_Simpl_Tile_impl_Tile p0 y9) fun r18 => (cond (decide (r18 ≠ s6)) (some (.inr (.ret false))) (some (.inl (w64 (s6 + 1)))))))) (some (.inr (.brk s6))))

noncomputable def F_impl_ValidTiles (p0 : (List GTile)) : Option (Bool) :=
  bnd (F_impl_size_impl_Tile p0) fun r1 => bnd (F_impl_within r1 1 300) fun r3 => (cond (!r3) (some false) (bnd (run (F_impl_ValidTiles_L1 p0) 0) (Out.elim (fun (s6 : Int) => some true) (fun (r : Bool) => some r))))


noncomputable def F_impl_decimals_L1 (p0 : (List Int)) (s2 : (List ByteArray) × Int) : Option (((List ByteArray) × Int) ⊕ Out ((List ByteArray) × Int) ByteArray) :=
  (cond (decide (s2.2 < (p0.length : Int))) (bnd (idx p0 s2.2) fun y5 => bnd (F_impl_Decimal y5) fun r9 => bnd (app s2.1 ([r9] : List ByteArray)) fun z12 => some (.inl (z12, (w64 (s2.2 + 1))))) (some (.inr (.brk (s2.1, s2.2)))))

noncomputable def F_impl_decimals (p0 : (List Int)) (p1 : ByteArray) : Option (ByteArray) :=
  bnd (run (F_impl_decimals_L1 p0) (([] : List ByteArray), 0)) (Out.elim (fun (s2 : (List ByteArray) × Int) => bnd (joinG s2.1 p1) fun r15 => some r15) (fun (r : ByteArray) => some r))

noncomputable def F_impl_TilesText_L1 (p0 : (List GTile)) (s5 : (List ByteArray) × Int) : Option (((List ByteArray) × Int) ⊕ Out ((List ByteArray) × Int) ByteArray) :=
  (cond (decide (s5.2 < (p0.length : Int))) (bnd (idx p0 s5.2) fun y8 => bnd (F_impl_decimals ([y8.Left, y8.Bottom, y8.Right, y8.Top] : List Int) (⟨#[46]⟩ : ByteArray)) fun r14 => bnd (app s5.1 ([r14] : List ByteArray)) fun z17 => some (.inl (z17, (w64 (s5.2 + 1))))) (some (.inr (.brk (s5.1, s5.2)))))

noncomputable def F_impl_TilesText (p0 : (List GTile)) : Option (ByteArray) :=
  bnd (F_impl_ValidTiles p0) fun r1 => (cond (!r1) (some (⟨#[]⟩ : ByteArray)) (bnd (run (F_impl_TilesText_L1 p0) (([] : List ByteArray), 0)) (Out.elim (fun (s5 : (List ByteArray) × Int) => bnd (joinG s5.1 (⟨#[32]⟩ : ByteArray)) fun r20 => some r20) (fun (r : ByteArray) => some r))))

noncomputable def F_impl_ReadTiles_L1 (r2 : (List ByteArray)) (s5 : (List GTile) × Int) : Option (((List GTile) × Int) ⊕ Out ((List GTile) × Int) ((List GTile) × Bool)) :=
  (cond (decide (s5.2 < (r2.length : Int))) (bnd (idx r2 s5.2) fun y8 => bnd (F_impl_readDotted y8) fun r13 => (cond (decide ((r13.length : Int) ≠ 4)) (some (.inr (.ret (([] : (List GTile)), false)))) (bnd (idx r13 0) fun y17 => bnd (idx r13 1) fun y21 => bnd (idx r13 2) fun y25 => bnd (idx r13 3) fun y29 => bnd (app s5.1 ([(⟨y17, y21, y25, y29⟩ : GTile)] : List GTile)) fun z37 => some (.inl (z37, (w64 (s5.2 + 1))))))) (some (.inr (.brk (s5.1, s5.2)))))

noncomputable def F_impl_ReadTiles (p0 : ByteArray) : Option ((List GTile) × Bool) :=
  bnd (splitG p0 (⟨#[32]⟩ : ByteArray)) fun r2 => bnd (run (F_impl_ReadTiles_L1 r2) (([] : List GTile), 0)) (Out.elim (fun (s5 : (List GTile) × Int) => bnd (F_impl_ValidTiles s5.1) fun r40 => (cond (!r40) (some (([] : (List GTile)), false)) (bnd (F_impl_TilesText s5.1) fun r43 => (cond (!(r43.toList == p0.toList)) (some (([] : (List GTile)), false)) (some (s5.1, true)))))) (fun (r : (List GTile) × Bool) => some r))


noncomputable def F_laws_eqTile (p0 : GTile) (p1 : GTile) : Option (Bool) :=
  (cond (decide (p0.Left ≠ p1.Left)) (some false) (cond (decide (p0.Bottom ≠ p1.Bottom)) (some false) (cond (decide (p0.Right ≠ p1.Right)) (some false) (cond (decide (p0.Top ≠ p1.Top)) (some false) (some true)))))

noncomputable def F_laws_eqTileS_L1 (p0 : (List GTile)) (p1 : (List GTile)) (s2 : Int) : Option ((Int) ⊕ Out (Int) Bool) :=
  (cond (decide (s2 < (p0.length : Int))) (bnd (idx p0 s2) fun y5 => bnd (idx p1 s2) fun y9 => bnd (F_laws_eqTile y5 y9) fun r16 => (cond (!r16) (some (.inr (.ret false))) (some (.inl (w64 (s2 + 1)))))) (some (.inr (.brk s2))))

noncomputable def F_laws_eqTileS (p0 : (List GTile)) (p1 : (List GTile)) : Option (Bool) :=
  (cond (decide ((p0.length : Int) ≠ (p1.length : Int))) (some false) (bnd (run (F_laws_eqTileS_L1 p0 p1) 0) (Out.elim (fun (s2 : Int) => some true) (fun (r : Bool) => some r))))

noncomputable def F_laws_markTileS_L1 (s1 : (List GTile) × Int × Int) : Option (((List GTile) × Int × Int) ⊕ Out ((List GTile) × Int × Int) (Int × (List GTile))) :=
  (cond (decide (s1.2.2 < (s1.1.length : Int))) (bnd (idx s1.1 s1.2.2) fun y4 => bnd (idx (s1.1.set s1.2.2.toNat (⟨s1.2.1, y4.Bottom, y4.Right, y4.Top⟩ : GTile)) s1.2.2) fun y9 => bnd (idx ((s1.1.set s1.2.2.toNat (⟨s1.2.1, y4.Bottom, y4.Right, y4.Top⟩ : GTile)).set s1.2.2.toNat (⟨y9.Left, (w64 (s1.2.1 + 1)), y9.Right, y9.Top⟩ : GTile)) s1.2.2) fun y11 => bnd (idx (((s1.1.set s1.2.2.toNat (⟨s1.2.1, y4.Bottom, y4.Right, y4.Top⟩ : GTile)).set s1.2.2.toNat (⟨y9.Left, (w64 (s1.2.1 + 1)), y9.Right, y9.Top⟩ : GTile)).set s1.2.2.toNat (⟨y11.Left, y11.Bottom, (w64 ((w64 (s1.2.1 + 1)) + 1)), y11.Top⟩ : GTile)) s1.2.2) fun y13 => some (.inl (((((s1.1.set s1.2.2.toNat (⟨s1.2.1, y4.Bottom, y4.Right, y4.Top⟩ : GTile)).set s1.2.2.toNat (⟨y9.Left, (w64 (s1.2.1 + 1)), y9.Right, y9.Top⟩ : GTile)).set s1.2.2.toNat (⟨y11.Left, y11.Bottom, (w64 ((w64 (s1.2.1 + 1)) + 1)), y11.Top⟩ : GTile)).set s1.2.2.toNat (⟨y13.Left, y13.Bottom, y13.Right, (w64 ((w64 ((w64 (s1.2.1 + 1)) + 1)) + 1))⟩ : GTile)), (w64 ((w64 ((w64 ((w64 (s1.2.1 + 1)) + 1)) + 1)) + 1)), (w64 (s1.2.2 + 1))))) (some (.inr (.brk (s1.1, s1.2.1, s1.2.2)))))

noncomputable def F_laws_markTileS (p0 : (List GTile)) (p1 : Int) : Option (Int × (List GTile)) :=
  bnd (run (F_laws_markTileS_L1) (p0, p1, 0)) (Out.elim (fun (s1 : (List GTile) × Int × Int) => some (s1.2.1, s1.1)) (fun (r : Int × (List GTile)) => some r))

noncomputable def F_laws_heldTileS_L1 (p0 : (List GTile)) (s1 : Int × Int) : Option ((Int × Int) ⊕ Out (Int × Int) Int) :=
  (cond (decide (s1.2 < (p0.length : Int))) (bnd (idx p0 s1.2) fun y4 => (cond (decide (y4.Left ≠ s1.1)) (some (.inr (.ret (-1)))) (bnd (idx p0 s1.2) fun y10 => (cond (decide (y10.Bottom ≠ (w64 (s1.1 + 1)))) (some (.inr (.ret (-1)))) (bnd (idx p0 s1.2) fun y16 => (cond (decide (y16.Right ≠ (w64 ((w64 (s1.1 + 1)) + 1)))) (some (.inr (.ret (-1)))) (bnd (idx p0 s1.2) fun y22 => (cond (decide (y22.Top ≠ (w64 ((w64 ((w64 (s1.1 + 1)) + 1)) + 1)))) (some (.inr (.ret (-1)))) (some (.inl ((w64 ((w64 ((w64 ((w64 (s1.1 + 1)) + 1)) + 1)) + 1)), (w64 (s1.2 + 1))))))))))))) (some (.inr (.brk (s1.1, s1.2)))))

noncomputable def F_laws_heldTileS (p0 : (List GTile)) (p1 : Int) : Option (Int) :=
  bnd (run (F_laws_heldTileS_L1 p0) (p1, 0)) (Out.elim (fun (s1 : Int × Int) => some s1.1) (fun (r : Int) => some r))


noncomputable def F_laws_FnExactReadTiles (p0 : ByteArray) : Option (Bool) :=
  (cond (decide (1048576 < (p0.size : Int))) (some true) (bnd (F_spec_ReadTiles p0) fun r2 => bnd (F_impl_ReadTiles p0) fun r5 => bnd (bnd (F_laws_eqTileS r5.1 r2.1) fun r10 => (cond (!r10) (some (.ret false)) (cond (r5.2 != r2.2) (some (.ret false)) (some (.brk ())))) : Option (Out (Unit) Bool)) (Out.elim (fun (s8 : Unit) => bnd (F_laws_markTileS r5.1 1) fun r14 => bnd (F_laws_heldTileS r14.2 1) fun r16 => (cond (decide (r16 < 0)) (some false) (cond (decide (r16 ≠ r14.1)) (some false) (bnd (F_impl_ReadTiles p0) fun r20 => bnd (F_laws_eqTileS r20.1 r2.1) fun r23 => (cond (!r23) (some false) (cond (r20.2 != r2.2) (some false) (bnd (F_laws_heldTileS r14.2 1) fun r27 => (cond (decide (r27 < 0)) (some false) (cond (decide (r27 ≠ r14.1)) (some false) (some true)))))))))) (fun (r : Bool) => some r))))

end Go.Fn
