/-
  What each function of the program computes, as a plain Lean function: printed by program off the translation. No condition.
-/
import Derived.Test.YtnpkepfmicgelaaDoorTy
namespace Go.Fn
open Go Go.Tc
set_option linter.unusedVariables false

noncomputable def F_laws_szTileS (p0 : (List GTile)) (p1 : Int) : Option (Int) :=
  (cond (decide ((w64 (p1 - (p0.length : Int))) < 0)) (some (-1)) (some (w64 (p1 - (p0.length : Int)))))


noncomputable def F_laws_toTile (p0 : GTile) : Option (GTile) :=
  some p0

noncomputable def F_laws_toTileS_L1 (p0 : (List GTile)) (s4 : (List GTile) × Int) : Option (((List GTile) × Int) ⊕ Out ((List GTile) × Int) (List GTile)) :=
  (cond (decide (s4.2 < (p0.length : Int))) (bnd (idx p0 s4.2) fun y7 => bnd (F_laws_toTile y7) fun r11 => bnd (idx s4.1 s4.2) fun y13 => some (.inl ((s4.1.set s4.2.toNat r11), (w64 (s4.2 + 1))))) (some (.inr (.brk (s4.1, s4.2)))))

noncomputable def F_laws_toTileS (p0 : (List GTile)) : Option ((List GTile)) :=
  bnd (mke (p0.length : Int) (⟨(0 : Int), (0 : Int), (0 : Int), (0 : Int)⟩ : GTile)) fun z1 => bnd (run (F_laws_toTileS_L1 p0) (z1, 0)) (Out.elim (fun (s4 : (List GTile) × Int) => some s4.1) (fun (r : (List GTile)) => some r))


noncomputable def F_spec_l00In (p0 : Int) (p1 : Int) (p2 : Int) : Option (Bool) :=
  (cond (decide (p1 ≤ p0)) (some (decide (p0 ≤ p2))) (some false))


noncomputable def F_spec_l33Color (p0 : Int) : Option (Bool) :=
  bnd (F_spec_l00In p0 0 9999) fun r1 => some r1

noncomputable def F_spec_l33Is_L2 (p0 : (List GTile)) (s1 : Int) (y4 : GTile) (s23 : Int) : Option ((Int) ⊕ Out (Int) Bool) :=
  (cond (decide (s23 < s1)) (cond (decide (s1 < 300)) (bnd (idx p0 s23) fun y27 => (cond (decide (y27 = y4)) (some (.inr (.ret false))) (some (.inl (w64 (s23 + 1)))))) (some (.inr (.brk s23)))) (some (.inr (.brk s23))))

noncomputable def F_spec_l33Is_L1 (p0 : (List GTile)) (s1 : Int) : Option ((Int) ⊕ Out (Int) Bool) :=
  (cond (decide (s1 < (p0.length : Int))) (bnd (idx p0 s1) fun y4 => bnd (bnd (F_spec_l33Color y4.Left) fun r11 => (cond (!r11) (some (.ret false)) (bnd (F_spec_l33Color y4.Bottom) fun r14 => (cond (!r14) (some (.ret false)) (bnd (F_spec_l33Color y4.Right) fun r17 => (cond (!r17) (some (.ret false)) (bnd (F_spec_l33Color y4.Top) fun r20 => (cond (!r20) (some (.ret false)) (some (.brk ()))))))))) : Option (Out (Unit) Bool)) (Out.elim (fun (s9 : Unit) => bnd (run (F_spec_l33Is_L2 p0 s1 y4) 0) (Out.elim (fun (s23 : Int) => some (.inl (w64 (s1 + 1)))) (fun (r : Bool) => some (.inr (.ret r))))) (fun (r : Bool) => some (.inr (.ret r))))) (some (.inr (.brk s1))))

noncomputable def F_spec_l33Is (p0 : (List GTile)) : Option (Bool) :=
  bnd (run (F_spec_l33Is_L1 p0) 0) (Out.elim (fun (s1 : Int) => (cond (decide (0 < (p0.length : Int))) (some (decide ((p0.length : Int) ≤ 300))) (some false))) (fun (r : Bool) => some r))

noncomputable def F_spec_l01Dec_L1 (s3 : (List (Ik .u8)) × Int) : Option (((List (Ik .u8)) × Int) ⊕ Out ((List (Ik .u8)) × Int) ByteArray) :=
  (cond (decide (s3.2 ≠ 0)) (cond (decide ((Int.tmod s3.2 10) < 0)) (bnd (app s3.1 ([(⟨(wk .u8 (w64 (48 + (w64 (0 - (Int.tmod s3.2 10))))))⟩ : Ik .u8)] : List (Ik .u8))) fun z8 => some (.inl (z8, (w64 (Int.tdiv s3.2 10))))) (bnd (app s3.1 ([(⟨(wk .u8 (w64 (48 + (Int.tmod s3.2 10))))⟩ : Ik .u8)] : List (Ik .u8))) fun z12 => some (.inl (z12, (w64 (Int.tdiv s3.2 10)))))) (some (.inr (.brk (s3.1, s3.2)))))

noncomputable def F_spec_l01Dec_L2 (s15 : (List (Ik .u8))) (s23 : (List (Ik .u8)) × Int) : Option (((List (Ik .u8)) × Int) ⊕ Out ((List (Ik .u8)) × Int) ByteArray) :=
  (cond (decide (0 ≤ s23.2)) (bnd (idx s15 s23.2) fun y26 => bnd (app s23.1 ([y26] : List (Ik .u8))) fun z32 => some (.inl (z32, (w64 (s23.2 - 1))))) (some (.inr (.brk (s23.1, s23.2)))))

noncomputable def F_spec_l01Dec (p0 : Int) : Option (ByteArray) :=
  (cond (decide (p0 = 0)) (some (⟨#[48]⟩ : ByteArray)) (bnd (run (F_spec_l01Dec_L1) (([] : List (Ik .u8)), p0)) (Out.elim (fun (s3 : (List (Ik .u8)) × Int) => bnd ((cond (decide (p0 < 0)) (bnd (app s3.1 ([(⟨45⟩ : Ik .u8)] : List (Ik .u8))) fun z19 => some (.brk z19)) (some (.brk s3.1))) : Option (Out ((List (Ik .u8))) ByteArray)) (Out.elim (fun (s15 : (List (Ik .u8))) => bnd (run (F_spec_l01Dec_L2 s15) (([] : List (Ik .u8)), (w64 ((s15.length : Int) - 1)))) (Out.elim (fun (s23 : (List (Ik .u8)) × Int) => some (strOf s23.1)) (fun (r : ByteArray) => some r))) (fun (r : ByteArray) => some r))) (fun (r : ByteArray) => some r))))

noncomputable def F_spec_l33Text_L1 (p0 : (List GTile)) (s1 : ByteArray × Int) : Option ((ByteArray × Int) ⊕ Out (ByteArray × Int) ByteArray) :=
  (cond (decide (s1.2 < (p0.length : Int))) (bnd ((cond (decide (0 < s1.2)) (bnd (cat s1.1 (⟨#[32]⟩ : ByteArray)) fun z7 => some (.brk z7)) (some (.brk s1.1))) : Option (Out (ByteArray) ByteArray)) (Out.elim (fun (s4 : ByteArray) => bnd (idx p0 s1.2) fun y9 => bnd (F_spec_l01Dec y9.Left) fun r17 => bnd (cat r17 (⟨#[46]⟩ : ByteArray)) fun z19 => bnd (F_spec_l01Dec y9.Bottom) fun r21 => bnd (cat z19 r21) fun z23 => bnd (cat z23 (⟨#[46]⟩ : ByteArray)) fun z25 => bnd (F_spec_l01Dec y9.Right) fun r27 => bnd (cat z25 r27) fun z29 => bnd (cat z29 (⟨#[46]⟩ : ByteArray)) fun z31 => bnd (F_spec_l01Dec y9.Top) fun r33 => bnd (cat z31 r33) fun z35 => bnd (cat s4 z35) fun z37 => some (.inl (z37, (w64 (s1.2 + 1))))) (fun (r : ByteArray) => some (.inr (.ret r))))) (some (.inr (.brk (s1.1, s1.2)))))

noncomputable def F_spec_l33Text (p0 : (List GTile)) : Option (ByteArray) :=
  bnd (run (F_spec_l33Text_L1 p0) ((⟨#[]⟩ : ByteArray), 0)) (Out.elim (fun (s1 : ByteArray × Int) => some s1.1) (fun (r : ByteArray) => some r))


noncomputable def F_spec_TilesText (p0 : (List GTile)) : Option (ByteArray) :=
  bnd (F_spec_l33Is p0) fun r1 => (cond (!r1) (some (⟨#[]⟩ : ByteArray)) (bnd (F_spec_l33Text p0) fun r4 => some r4))


noncomputable def F_impl_size_impl_Tile (p0 : (List GTile)) : Option (Int) :=
  some (p0.length : Int)


noncomputable def F_impl_within (p0 : Int) (p1 : Int) (p2 : Int) : Option (Bool) :=
  (cond (decide (p1 ≤ p0)) (some (decide (p0 ≤ p2))) (some false))

noncomputable def F_impl_allWithin_L1 (p0 : (List Int)) (p1 : Int) (p2 : Int) (s1 : Int) : Option ((Int) ⊕ Out (Int) Bool) :=
  (cond (decide (s1 < (p0.length : Int))) (bnd (idx p0 s1) fun y4 => bnd (F_impl_within y4 p1 p2) fun r8 => (cond (!r8) (some (.inr (.ret false))) (some (.inl (w64 (s1 + 1)))))) (some (.inr (.brk s1))))

noncomputable def F_impl_allWithin (p0 : (List Int)) (p1 : Int) (p2 : Int) : Option (Bool) :=
  bnd (run (F_impl_allWithin_L1 p0 p1 p2) 0) (Out.elim (fun (s1 : Int) => some true) (fun (r : Bool) => some r))


noncomputable def F_impl_colorsOk (p0 : (List Int)) : Option (Bool) :=
  bnd (F_impl_allWithin p0 0 9999) fun r1 => some r1

noncomputable def F_slices_Index_Simpl_Tile_impl_Tile_L1 (p0 : (List GTile)) (p1 : GTile) (s2 : Int) : Option ((Int) ⊕ Out (Int) Int) :=
  (cond (decide (s2 < (p0.length : Int))) (bnd (idx p0 s2) fun y5 => (cond (decide (p1 = y5)) (some (.inr (.ret s2))) (some (.inl (w64 (s2 + 1)))))) (some (.inr (.brk s2))))

noncomputable def F_slices_Index_Simpl_Tile_impl_Tile (p0 : (List GTile)) (p1 : GTile) : Option (Int) :=
  bnd (run (F_slices_Index_Simpl_Tile_impl_Tile_L1 p0 p1) 0) (Out.elim (fun (s2 : Int) => some (-1)) (fun (r : Int) => some r))

noncomputable def F_impl_ValidTiles_L1 (p0 : (List GTile)) (s6 : Int) : Option ((Int) ⊕ Out (Int) Bool) :=
  (cond (decide (s6 < (p0.length : Int))) (bnd (idx p0 s6) fun y9 => bnd (F_impl_colorsOk ([y9.Left, y9.Bottom, y9.Right, y9.Top] : List Int)) fun r15 => (cond (!r15) (some (.inr (.ret false))) (bnd (F_slices_Index_Simpl_Tile_impl_Tile p0 y9) fun r18 => (cond (decide (r18 ≠ s6)) (some (.inr (.ret false))) (some (.inl (w64 (s6 + 1)))))))) (some (.inr (.brk s6))))

noncomputable def F_impl_ValidTiles (p0 : (List GTile)) : Option (Bool) :=
  bnd (F_impl_size_impl_Tile p0) fun r1 => bnd (F_impl_within r1 1 300) fun r3 => (cond (!r3) (some false) (bnd (run (F_impl_ValidTiles_L1 p0) 0) (Out.elim (fun (s6 : Int) => some true) (fun (r : Bool) => some r))))


noncomputable def F_internal_strconv_small (p0 : Int) : Option (ByteArray) :=
  (cond (decide (p0 < 10)) (bnd (bslc (⟨#[48, 49, 50, 51, 52, 53, 54, 55, 56, 57, 97, 98, 99, 100, 101, 102, 103, 104, 105, 106, 107, 108, 109, 110, 111, 112, 113, 114, 115, 116, 117, 118, 119, 120, 121, 122]⟩ : ByteArray) p0 (w64 (p0 + 1))) fun z2 => some z2) (bnd (bslc (⟨#[48, 48, 48, 49, 48, 50, 48, 51, 48, 52, 48, 53, 48, 54, 48, 55, 48, 56, 48, 57, 49, 48, 49, 49, 49, 50, 49, 51, 49, 52, 49, 53, 49, 54, 49, 55, 49, 56, 49, 57, 50, 48, 50, 49, 50, 50, 50, 51, 50, 52, 50, 53, 50, 54, 50, 55, 50, 56, 50, 57, 51, 48, 51, 49, 51, 50, 51, 51, 51, 52, 51, 53, 51, 54, 51, 55, 51, 56, 51, 57, 52, 48, 52, 49, 52, 50, 52, 51, 52, 52, 52, 53, 52, 54, 52, 55, 52, 56, 52, 57, 53, 48, 53, 49, 53, 50, 53, 51, 53, 52, 53, 53, 53, 54, 53, 55, 53, 56, 53, 57, 54, 48, 54, 49, 54, 50, 54, 51, 54, 52, 54, 53, 54, 54, 54, 55, 54, 56, 54, 57, 55, 48, 55, 49, 55, 50, 55, 51, 55, 52, 55, 53, 55, 54, 55, 55, 55, 56, 55, 57, 56, 48, 56, 49, 56, 50, 56, 51, 56, 52, 56, 53, 56, 54, 56, 55, 56, 56, 56, 57, 57, 48, 57, 49, 57, 50, 57, 51, 57, 52, 57, 53, 57, 54, 57, 55, 57, 56, 57, 57]⟩ : ByteArray) (w64 (p0 * 2)) (w64 ((w64 (p0 * 2)) + 2))) fun z4 => some z4))


noncomputable def F_math_bits_Len64 (p0 : (Ik .u64)) : Option (Int) :=
  bnd ((cond (decide (4294967296 ≤ p0.val)) (some (.brk ((⟨(Int.fdiv p0.val (2 ^ min (32 : Int).toNat (IntKind.bits .u64)))⟩ : Ik .u64), 32))) (some (.brk (p0, 0)))) : Option (Out ((Ik .u64) × Int) Int)) (Out.elim (fun (s1 : (Ik .u64) × Int) => bnd ((cond (decide (65536 ≤ s1.1.val)) (some (.brk ((⟨(Int.fdiv s1.1.val (2 ^ min (16 : Int).toNat (IntKind.bits .u64)))⟩ : Ik .u64), (w64 (s1.2 + 16))))) (some (.brk (s1.1, s1.2)))) : Option (Out ((Ik .u64) × Int) Int)) (Out.elim (fun (s4 : (Ik .u64) × Int) => (cond (decide (256 ≤ s4.1.val)) (bnd (bidx (⟨#[0, 1, 2, 2, 3, 3, 3, 3, 4, 4, 4, 4, 4, 4, 4, 4, 5, 5, 5, 5, 5, 5, 5, 5, 5, 5, 5, 5, 5, 5, 5, 5, 6, 6, 6, 6, 6, 6, 6, 6, 6, 6, 6, 6, 6, 6, 6, 6, 6, 6, 6, 6, 6, 6, 6, 6, 6, 6, 6, 6, 6, 6, 6, 6, 7, 7, 7, 7, 7, 7, 7, 7, 7, 7, 7, 7, 7, 7, 7, 7, 7, 7, 7, 7, 7, 7, 7, 7, 7, 7, 7, 7, 7, 7, 7, 7, 7, 7, 7, 7, 7, 7, 7, 7, 7, 7, 7, 7, 7, 7, 7, 7, 7, 7, 7, 7, 7, 7, 7, 7, 7, 7, 7, 7, 7, 7, 7, 7, 8, 8, 8, 8, 8, 8, 8, 8, 8, 8, 8, 8, 8, 8, 8, 8, 8, 8, 8, 8, 8, 8, 8, 8, 8, 8, 8, 8, 8, 8, 8, 8, 8, 8, 8, 8, 8, 8, 8, 8, 8, 8, 8, 8, 8, 8, 8, 8, 8, 8, 8, 8, 8, 8, 8, 8, 8, 8, 8, 8, 8, 8, 8, 8, 8, 8, 8, 8, 8, 8, 8, 8, 8, 8, 8, 8, 8, 8, 8, 8, 8, 8, 8, 8, 8, 8, 8, 8, 8, 8, 8, 8, 8, 8, 8, 8, 8, 8, 8, 8, 8, 8, 8, 8, 8, 8, 8, 8, 8, 8, 8, 8, 8, 8, 8, 8, 8, 8, 8, 8, 8, 8, 8, 8, 8, 8, 8, 8]⟩ : ByteArray) (wk .u8 (Int.fdiv s4.1.val (2 ^ min (8 : Int).toNat (IntKind.bits .u64))))) fun y8 => some (w64 ((w64 (s4.2 + 8)) + (w64 y8)))) (bnd (bidx (⟨#[0, 1, 2, 2, 3, 3, 3, 3, 4, 4, 4, 4, 4, 4, 4, 4, 5, 5, 5, 5, 5, 5, 5, 5, 5, 5, 5, 5, 5, 5, 5, 5, 6, 6, 6, 6, 6, 6, 6, 6, 6, 6, 6, 6, 6, 6, 6, 6, 6, 6, 6, 6, 6, 6, 6, 6, 6, 6, 6, 6, 6, 6, 6, 6, 7, 7, 7, 7, 7, 7, 7, 7, 7, 7, 7, 7, 7, 7, 7, 7, 7, 7, 7, 7, 7, 7, 7, 7, 7, 7, 7, 7, 7, 7, 7, 7, 7, 7, 7, 7, 7, 7, 7, 7, 7, 7, 7, 7, 7, 7, 7, 7, 7, 7, 7, 7, 7, 7, 7, 7, 7, 7, 7, 7, 7, 7, 7, 7, 8, 8, 8, 8, 8, 8, 8, 8, 8, 8, 8, 8, 8, 8, 8, 8, 8, 8, 8, 8, 8, 8, 8, 8, 8, 8, 8, 8, 8, 8, 8, 8, 8, 8, 8, 8, 8, 8, 8, 8, 8, 8, 8, 8, 8, 8, 8, 8, 8, 8, 8, 8, 8, 8, 8, 8, 8, 8, 8, 8, 8, 8, 8, 8, 8, 8, 8, 8, 8, 8, 8, 8, 8, 8, 8, 8, 8, 8, 8, 8, 8, 8, 8, 8, 8, 8, 8, 8, 8, 8, 8, 8, 8, 8, 8, 8, 8, 8, 8, 8, 8, 8, 8, 8, 8, 8, 8, 8, 8, 8, 8, 8, 8, 8, 8, 8, 8, 8, 8, 8, 8, 8, 8, 8, 8, 8, 8, 8]⟩ : ByteArray) (wk .u8 s4.1.val)) fun y10 => some (w64 (s4.2 + (w64 y10)))))) (fun (r : Int) => some r))) (fun (r : Int) => some r))


noncomputable def F_internal_strconv_log10Pow2 (p0 : Int) : Option (Int) :=
  some (Int.fdiv (w64 (p0 * 78913)) (2 ^ min (18 : Int).toNat 64))


noncomputable def F_internal_strconv_bool2_int (p0 : Bool) : Option (Int) :=
  (cond p0 (some 1) (some 0))


noncomputable def F_internal_strconv_isPowerOfTwo (p0 : Int) : Option (Bool) :=
  some (decide ((iand p0 (w64 (p0 - 1))) = 0))



noncomputable def F_impl_Decimal (p0 : Int) : Option (ByteArray) :=
  bnd (fmtG p0 10) fun r1 => some r1


noncomputable def F_impl_decimals_L1 (p0 : (List Int)) (s2 : (List ByteArray) × Int) : Option (((List ByteArray) × Int) ⊕ Out ((List ByteArray) × Int) ByteArray) :=
  (cond (decide (s2.2 < (p0.length : Int))) (bnd (idx p0 s2.2) fun y5 => bnd (F_impl_Decimal y5) fun r9 => bnd (app s2.1 ([r9] : List ByteArray)) fun z12 => some (.inl (z12, (w64 (s2.2 + 1))))) (some (.inr (.brk (s2.1, s2.2)))))

noncomputable def F_impl_decimals (p0 : (List Int)) (p1 : ByteArray) : Option (ByteArray) :=
  bnd (run (F_impl_decimals_L1 p0) (([] : List ByteArray), 0)) (Out.elim (fun (s2 : (List ByteArray) × Int) => bnd (joinG s2.1 p1) fun r15 => some r15) (fun (r : ByteArray) => some r))

noncomputable def F_impl_TilesText_L1 (p0 : (List GTile)) (s5 : (List ByteArray) × Int) : Option (((List ByteArray) × Int) ⊕ Out ((List ByteArray) × Int) ByteArray) :=
  (cond (decide (s5.2 < (p0.length : Int))) (bnd (idx p0 s5.2) fun y8 => bnd (F_impl_decimals ([y8.Left, y8.Bottom, y8.Right, y8.Top] : List Int) (⟨#[46]⟩ : ByteArray)) fun r14 => bnd (app s5.1 ([r14] : List ByteArray)) fun z17 => some (.inl (z17, (w64 (s5.2 + 1))))) (some (.inr (.brk (s5.1, s5.2)))))

noncomputable def F_impl_TilesText (p0 : (List GTile)) : Option (ByteArray) :=
  bnd (F_impl_ValidTiles p0) fun r1 => (cond (!r1) (some (⟨#[]⟩ : ByteArray)) (bnd (run (F_impl_TilesText_L1 p0) (([] : List ByteArray), 0)) (Out.elim (fun (s5 : (List ByteArray) × Int) => bnd (joinG s5.1 (⟨#[32]⟩ : ByteArray)) fun r20 => some r20) (fun (r : ByteArray) => some r))))


noncomputable def F_laws_eqTile (p0 : GTile) (p1 : GTile) : Option (Bool) :=
  (cond (decide (p0.Left ≠ p1.Left)) (some false) (cond (decide (p0.Bottom ≠ p1.Bottom)) (some false) (cond (decide (p0.Right ≠ p1.Right)) (some false) (cond (decide (p0.Top ≠ p1.Top)) (some false) (some true)))))

noncomputable def F_laws_eqTileS_L1 (p0 : (List GTile)) (p1 : (List GTile)) (s2 : Int) : Option ((Int) ⊕ Out (Int) Bool) :=
  (cond (decide (s2 < (p0.length : Int))) (bnd (idx p0 s2) fun y5 => bnd (idx p1 s2) fun y9 => bnd (F_laws_eqTile y5 y9) fun r16 => (cond (!r16) (some (.inr (.ret false))) (some (.inl (w64 (s2 + 1)))))) (some (.inr (.brk s2))))

noncomputable def F_laws_eqTileS (p0 : (List GTile)) (p1 : (List GTile)) : Option (Bool) :=
  (cond (decide ((p0.length : Int) ≠ (p1.length : Int))) (some false) (bnd (run (F_laws_eqTileS_L1 p0 p1) 0) (Out.elim (fun (s2 : Int) => some true) (fun (r : Bool) => some r))))


noncomputable def F_laws_FnExactTilesText (p0 : (List GTile)) : Option (Bool) :=
  bnd (F_laws_szTileS p0 1048576) fun r1 => (cond (decide (r1 < 0)) (some true) (bnd (F_laws_toTileS p0) fun r4 => bnd (F_spec_TilesText r4) fun r7 => bnd (F_laws_toTileS p0) fun r9 => bnd (F_impl_TilesText r9) fun r12 => (cond (!(r12.toList == r7.toList)) (some false) (bnd (F_laws_toTileS p0) fun r15 => bnd (F_laws_eqTileS r9 r15) fun r18 => (cond (!r18) (some false) (some true))))))

end Go.Fn
