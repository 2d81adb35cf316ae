/-
  What each function of the program computes, as a plain Lean function: printed by program off the translation. No condition.
-/
import Derived.Test.YtnfkflljlncafaaTy
namespace Go.Fn
open Go Go.Tc
set_option linter.unusedVariables false

noncomputable def F_spec_l00In (p0 : Int) (p1 : Int) (p2 : Int) : Option (Bool) :=
  (cond (decide (p1 ≤ p0)) (some (decide (p0 ≤ p2))) (some false))


noncomputable def F_spec_l34Kind (p0 : Int) : Option (Bool) :=
  bnd (F_spec_l00In p0 1 13) fun r1 => some r1


noncomputable def F_spec_l34Kinds : Option ((List ByteArray)) :=
  some ([(⟨#[]⟩ : ByteArray), (⟨#[109, 97, 99, 104, 105, 110, 101]⟩ : ByteArray), (⟨#[112, 114, 111, 103, 114, 97, 109]⟩ : ByteArray), (⟨#[102, 117, 110, 99]⟩ : ByteArray), (⟨#[108, 97, 109]⟩ : ByteArray), (⟨#[99, 111, 109, 98]⟩ : ByteArray), (⟨#[119, 104, 105, 108, 101]⟩ : ByteArray), (⟨#[116, 97, 103]⟩ : ByteArray), (⟨#[114, 117, 108, 101, 115]⟩ : ByteArray), (⟨#[109, 97, 114, 107, 111, 118]⟩ : ByteArray), (⟨#[102, 114, 97, 99, 116, 105, 111, 110, 115]⟩ : ByteArray), (⟨#[100, 111, 109, 105, 110, 111, 101, 115]⟩ : ByteArray), (⟨#[116, 114, 101, 101]⟩ : ByteArray), (⟨#[112, 114, 111, 111, 102]⟩ : ByteArray)] : List ByteArray)


noncomputable def F_spec_KindName (p0 : Int) : Option (ByteArray) :=
  bnd (F_spec_l34Kind p0) fun r1 => (cond (!r1) (some (⟨#[]⟩ : ByteArray)) (bnd F_spec_l34Kinds fun r4 => bnd (idx r4 p0) fun y7 => some y7))


noncomputable def F_impl_within (p0 : Int) (p1 : Int) (p2 : Int) : Option (Bool) :=
  (cond (decide (p1 ≤ p0)) (some (decide (p0 ≤ p2))) (some false))


noncomputable def F_impl_kindNamesInOrder : Option ((List ByteArray)) :=
  some ([(⟨#[109, 97, 99, 104, 105, 110, 101]⟩ : ByteArray), (⟨#[112, 114, 111, 103, 114, 97, 109]⟩ : ByteArray), (⟨#[102, 117, 110, 99]⟩ : ByteArray), (⟨#[108, 97, 109]⟩ : ByteArray), (⟨#[99, 111, 109, 98]⟩ : ByteArray), (⟨#[119, 104, 105, 108, 101]⟩ : ByteArray), (⟨#[116, 97, 103]⟩ : ByteArray), (⟨#[114, 117, 108, 101, 115]⟩ : ByteArray), (⟨#[109, 97, 114, 107, 111, 118]⟩ : ByteArray), (⟨#[102, 114, 97, 99, 116, 105, 111, 110, 115]⟩ : ByteArray), (⟨#[100, 111, 109, 105, 110, 111, 101, 115]⟩ : ByteArray), (⟨#[116, 114, 101, 101]⟩ : ByteArray), (⟨#[112, 114, 111, 111, 102]⟩ : ByteArray)] : List ByteArray)


noncomputable def F_impl_KindName (p0 : Int) : Option (ByteArray) :=
  bnd (F_impl_within p0 1 13) fun r1 => (cond (!r1) (some (⟨#[]⟩ : ByteArray)) (bnd F_impl_kindNamesInOrder fun r4 => bnd (idx r4 (w64 (p0 - 1))) fun y7 => some y7))


noncomputable def F_laws_FnExactKindName (p0 : Int) : Option (Bool) :=
  bnd (F_spec_KindName p0) fun r1 => bnd (F_impl_KindName p0) fun r3 => (cond (!(r3.toList == r1.toList)) (some false) (some true))

noncomputable def F_spec_KindOf_L1 (p0 : ByteArray) (r1 : (List ByteArray)) (s4 : Int) : Option ((Int) ⊕ Out (Int) Int) :=
  (cond (decide (s4 < (r1.length : Int))) (bnd (idx r1 s4) fun y7 => (cond (y7.toList == p0.toList) (some (.inr (.ret s4))) (some (.inl (w64 (s4 + 1)))))) (some (.inr (.brk s4))))

noncomputable def F_spec_KindOf (p0 : ByteArray) : Option (Int) :=
  bnd F_spec_l34Kinds fun r1 => bnd (run (F_spec_KindOf_L1 p0 r1) 1) (Out.elim (fun (s4 : Int) => some 0) (fun (r : Int) => some r))

noncomputable def F_slices_Index_Sstring_string_L1 (p0 : (List ByteArray)) (p1 : ByteArray) (s1 : Int) : Option ((Int) ⊕ Out (Int) Int) :=
  (cond (decide (s1 < (p0.length : Int))) (bnd (idx p0 s1) fun y4 => (cond (p1.toList == y4.toList) (some (.inr (.ret s1))) (some (.inl (w64 (s1 + 1)))))) (some (.inr (.brk s1))))

noncomputable def F_slices_Index_Sstring_string (p0 : (List ByteArray)) (p1 : ByteArray) : Option (Int) :=
  bnd (run (F_slices_Index_Sstring_string_L1 p0 p1) 0) (Out.elim (fun (s1 : Int) => some (-1)) (fun (r : Int) => some r))


noncomputable def F_impl_KindOf (p0 : ByteArray) : Option (Int) :=
  bnd F_impl_kindNamesInOrder fun r1 => bnd (F_slices_Index_Sstring_string r1 p0) fun r4 => some (w64 (r4 + 1))


noncomputable def F_laws_FnExactKindOf (p0 : ByteArray) : Option (Bool) :=
  (cond (decide (1048576 < (p0.size : Int))) (some true) (bnd (F_spec_KindOf p0) fun r2 => bnd (F_impl_KindOf p0) fun r4 => (cond (decide (r4 ≠ r2)) (some false) (some true))))


noncomputable def F_laws_szTileS (p0 : (List GTile)) (p1 : Int) : Option (Int) :=
  (cond (decide ((w64 (p1 - (p0.length : Int))) < 0)) (some (-1)) (some (w64 (p1 - (p0.length : Int)))))


noncomputable def F_laws_toTile (p0 : GTile) : Option (GTile) :=
  some p0

noncomputable def F_laws_toTileS_L1 (p0 : (List GTile)) (s4 : (List GTile) × Int) : Option (((List GTile) × Int) ⊕ Out ((List GTile) × Int) (List GTile)) :=
  (cond (decide (s4.2 < (p0.length : Int))) (bnd (idx p0 s4.2) fun y7 => bnd (F_laws_toTile y7) fun r11 => bnd (idx s4.1 s4.2) fun y13 => some (.inl ((s4.1.set s4.2.toNat r11), (w64 (s4.2 + 1))))) (some (.inr (.brk (s4.1, s4.2)))))

noncomputable def F_laws_toTileS (p0 : (List GTile)) : Option ((List GTile)) :=
  bnd (mke (p0.length : Int) (⟨(0 : Int), (0 : Int), (0 : Int), (0 : Int)⟩ : GTile)) fun z1 => bnd (run (F_laws_toTileS_L1 p0) (z1, 0)) (Out.elim (fun (s4 : (List GTile) × Int) => some s4.1) (fun (r : (List GTile)) => some r))


noncomputable def F_spec_l33Color (p0 : Int) : Option (Bool) :=
  bnd (F_spec_l00In p0 0 9999) fun r1 => some r1

noncomputable def F_spec_l33Is_L2 (p0 : (List GTile)) (s1 : Int) (y4 : GTile) (s23 : Int) : Option ((Int) ⊕ Out (Int) Bool) :=
  (cond (decide (s23 < s1)) (cond (decide (s1 < 300)) (bnd (idx p0 s23) fun y27 => (cond (decide (y27 = y4)) (some (.inr (.ret false))) (some (.inl (w64 (s23 + 1)))))) (some (.inr (.brk s23)))) (some (.inr (.brk s23))))

noncomputable def F_spec_l33Is_L1 (p0 : (List GTile)) (s1 : Int) : Option ((Int) ⊕ Out (Int) Bool) :=
  (cond (decide (s1 < (p0.length : Int))) (bnd (idx p0 s1) fun y4 => bnd (bnd (F_spec_l33Color y4.Left) fun r11 => (cond (!r11) (some (.ret false)) (bnd (F_spec_l33Color y4.Bottom) fun r14 => (cond (!r14) (some (.ret false)) (bnd (F_spec_l33Color y4.Right) fun r17 => (cond (!r17) (some (.ret false)) (bnd (F_spec_l33Color y4.Top) fun r20 => (cond (!r20) (some (.ret false)) (some (.brk ()))))))))) : Option (Out (Unit) Bool)) (Out.elim (fun (s9 : Unit) => bnd (run (F_spec_l33Is_L2 p0 s1 y4) 0) (Out.elim (fun (s23 : Int) => some (.inl (w64 (s1 + 1)))) (fun (r : Bool) => some (.inr (.ret r))))) (fun (r : Bool) => some (.inr (.ret r))))) (some (.inr (.brk s1))))

noncomputable def F_spec_l33Is (p0 : (List GTile)) : Option (Bool) :=
  bnd (run (F_spec_l33Is_L1 p0) 0) (Out.elim (fun (s1 : Int) => (cond (decide (0 < (p0.length : Int))) (some (decide ((p0.length : Int) ≤ 300))) (some false))) (fun (r : Bool) => some r))


noncomputable def F_spec_ValidTiles (p0 : (List GTile)) : Option (Bool) :=
  bnd (F_spec_l33Is p0) fun r1 => some r1


noncomputable def F_impl_size_impl_Tile (p0 : (List GTile)) : Option (Int) :=
  some (p0.length : Int)

noncomputable def F_impl_allWithin_L1 (p0 : (List Int)) (p1 : Int) (p2 : Int) (s1 : Int) : Option ((Int) ⊕ Out (Int) Bool) :=
  (cond (decide (s1 < (p0.length : Int))) (bnd (idx p0 s1) fun y4 => bnd (F_impl_within y4 p1 p2) fun r8 => (cond (!r8) (some (.inr (.ret false))) (some (.inl (w64 (s1 + 1)))))) (some (.inr (.brk s1))))

noncomputable def F_impl_allWithin (p0 : (List Int)) (p1 : Int) (p2 : Int) : Option (Bool) :=
  bnd (run (F_impl_allWithin_L1 p0 p1 p2) 0) (Out.elim (fun (s1 : Int) => some true) (fun (r : Bool) => some r))


noncomputable def F_impl_colorsOk (p0 : (List Int)) : Option (Bool) :=
  bnd (F_impl_allWithin p0 0 9999) fun r1 => some r1

noncomputable def F_slices_Index_Simpl_Tile_impl_Tile_L1 (p0 : (List GTile)) (p1 : GTile) (s2 : Int) : Option ((Int) ⊕ Out (Int) Int) :=
  (cond (decide (s2 < (p0.length : Int))) (bnd (idx p0 s2) fun y5 => (cond (decide (p1 = y5)) (some (.inr (.ret s2))) (some (.inl (w64 (s2 + 1)))))) (some (.inr (.brk s2))))

noncomputable def F_slices_Index_Simpl_Tile_impl_Tile (p0 : (List GTile)) (p1 : GTile) : Option (Int) :=
  bnd (run (F_slices_Index_Simpl_Tile_impl_Tile_L1 p0 p1) 0) (Out.elim (fun (s2 : Int) => some (-1)) (fun (r : Int) => some r))

noncomputable def F_impl_ValidTiles_L1 (p0 : (List GTile)) (s6 : Int) : Option ((Int) ⊕ Out (Int) Bool) :=
  (cond (decide (s6 < (p0.length : Int))) (bnd (idx p0 s6) fun y9 => bnd (F_impl_colorsOk ([y9.Left, y9.Bottom, y9.Right, y9.Top] : List Int)) fun r15 => (cond (!r15) (some (.inr (.ret false))) (bnd (F_slices_Index_Simpl_Tile_impl_Tile p0 y9) fun r18 => (cond (decide (r18 ≠ s6)) (some (.inr (.ret false))) (some (.inl (w64 (s6 + 1)))))))) (some (.inr (.brk s6))))

noncomputable def F_impl_ValidTiles (p0 : (List GTile)) : Option (Bool) :=
  bnd (F_impl_size_impl_Tile p0) fun r1 => bnd (F_impl_within r1 1 300) fun r3 => (cond (!r3) (some false) (bnd (run (F_impl_ValidTiles_L1 p0) 0) (Out.elim (fun (s6 : Int) => some true) (fun (r : Bool) => some r))))


noncomputable def F_laws_eqTile (p0 : GTile) (p1 : GTile) : Option (Bool) :=
  (cond (decide (p0.Left ≠ p1.Left)) (some false) (cond (decide (p0.Bottom ≠ p1.Bottom)) (some false) (cond (decide (p0.Right ≠ p1.Right)) (some false) (cond (decide (p0.Top ≠ p1.Top)) (some false) (some true)))))

noncomputable def F_laws_eqTileS_L1 (p0 : (List GTile)) (p1 : (List GTile)) (s2 : Int) : Option ((Int) ⊕ Out (Int) Bool) :=
  (cond (decide (s2 < (p0.length : Int))) (bnd (idx p0 s2) fun y5 => bnd (idx p1 s2) fun y9 => bnd (F_laws_eqTile y5 y9) fun r16 => (cond (!r16) (some (.inr (.ret false))) (some (.inl (w64 (s2 + 1)))))) (some (.inr (.brk s2))))

noncomputable def F_laws_eqTileS (p0 : (List GTile)) (p1 : (List GTile)) : Option (Bool) :=
  (cond (decide ((p0.length : Int) ≠ (p1.length : Int))) (some false) (bnd (run (F_laws_eqTileS_L1 p0 p1) 0) (Out.elim (fun (s2 : Int) => some true) (fun (r : Bool) => some r))))


noncomputable def F_laws_FnExactValidTiles (p0 : (List GTile)) : Option (Bool) :=
  bnd (F_laws_szTileS p0 1048576) fun r1 => (cond (decide (r1 < 0)) (some true) (bnd (F_laws_toTileS p0) fun r4 => bnd (F_spec_ValidTiles r4) fun r7 => bnd (F_laws_toTileS p0) fun r9 => bnd (F_impl_ValidTiles r9) fun r12 => (cond (r12 != r7) (some false) (bnd (F_laws_toTileS p0) fun r15 => bnd (F_laws_eqTileS r9 r15) fun r18 => (cond (!r18) (some false) (some true))))))

end Go.Fn
