/-
  What each function of the program computes, as a plain Lean function: printed by program off the translation. No condition.
-/
import Derived.Test.YtgjihbmpbigilaaTy
namespace Go.Fn
open Go Go.Tc
set_option linter.unusedVariables false

noncomputable def F_laws_szTileS (p0 : (List GTile)) (p1 : Int) : Option (Int) :=
  (cond (decide ((w64 (p1 - (p0.length : Int))) < 0)) (some (-1)) (some (w64 (p1 - (p0.length : Int)))))


noncomputable def F_laws_toTile (p0 : GTile) : Option (GTile) :=
  some p0

noncomputable def F_laws_toTileS_L1 (p0 : (List GTile)) (s4 : (List GTile) × Int) : Option (((List GTile) × Int) ⊕ Out ((List GTile) × Int) (List GTile)) :=
  (cond (decide (s4.2 < (p0.length : Int))) (bnd (idx p0 s4.2) fun y7 => bnd (F_laws_toTile y7) fun r11 => bnd (idx s4.1 s4.2) fun y13 => some (.inl ((s4.1.set s4.2.toNat r11), (w64 (s4.2 + 1))))) (some (.inr (.brk (s4.1, s4.2)))))

noncomputable def F_laws_toTileS (p0 : (List GTile)) : Option ((List GTile)) :=
  bnd (mke (p0.length : Int) (⟨(0 : Int), (0 : Int), (0 : Int), (0 : Int)⟩ : GTile)) fun z1 => bnd (run (F_laws_toTileS_L1 p0) (z1, 0)) (Out.elim (fun (s4 : (List GTile) × Int) => some s4.1) (fun (r : (List GTile)) => some r))


noncomputable def F_spec_l00In (p0 : Int) (p1 : Int) (p2 : Int) : Option (Bool) :=
  (cond (decide (p1 ≤ p0)) (some (decide (p0 ≤ p2))) (some false))


noncomputable def F_spec_l33Color (p0 : Int) : Option (Bool) :=
  bnd (F_spec_l00In p0 0 9999) fun r1 => some r1

noncomputable def F_spec_l33Is_L2 (p0 : (List GTile)) (s1 : Int) (y4 : GTile) (s23 : Int) : Option ((Int) ⊕ Out (Int) Bool) :=
  (cond (decide (s23 < s1)) (cond (decide (s1 < 300)) (bnd (idx p0 s23) fun y27 => (cond (decide (y27 = y4)) (some (.inr (.ret false))) (some (.inl (w64 (s23 + 1)))))) (some (.inr (.brk s23)))) (some (.inr (.brk s23))))

noncomputable def F_spec_l33Is_L1 (p0 : (List GTile)) (s1 : Int) : Option ((Int) ⊕ Out (Int) Bool) :=
  (cond (decide (s1 < (p0.length : Int))) (bnd (idx p0 s1) fun y4 => bnd (bnd (F_spec_l33Color y4.Left) fun r11 => (cond (!r11) (some (.ret false)) (bnd (F_spec_l33Color y4.Bottom) fun r14 => (cond (!r14) (some (.ret false)) (bnd (F_spec_l33Color y4.Right) fun r17 => (cond (!r17) (some (.ret false)) (bnd (F_spec_l33Color y4.Top) fun r20 => (cond (!r20) (some (.ret false)) (some (.brk ()))))))))) : Option (Out (Unit) Bool)) (Out.elim (fun (s9 : Unit) => bnd (run (F_spec_l33Is_L2 p0 s1 y4) 0) (Out.elim (fun (s23 : Int) => some (.inl (w64 (s1 + 1)))) (fun (r : Bool) => some (.inr (.ret r))))) (fun (r : Bool) => some (.inr (.ret r))))) (some (.inr (.brk s1))))

noncomputable def F_spec_l33Is (p0 : (List GTile)) : Option (Bool) :=
  bnd (run (F_spec_l33Is_L1 p0) 0) (Out.elim (fun (s1 : Int) => (cond (decide (0 < (p0.length : Int))) (some (decide ((p0.length : Int) ≤ 300))) (some false))) (fun (r : Bool) => some r))


noncomputable def F_spec_ValidTiles (p0 : (List GTile)) : Option (Bool) :=
  bnd (F_spec_l33Is p0) fun r1 => some r1


noncomputable def F_impl_size_impl_Tile (p0 : (List GTile)) : Option (Int) :=
  some (p0.length : Int)


noncomputable def F_impl_within (p0 : Int) (p1 : Int) (p2 : Int) : Option (Bool) :=
  (cond (decide (p1 ≤ p0)) (some (decide (p0 ≤ p2))) (some false))

noncomputable def F_impl_allWithin_L1 (p0 : (List Int)) (p1 : Int) (p2 : Int) (s1 : Int) : Option ((Int) ⊕ Out (Int) Bool) :=
  (cond (decide (s1 < (p0.length : Int))) (bnd (idx p0 s1) fun y4 => bnd (F_impl_within y4 p1 p2) fun r8 => (cond (!r8) (some (.inr (.ret false))) (some (.inl (w64 (s1 + 1)))))) (some (.inr (.brk s1))))

noncomputable def F_impl_allWithin (p0 : (List Int)) (p1 : Int) (p2 : Int) : Option (Bool) :=
  bnd (run (F_impl_allWithin_L1 p0 p1 p2) 0) (Out.elim (fun (s1 : Int) => some true) (fun (r : Bool) => some r))


noncomputable def F_impl_colorsOk (p0 : (List Int)) : Option (Bool) :=
  bnd (F_impl_allWithin p0 0 9999) fun r1 => some r1

noncomputable def F_slices_Index_Simpl_Tile_impl_Tile_L1 (p0 : (List GTile)) (p1 : GTile) (s2 : Int) : Option ((Int) ⊕ Out (Int) Int) :=
  (cond (decide (s2 < (p0.length : Int))) (bnd (idx p0 s2) fun y5 => (cond (decide (p1 = y5)) (some (.inr (.ret s2))) (some (.inl (w64 (s2 + 1)))))) (some (.inr (.brk s2))))

noncomputable def F_slices_Index_Simpl_Tile_impl_Tile (p0 : (List GTile)) (p1 : GTile) : Option (Int) :=
  bnd (run (F_slices_Index_Simpl_Tile_impl_Tile_L1 p0 p1) 0) (Out.elim (fun (s2 : Int) => some (-1)) (fun (r : Int) => some r))

noncomputable def F_impl_ValidTiles_L1 (p0 : (List GTile)) (s6 : Int) : Option ((Int) ⊕ Out (Int) Bool) :=
  (cond (decide (s6 < (p0.length : Int))) (bnd (idx p0 s6) fun y9 => bnd (F_impl_colorsOk ([y9.Left, y9.Bottom, y9.Right, y9.Top] : List Int)) fun r15 => (cond (!r15) (some (.inr (.ret false))) (bnd (F_slices_Index_Simpl_Tile_impl_Tile p0 y9) fun r18 => (cond (decide (r18 ≠ s6)) (some (.inr (.ret false))) (some (.inl (w64 (s6 + 1)))))))) (some (.inr (.brk s6))))

noncomputable def F_impl_ValidTiles (p0 : (List GTile)) : Option (Bool) :=
  bnd (F_impl_size_impl_Tile p0) fun r1 => bnd (F_impl_within r1 1 300) fun r3 => (cond (!r3) (some false) (bnd (run (F_impl_ValidTiles_L1 p0) 0) (Out.elim (fun (s6 : Int) => some true) (fun (r : Bool) => some r))))


noncomputable def F_laws_eqTile (p0 : GTile) (p1 : GTile) : Option (Bool) :=
  (cond (decide (p0.Left ≠ p1.Left)) (some false) (cond (decide (p0.Bottom ≠ p1.Bottom)) (some false) (cond (decide (p0.Right ≠ p1.Right)) (some false) (cond (decide (p0.Top ≠ p1.Top)) (some false) (some true)))))

noncomputable def F_laws_eqTileS_L1 (p0 : (List GTile)) (p1 : (List GTile)) (s2 : Int) : Option ((Int) ⊕ Out (Int) Bool) :=
  (cond (decide (s2 < (p0.length : Int))) (bnd (idx p0 s2) fun y5 => bnd (idx p1 s2) fun y9 => bnd (F_laws_eqTile y5 y9) fun r16 => (cond (!r16) (some (.inr (.ret false))) (some (.inl (w64 (s2 + 1)))))) (some (.inr (.brk s2))))

noncomputable def F_laws_eqTileS (p0 : (List GTile)) (p1 : (List GTile)) : Option (Bool) :=
  (cond (decide ((p0.length : Int) ≠ (p1.length : Int))) (some false) (bnd (run (F_laws_eqTileS_L1 p0 p1) 0) (Out.elim (fun (s2 : Int) => some true) (fun (r : Bool) => some r))))


noncomputable def F_laws_FnExactValidTiles (p0 : (List GTile)) : Option (Bool) :=
  bnd (F_laws_szTileS p0 1048576) fun r1 => (cond (decide (r1 < 0)) (some true) (bnd (F_laws_toTileS p0) fun r4 => bnd (F_spec_ValidTiles r4) fun r7 => bnd (F_laws_toTileS p0) fun r9 => bnd (F_impl_ValidTiles r9) fun r12 => (cond (r12 != r7) (some false) (bnd (F_laws_toTileS p0) fun r15 => bnd (F_laws_eqTileS r9 r15) fun r18 => (cond (!r18) (some false) (some true))))))


noncomputable def F_laws_szInt64S (p0 : (List Int)) (p1 : Int) : Option (Int) :=
  (cond (decide ((w64 (p1 - (p0.length : Int))) < 0)) (some (-1)) (some (w64 (p1 - (p0.length : Int)))))

noncomputable def F_laws_szInt64SS_L1 (p0 : (List (List Int))) (s2 : Int × Int) : Option ((Int × Int) ⊕ Out (Int × Int) Int) :=
  (cond (decide (s2.2 < (p0.length : Int))) (bnd (idx p0 s2.2) fun y5 => bnd (F_laws_szInt64S y5 s2.1) fun r9 => (cond (decide (r9 < 0)) (some (.inr (.ret (-1)))) (some (.inl (r9, (w64 (s2.2 + 1))))))) (some (.inr (.brk (s2.1, s2.2)))))

noncomputable def F_laws_szInt64SS (p0 : (List (List Int))) (p1 : Int) : Option (Int) :=
  (cond (decide ((w64 (p1 - (p0.length : Int))) < 0)) (some (-1)) (bnd (run (F_laws_szInt64SS_L1 p0) ((w64 (p1 - (p0.length : Int))), 0)) (Out.elim (fun (s2 : Int × Int) => some s2.1) (fun (r : Int) => some r))))

noncomputable def F_laws_toInt64S_L1 (p0 : (List Int)) (s4 : (List Int) × Int) : Option (((List Int) × Int) ⊕ Out ((List Int) × Int) (List Int)) :=
  (cond (decide (s4.2 < (p0.length : Int))) (bnd (idx p0 s4.2) fun y7 => bnd (idx s4.1 s4.2) fun y11 => some (.inl ((s4.1.set s4.2.toNat y7), (w64 (s4.2 + 1))))) (some (.inr (.brk (s4.1, s4.2)))))

noncomputable def F_laws_toInt64S (p0 : (List Int)) : Option ((List Int)) :=
  bnd (mke (p0.length : Int) (0 : Int)) fun z1 => bnd (run (F_laws_toInt64S_L1 p0) (z1, 0)) (Out.elim (fun (s4 : (List Int) × Int) => some s4.1) (fun (r : (List Int)) => some r))

noncomputable def F_laws_toInt64SS_L1 (p0 : (List (List Int))) (s4 : (List (List Int)) × Int) : Option (((List (List Int)) × Int) ⊕ Out ((List (List Int)) × Int) (List (List Int))) :=
  (cond (decide (s4.2 < (p0.length : Int))) (bnd (idx p0 s4.2) fun y7 => bnd (F_laws_toInt64S y7) fun r11 => bnd (idx s4.1 s4.2) fun y14 => some (.inl ((s4.1.set s4.2.toNat r11), (w64 (s4.2 + 1))))) (some (.inr (.brk (s4.1, s4.2)))))

noncomputable def F_laws_toInt64SS (p0 : (List (List Int))) : Option ((List (List Int))) :=
  bnd (mke (p0.length : Int) ([] : (List Int))) fun z1 => bnd (run (F_laws_toInt64SS_L1 p0) (z1, 0)) (Out.elim (fun (s4 : (List (List Int)) × Int) => some s4.1) (fun (r : (List (List Int))) => some r))

noncomputable def F_spec_l02Is_L1 (p0 : (List Int)) (s2 : Int) : Option ((Int) ⊕ Out (Int) Bool) :=
  (cond (decide (s2 < (p0.length : Int))) (bnd (idx p0 s2) fun y5 => bnd (F_spec_l00In y5 0 999999) fun r9 => (cond (!r9) (some (.inr (.ret false))) (some (.inl (w64 (s2 + 1)))))) (some (.inr (.brk s2))))

noncomputable def F_spec_l02Is (p0 : (List Int)) : Option (Bool) :=
  (cond (decide (40 < (p0.length : Int))) (some false) (bnd (run (F_spec_l02Is_L1 p0) 0) (Out.elim (fun (s2 : Int) => (cond (decide ((p0.length : Int) = 0)) (some true) (bnd (idx p0 (w64 ((p0.length : Int) - 1))) fun y13 => some (decide (y13 ≠ 0))))) (fun (r : Bool) => some r))))

noncomputable def F_spec_l33Matrix_L1 (p0 : (List (List Int))) (s1 : Int) : Option ((Int) ⊕ Out (Int) Bool) :=
  (cond (decide (s1 < (p0.length : Int))) (bnd (idx p0 s1) fun y4 => bnd (F_spec_l02Is y4) fun r8 => (cond (!r8) (some (.inr (.ret false))) (some (.inl (w64 (s1 + 1)))))) (some (.inr (.brk s1))))

noncomputable def F_spec_l33Matrix (p0 : (List (List Int))) : Option (Bool) :=
  bnd (run (F_spec_l33Matrix_L1 p0) 0) (Out.elim (fun (s1 : Int) => some (decide ((p0.length : Int) = 9))) (fun (r : Bool) => some r))

noncomputable def F_spec_l02Compare_L1 (p0 : (List Int)) (p1 : (List Int)) (s3 : Int) : Option ((Int) ⊕ Out (Int) Int) :=
  (cond (decide (0 ≤ s3)) (bnd (idx p0 s3) fun y6 => bnd (idx p1 s3) fun y10 => (cond (decide (y6 < y10)) (some (.inr (.ret (-1)))) (bnd (idx p0 s3) fun y15 => bnd (idx p1 s3) fun y19 => (cond (decide (y19 < y15)) (some (.inr (.ret 1))) (some (.inl (w64 (s3 - 1)))))))) (some (.inr (.brk s3))))

noncomputable def F_spec_l02Compare (p0 : (List Int)) (p1 : (List Int)) : Option (Int) :=
  (cond (decide ((p0.length : Int) ≠ (p1.length : Int))) (cond (decide ((p0.length : Int) < (p1.length : Int))) (some (-1)) (some 1)) (bnd (run (F_spec_l02Compare_L1 p0 p1) (w64 ((p0.length : Int) - 1))) (Out.elim (fun (s3 : Int) => some 0) (fun (r : Int) => some r))))


noncomputable def F_spec_IsBalanced (p0 : (List (List Int))) : Option (Bool) :=
  bnd (F_spec_l33Matrix p0) fun r4 => (cond r4 (bnd (idx p0 6) fun y7 => bnd (idx p0 7) fun y13 => bnd (F_spec_l02Compare y7 y13) fun r19 => some (decide (r19 = 0))) (some false))

noncomputable def F_slices_IndexFunc_SSint64_Sint64_L1 (p0 : (List (List Int))) (p1 : ((List Int) → Option Bool)) (s1 : Int) : Option ((Int) ⊕ Out (Int) Int) :=
  (cond (decide (s1 < (p0.length : Int))) (bnd (idx p0 s1) fun y4 => bnd (p1 y4) fun r8 => (cond r8 (some (.inr (.ret s1))) (some (.inl (w64 (s1 + 1)))))) (some (.inr (.brk s1))))

noncomputable def F_slices_IndexFunc_SSint64_Sint64 (p0 : (List (List Int))) (p1 : ((List Int) → Option Bool)) : Option (Int) :=
  bnd (run (F_slices_IndexFunc_SSint64_Sint64_L1 p0 p1) 0) (Out.elim (fun (s1 : Int) => some (-1)) (fun (r : Int) => some r))


noncomputable def F_slices_ContainsFunc_SSint64_Sint64 (p0 : (List (List Int))) (p1 : ((List Int) → Option Bool)) : Option (Bool) :=
  bnd (F_slices_IndexFunc_SSint64_Sint64 p0 p1) fun r1 => some (decide (0 ≤ r1))


noncomputable def F_impl_IsNatural (p0 : (List Int)) : Option (Bool) :=
  (cond (decide ((p0.length : Int) ≤ 40)) (bnd (F_impl_allWithin p0 0 999999) fun r2 => (cond r2 (cond (decide ((p0.length : Int) = 0)) (some true) (bnd (idx p0 (w64 ((p0.length : Int) - 1))) fun y6 => some (decide (y6 ≠ 0)))) (some false))) (some false))


noncomputable def F_impl_naturals_1 (p0 : (List Int)) : Option (Bool) :=
  bnd (F_impl_IsNatural p0) fun r1 => some (!r1)


noncomputable def F_impl_naturals (p0 : (List (List Int))) : Option (Bool) :=
  bnd (F_slices_ContainsFunc_SSint64_Sint64 p0 (fun x_ => F_impl_naturals_1 x_)) fun r1 => some (!r1)


noncomputable def F_impl_isSquare (p0 : (List (List Int))) : Option (Bool) :=
  (cond (decide ((p0.length : Int) = 9)) (bnd (F_impl_naturals p0) fun r2 => some r2) (some false))

noncomputable def F_slices_Equal_Sint64_int64_L1 (p0 : (List Int)) (p1 : (List Int)) (s2 : Int) : Option ((Int) ⊕ Out (Int) Bool) :=
  (cond (decide (s2 < (p0.length : Int))) (bnd (idx p0 s2) fun y5 => bnd (idx p1 s2) fun y9 => (cond (decide (y5 ≠ y9)) (some (.inr (.ret false))) (some (.inl (w64 (s2 + 1)))))) (some (.inr (.brk s2))))

noncomputable def F_slices_Equal_Sint64_int64 (p0 : (List Int)) (p1 : (List Int)) : Option (Bool) :=
  (cond (decide ((p0.length : Int) ≠ (p1.length : Int))) (some false) (bnd (run (F_slices_Equal_Sint64_int64_L1 p0 p1) 0) (Out.elim (fun (s2 : Int) => some true) (fun (r : Bool) => some r))))


noncomputable def F_impl_IsBalanced (p0 : (List (List Int))) : Option (Bool) :=
  bnd (F_impl_isSquare p0) fun r4 => (cond r4 (bnd (idx p0 6) fun y7 => bnd (idx p0 7) fun y13 => bnd (F_slices_Equal_Sint64_int64 y7 y13) fun r19 => some r19) (some false))

noncomputable def F_laws_eqInt64S_L1 (p0 : (List Int)) (p1 : (List Int)) (s2 : Int) : Option ((Int) ⊕ Out (Int) Bool) :=
  (cond (decide (s2 < (p0.length : Int))) (bnd (idx p0 s2) fun y5 => bnd (idx p1 s2) fun y9 => (cond (decide (y5 ≠ y9)) (some (.inr (.ret false))) (some (.inl (w64 (s2 + 1)))))) (some (.inr (.brk s2))))

noncomputable def F_laws_eqInt64S (p0 : (List Int)) (p1 : (List Int)) : Option (Bool) :=
  (cond (decide ((p0.length : Int) ≠ (p1.length : Int))) (some false) (bnd (run (F_laws_eqInt64S_L1 p0 p1) 0) (Out.elim (fun (s2 : Int) => some true) (fun (r : Bool) => some r))))

noncomputable def F_laws_eqInt64SS_L1 (p0 : (List (List Int))) (p1 : (List (List Int))) (s2 : Int) : Option ((Int) ⊕ Out (Int) Bool) :=
  (cond (decide (s2 < (p0.length : Int))) (bnd (idx p0 s2) fun y5 => bnd (idx p1 s2) fun y9 => bnd (F_laws_eqInt64S y5 y9) fun r16 => (cond (!r16) (some (.inr (.ret false))) (some (.inl (w64 (s2 + 1)))))) (some (.inr (.brk s2))))

noncomputable def F_laws_eqInt64SS (p0 : (List (List Int))) (p1 : (List (List Int))) : Option (Bool) :=
  (cond (decide ((p0.length : Int) ≠ (p1.length : Int))) (some false) (bnd (run (F_laws_eqInt64SS_L1 p0 p1) 0) (Out.elim (fun (s2 : Int) => some true) (fun (r : Bool) => some r))))


noncomputable def F_laws_FnExactIsBalanced (p0 : (List (List Int))) : Option (Bool) :=
  bnd (F_laws_szInt64SS p0 1048576) fun r1 => (cond (decide (r1 < 0)) (some true) (bnd (F_laws_toInt64SS p0) fun r4 => bnd (F_spec_IsBalanced r4) fun r7 => bnd (F_laws_toInt64SS p0) fun r9 => bnd (F_impl_IsBalanced r9) fun r12 => (cond (r12 != r7) (some false) (bnd (F_laws_toInt64SS p0) fun r15 => bnd (F_laws_eqInt64SS r9 r15) fun r18 => (cond (!r18) (some false) (some true))))))

noncomputable def F_spec_l33Frame_L1 (p0 : (List Int)) (s1 : Int) : Option ((Int) ⊕ Out (Int) Bool) :=
  (cond (decide (s1 < (p0.length : Int))) (bnd (idx p0 s1) fun y4 => bnd (F_spec_l33Color y4) fun r8 => (cond (!r8) (some (.inr (.ret false))) (some (.inl (w64 (s1 + 1)))))) (some (.inr (.brk s1))))

noncomputable def F_spec_l33Frame (p0 : (List Int)) : Option (Bool) :=
  bnd (run (F_spec_l33Frame_L1 p0) 0) (Out.elim (fun (s1 : Int) => (cond (decide (0 < (p0.length : Int))) (some (decide ((p0.length : Int) ≤ 30))) (some false))) (fun (r : Bool) => some r))


noncomputable def F_spec_l00Own (p0 : (List Int)) : Option ((List Int)) :=
  bnd (app ([] : List Int) p0) fun z2 => some z2

noncomputable def F_spec_l33Row_L1 (p0 : (List GTile)) (p1 : (List Int)) (p2 : (List Int)) (s3 : (List Int) × Int × Int) : Option (((List Int) × Int × Int) ⊕ Out ((List Int) × Int × Int) ((List Int) × Bool)) :=
  (cond (decide (s3.2.2 < (p2.length : Int))) (bnd (idx p2 s3.2.2) fun y6 => bnd (F_spec_l00In y6 0 (w64 ((p0.length : Int) - 1))) fun r10 => (cond (!r10) (some (.inr (.ret (([] : (List Int)), false)))) (bnd (idx p2 s3.2.2) fun y13 => bnd (idx p0 y13) fun y17 => (cond (decide (y17.Left ≠ s3.2.1)) (some (.inr (.ret (([] : (List Int)), false)))) (bnd (idx p1 s3.2.2) fun y23 => (cond (decide (y17.Bottom ≠ y23)) (some (.inr (.ret (([] : (List Int)), false)))) (bnd (app s3.1 ([y17.Top] : List Int)) fun z29 => some (.inl (z29, y17.Right, (w64 (s3.2.2 + 1))))))))))) (some (.inr (.brk (s3.1, s3.2.1, s3.2.2)))))

noncomputable def F_spec_l33Row (p0 : (List GTile)) (p1 : (List Int)) (p2 : (List Int)) : Option ((List Int) × Bool) :=
  (cond (decide ((p2.length : Int) ≠ (p1.length : Int))) (some (([] : (List Int)), false)) (bnd (run (F_spec_l33Row_L1 p0 p1 p2) (([] : List Int), 0, 0)) (Out.elim (fun (s3 : (List Int) × Int × Int) => some (s3.1, (decide (s3.2.1 = 0)))) (fun (r : (List Int) × Bool) => some r))))

noncomputable def F_spec_l33Top_L1 (p0 : (List GTile)) (p2 : (List (List Int))) (s4 : (List Int) × Int) : Option (((List Int) × Int) ⊕ Out ((List Int) × Int) ((List Int) × Bool)) :=
  (cond (decide (s4.2 < (p2.length : Int))) (bnd (idx p2 s4.2) fun y7 => bnd (F_spec_l33Row p0 s4.1 y7) fun r11 => (cond (!r11.2) (some (.inr (.ret (([] : (List Int)), false)))) (some (.inl (r11.1, (w64 (s4.2 + 1))))))) (some (.inr (.brk (s4.1, s4.2)))))

noncomputable def F_spec_l33Top (p0 : (List GTile)) (p1 : (List Int)) (p2 : (List (List Int))) : Option ((List Int) × Bool) :=
  bnd (F_spec_l00Own p1) fun r1 => bnd (run (F_spec_l33Top_L1 p0 p2) (r1, 0)) (Out.elim (fun (s4 : (List Int) × Int) => (cond (decide (0 < (p2.length : Int))) (some (s4.1, (decide ((p2.length : Int) ≤ 40)))) (some (s4.1, false)))) (fun (r : (List Int) × Bool) => some r))


noncomputable def F_spec_IsTiling (p0 : (List GTile)) (p1 : (List Int)) (p2 : (List (List Int))) : Option (Bool) :=
  bnd (F_spec_l33Is p0) fun r1 => (cond (!r1) (some false) (bnd (F_spec_l33Frame p1) fun r4 => (cond (!r4) (some false) (bnd (F_spec_l33Top p0 p1 p2) fun r7 => some r7.2))))


noncomputable def F_impl_size_int64 (p0 : (List Int)) : Option (Int) :=
  some (p0.length : Int)


noncomputable def F_impl_isFrame (p0 : (List Int)) : Option (Bool) :=
  bnd (F_impl_size_int64 p0) fun r1 => bnd (F_impl_within r1 1 30) fun r3 => (cond r3 (bnd (F_impl_colorsOk p0) fun r6 => some r6) (some false))


noncomputable def F_impl_size_Sint64 (p0 : (List (List Int))) : Option (Int) :=
  some (p0.length : Int)


noncomputable def F_impl_fitsAt (p0 : GTile) (p1 : Int) (p2 : Int) (p3 : Bool) : Option (Bool) :=
  (cond (decide (p0.Left = p1)) (cond (decide (p0.Bottom = p2)) (cond (!p3) (some true) (some (decide (p0.Right = 0)))) (some false)) (some false))

noncomputable def F_impl_topsOf_L2 (p0 : (List GTile)) (s7 : (List (List Int)) × (List Int) × Int) (y10 : (List Int)) (s23 : Int × (List Int) × Int) : Option ((Int × (List Int) × Int) ⊕ Out (Int × (List Int) × Int) ((List (List Int)) × Bool)) :=
  (cond (decide (s23.2.2 < (y10.length : Int))) (bnd (idx y10 s23.2.2) fun y26 => bnd (idx p0 y26) fun y30 => bnd (idx s7.2.1 s23.2.2) fun y35 => bnd (F_impl_fitsAt y30 s23.1 y35 (decide (s23.2.2 = (w64 ((y10.length : Int) - 1))))) fun r42 => (cond (!r42) (some (.inr (.ret (([] : (List (List Int))), false)))) (bnd (app s23.2.1 ([y30.Top] : List Int)) fun z49 => some (.inl (y30.Right, z49, (w64 (s23.2.2 + 1))))))) (some (.inr (.brk (s23.1, s23.2.1, s23.2.2)))))

noncomputable def F_impl_topsOf_L1 (p0 : (List GTile)) (p1 : (List Int)) (p2 : (List (List Int))) (s7 : (List (List Int)) × (List Int) × Int) : Option (((List (List Int)) × (List Int) × Int) ⊕ Out ((List (List Int)) × (List Int) × Int) ((List (List Int)) × Bool)) :=
  (cond (decide (s7.2.2 < (p2.length : Int))) (bnd (idx p2 s7.2.2) fun y10 => bnd ((cond (decide ((y10.length : Int) ≠ (p1.length : Int))) (some (.ret (([] : (List (List Int))), false))) (bnd (F_impl_size_impl_Tile p0) fun r17 => bnd (F_impl_allWithin y10 0 (w64 (r17 - 1))) fun r19 => (cond (!r19) (some (.ret (([] : (List (List Int))), false))) (some (.brk ()))))) : Option (Out (Unit) ((List (List Int)) × Bool))) (Out.elim (fun (s14 : Unit) => bnd (run (F_impl_topsOf_L2 p0 s7 y10) (0, ([] : List Int), 0)) (Out.elim (fun (s23 : Int × (List Int) × Int) => bnd (app s7.1 ([s23.2.1] : List (List Int))) fun z53 => some (.inl (z53, s23.2.1, (w64 (s7.2.2 + 1))))) (fun (r : (List (List Int)) × Bool) => some (.inr (.ret r))))) (fun (r : (List (List Int)) × Bool) => some (.inr (.ret r))))) (some (.inr (.brk (s7.1, s7.2.1, s7.2.2)))))

noncomputable def F_impl_topsOf (p0 : (List GTile)) (p1 : (List Int)) (p2 : (List (List Int))) : Option ((List (List Int)) × Bool) :=
  bnd (F_impl_size_Sint64 p2) fun r1 => bnd (F_impl_within r1 1 40) fun r3 => (cond (!r3) (some (([] : (List (List Int))), false)) (bnd (run (F_impl_topsOf_L1 p0 p1 p2) (([] : List (List Int)), p1, 0)) (Out.elim (fun (s7 : (List (List Int)) × (List Int) × Int) => some (s7.1, true)) (fun (r : (List (List Int)) × Bool) => some r))))


noncomputable def F_impl_IsTiling (p0 : (List GTile)) (p1 : (List Int)) (p2 : (List (List Int))) : Option (Bool) :=
  bnd (F_impl_ValidTiles p0) fun r1 => (cond (!r1) (some false) (bnd (F_impl_isFrame p1) fun r4 => (cond (!r4) (some false) (bnd (F_impl_topsOf p0 p1 p2) fun r7 => some r7.2))))


noncomputable def F_laws_FnExactIsTiling (p0 : (List GTile)) (p1 : (List Int)) (p2 : (List (List Int))) : Option (Bool) :=
  (cond (decide (1048576 < (p1.length : Int))) (some true) (bnd (F_laws_szTileS p0 1048576) fun r2 => (cond (decide (r2 < 0)) (some true) (bnd (F_laws_szInt64SS p2 r2) fun r5 => (cond (decide (r5 < 0)) (some true) (bnd (F_laws_toTileS p0) fun r8 => bnd (F_laws_toInt64S p1) fun r11 => bnd (F_laws_toInt64SS p2) fun r14 => bnd (F_spec_IsTiling r8 r11 r14) fun r17 => bnd (F_laws_toTileS p0) fun r19 => bnd (F_laws_toInt64S p1) fun r22 => bnd (F_laws_toInt64SS p2) fun r25 => bnd (F_impl_IsTiling r19 r22 r25) fun r28 => (cond (r28 != r17) (some false) (bnd (F_laws_toTileS p0) fun r31 => bnd (F_laws_eqTileS r19 r31) fun r34 => (cond (!r34) (some false) (bnd (F_laws_toInt64S p1) fun r37 => bnd (F_laws_eqInt64S r22 r37) fun r40 => (cond (!r40) (some false) (bnd (F_laws_toInt64SS p2) fun r43 => bnd (F_laws_eqInt64SS r25 r43) fun r46 => (cond (!r46) (some false) (some true))))))))))))))


noncomputable def F_spec_l05Budget (p0 : Int) : Option (Bool) :=
  bnd (F_spec_l00In p0 1 20000) fun r1 => some r1


noncomputable def F_spec_l33Ask (p0 : (List GTile)) (p1 : (List Int)) (p2 : Int) (p3 : Int) : Option (Int) :=
  bnd (F_spec_l33Is p0) fun r1 => (cond (!r1) (some 1) (bnd (F_spec_l33Frame p1) fun r4 => (cond (!r4) (some 2) (bnd (F_spec_l00In p2 1 40) fun r7 => (cond (!r7) (some 2) (bnd (F_spec_l05Budget p3) fun r10 => (cond (!r10) (some 2) (some 0))))))))


noncomputable def F_impl_budgetOk (p0 : Int) : Option (Bool) :=
  bnd (F_impl_within p0 1 20000) fun r1 => some r1


noncomputable def F_laws_szDomino (p0 : GDomino) (p1 : Int) : Option (Int) :=
  bnd (F_laws_szInt64S p0.Top p1) fun r2 => (cond (decide (r2 < 0)) (some (-1)) (bnd (F_laws_szInt64S p0.Bottom r2) fun r5 => (cond (decide (r5 < 0)) (some (-1)) (some r5))))

noncomputable def F_laws_szDominoS_L1 (p0 : (List GDomino)) (s2 : Int × Int) : Option ((Int × Int) ⊕ Out (Int × Int) Int) :=
  (cond (decide (s2.2 < (p0.length : Int))) (bnd (idx p0 s2.2) fun y5 => bnd (F_laws_szDomino y5 s2.1) fun r9 => (cond (decide (r9 < 0)) (some (.inr (.ret (-1)))) (some (.inl (r9, (w64 (s2.2 + 1))))))) (some (.inr (.brk (s2.1, s2.2)))))

noncomputable def F_laws_szDominoS (p0 : (List GDomino)) (p1 : Int) : Option (Int) :=
  (cond (decide ((w64 (p1 - (p0.length : Int))) < 0)) (some (-1)) (bnd (run (F_laws_szDominoS_L1 p0) ((w64 (p1 - (p0.length : Int))), 0)) (Out.elim (fun (s2 : Int × Int) => some s2.1) (fun (r : Int) => some r))))


noncomputable def F_laws_toDomino (p0 : GDomino) : Option (GDomino) :=
  bnd (F_laws_toInt64S p0.Top) fun r4 => bnd (F_laws_toInt64S p0.Bottom) fun r7 => some (⟨r4, r7⟩ : GDomino)

noncomputable def F_laws_toDominoS_L1 (p0 : (List GDomino)) (s4 : (List GDomino) × Int) : Option (((List GDomino) × Int) ⊕ Out ((List GDomino) × Int) (List GDomino)) :=
  (cond (decide (s4.2 < (p0.length : Int))) (bnd (idx p0 s4.2) fun y7 => bnd (F_laws_toDomino y7) fun r11 => bnd (idx s4.1 s4.2) fun y14 => some (.inl ((s4.1.set s4.2.toNat r11), (w64 (s4.2 + 1))))) (some (.inr (.brk (s4.1, s4.2)))))

noncomputable def F_laws_toDominoS (p0 : (List GDomino)) : Option ((List GDomino)) :=
  bnd (mke (p0.length : Int) (⟨([] : (List Int)), ([] : (List Int))⟩ : GDomino)) fun z1 => bnd (run (F_laws_toDominoS_L1 p0) (z1, 0)) (Out.elim (fun (s4 : (List GDomino) × Int) => some s4.1) (fun (r : (List GDomino)) => some r))

noncomputable def F_spec_l03Is_L1 (p0 : (List Int)) (s1 : Int) : Option ((Int) ⊕ Out (Int) Bool) :=
  (cond (decide (s1 < (p0.length : Int))) (bnd (idx p0 s1) fun y4 => bnd (F_spec_l00In y4 0 9) fun r8 => (cond (!r8) (some (.inr (.ret false))) (some (.inl (w64 (s1 + 1)))))) (some (.inr (.brk s1))))

noncomputable def F_spec_l03Is (p0 : (List Int)) : Option (Bool) :=
  bnd (run (F_spec_l03Is_L1 p0) 0) (Out.elim (fun (s1 : Int) => some (decide ((p0.length : Int) ≤ 400))) (fun (r : Bool) => some r))

noncomputable def F_spec_l32Is_L1 (p0 : (List GDomino)) (s5 : Int) : Option ((Int) ⊕ Out (Int) Bool) :=
  (cond (decide (s5 < (p0.length : Int))) (bnd (idx p0 s5) fun y8 => bnd (F_spec_l03Is y8.Top) fun r16 => (cond (!r16) (some (.inr (.ret false))) (bnd (idx p0 s5) fun y19 => bnd (F_spec_l03Is y19.Bottom) fun r27 => (cond (!r27) (some (.inr (.ret false))) (bnd (idx p0 s5) fun y30 => bnd (idx p0 s5) fun y38 => (cond (decide ((w64 ((y30.Top.length : Int) + (y38.Bottom.length : Int))) = 0)) (some (.inr (.ret false))) (some (.inl (w64 (s5 + 1)))))))))) (some (.inr (.brk s5))))

noncomputable def F_spec_l32Is (p0 : (List GDomino)) : Option (Bool) :=
  bnd ((cond (decide ((p0.length : Int) < 1)) (some (.ret false)) (cond (decide (80 < (p0.length : Int))) (some (.ret false)) (some (.brk ())))) : Option (Out (Unit) Bool)) (Out.elim (fun (s1 : Unit) => bnd (run (F_spec_l32Is_L1 p0) 0) (Out.elim (fun (s5 : Int) => some true) (fun (r : Bool) => some r))) (fun (r : Bool) => some r))

noncomputable def F_spec_l06Row_L1 (p0 : (List Int)) (p2 : Int) (p3 : Int) (s2 : Int) : Option ((Int) ⊕ Out (Int) Bool) :=
  (cond (decide (s2 < (p0.length : Int))) (bnd (idx p0 s2) fun y5 => bnd (F_spec_l00In y5 p2 p3) fun r9 => (cond (!r9) (some (.inr (.ret false))) (some (.inl (w64 (s2 + 1)))))) (some (.inr (.brk s2))))

noncomputable def F_spec_l06Row (p0 : (List Int)) (p1 : Int) (p2 : Int) (p3 : Int) : Option (Bool) :=
  (cond (decide ((p0.length : Int) ≠ p1)) (some false) (bnd (run (F_spec_l06Row_L1 p0 p2 p3) 0) (Out.elim (fun (s2 : Int) => some true) (fun (r : Bool) => some r))))

noncomputable def F_spec_l00Same_L1 (p0 : (List Int)) (p1 : (List Int)) (s2 : Int) : Option ((Int) ⊕ Out (Int) Bool) :=
  (cond (decide (s2 < (p0.length : Int))) (bnd (idx p0 s2) fun y5 => bnd (idx p1 s2) fun y9 => (cond (decide (y5 ≠ y9)) (some (.inr (.ret false))) (some (.inl (w64 (s2 + 1)))))) (some (.inr (.brk s2))))

noncomputable def F_spec_l00Same (p0 : (List Int)) (p1 : (List Int)) : Option (Bool) :=
  (cond (decide ((p0.length : Int) ≠ (p1.length : Int))) (some false) (bnd (run (F_spec_l00Same_L1 p0 p1) 0) (Out.elim (fun (s2 : Int) => some true) (fun (r : Bool) => some r))))

noncomputable def F_spec_l32Match_L1 (p0 : (List GDomino)) (p1 : (List Int)) (s10 : (List Int) × (List Int) × Int) : Option (((List Int) × (List Int) × Int) ⊕ Out ((List Int) × (List Int) × Int) ((List Int) × Int)) :=
  (cond (decide (s10.2.2 < (p1.length : Int))) (bnd (idx p1 s10.2.2) fun y13 => bnd (idx p0 y13) fun y17 => bnd (app s10.1 y17.Top) fun z22 => bnd (idx p1 s10.2.2) fun y25 => bnd (idx p0 y25) fun y29 => bnd (app s10.2.1 y29.Bottom) fun z34 => some (.inl (z22, z34, (w64 (s10.2.2 + 1))))) (some (.inr (.brk (s10.1, s10.2.1, s10.2.2)))))

noncomputable def F_spec_l32Match (p0 : (List GDomino)) (p1 : (List Int)) : Option ((List Int) × Int) :=
  bnd ((cond (decide ((p1.length : Int) < 1)) (some (.ret (([] : (List Int)), 2))) (cond (decide (400 < (p1.length : Int))) (some (.ret (([] : (List Int)), 2))) (bnd (F_spec_l06Row p1 (p1.length : Int) 0 (w64 ((p0.length : Int) - 1))) fun r5 => (cond (!r5) (some (.ret (([] : (List Int)), 2))) (some (.brk ())))))) : Option (Out (Unit) ((List Int) × Int))) (Out.elim (fun (s1 : Unit) => bnd (run (F_spec_l32Match_L1 p0 p1) (([] : List Int), ([] : List Int), 0)) (Out.elim (fun (s10 : (List Int) × (List Int) × Int) => (cond (decide (4000 < (s10.1.length : Int))) (some (([] : (List Int)), 5)) (cond (decide (4000 < (s10.2.1.length : Int))) (some (([] : (List Int)), 5)) (bnd (F_spec_l00Same s10.1 s10.2.1) fun r39 => (cond (!r39) (some (([] : (List Int)), 6)) (some (s10.1, 0))))))) (fun (r : (List Int) × Int) => some r))) (fun (r : (List Int) × Int) => some r))


noncomputable def F_spec_MatchWord (p0 : (List GDomino)) (p1 : (List Int)) : Option ((List Int) × Int) :=
  bnd (F_spec_l32Is p0) fun r1 => (cond (!r1) (some (([] : (List Int)), 1)) (bnd (F_spec_l32Match p0 p1) fun r4 => some (r4.1, r4.2)))


noncomputable def F_impl_size_impl_Domino (p0 : (List GDomino)) : Option (Int) :=
  some (p0.length : Int)

noncomputable def F_slices_IndexFunc_Simpl_Domino_impl_Domino_L1 (p0 : (List GDomino)) (p1 : (GDomino → Option Bool)) (s1 : Int) : Option ((Int) ⊕ Out (Int) Int) :=
  (cond (decide (s1 < (p0.length : Int))) (bnd (idx p0 s1) fun y4 => bnd (p1 y4) fun r8 => (cond r8 (some (.inr (.ret s1))) (some (.inl (w64 (s1 + 1)))))) (some (.inr (.brk s1))))

noncomputable def F_slices_IndexFunc_Simpl_Domino_impl_Domino (p0 : (List GDomino)) (p1 : (GDomino → Option Bool)) : Option (Int) :=
  bnd (run (F_slices_IndexFunc_Simpl_Domino_impl_Domino_L1 p0 p1) 0) (Out.elim (fun (s1 : Int) => some (-1)) (fun (r : Int) => some r))


noncomputable def F_slices_ContainsFunc_Simpl_Domino_impl_Domino (p0 : (List GDomino)) (p1 : (GDomino → Option Bool)) : Option (Bool) :=
  bnd (F_slices_IndexFunc_Simpl_Domino_impl_Domino p0 p1) fun r1 => some (decide (0 ≤ r1))


noncomputable def F_impl_isLetters (p0 : (List Int)) : Option (Bool) :=
  bnd (F_impl_allWithin p0 0 9) fun r1 => some r1


noncomputable def F_impl_IsWord (p0 : (List Int)) : Option (Bool) :=
  (cond (decide ((p0.length : Int) ≤ 400)) (bnd (F_impl_isLetters p0) fun r2 => some r2) (some false))


noncomputable def F_impl_areWords_1 (p0 : (List Int)) : Option (Bool) :=
  bnd (F_impl_IsWord p0) fun r1 => some (!r1)


noncomputable def F_impl_areWords (p0 : (List (List Int))) : Option (Bool) :=
  bnd (F_slices_ContainsFunc_SSint64_Sint64 p0 (fun x_ => F_impl_areWords_1 x_)) fun r1 => some (!r1)


noncomputable def F_impl_validDomino (p0 : GDomino) : Option (Bool) :=
  bnd (F_impl_areWords ([p0.Top, p0.Bottom] : List (List Int))) fun r3 => (cond r3 (some (decide (0 < (w64 ((p0.Top.length : Int) + (p0.Bottom.length : Int)))))) (some false))


noncomputable def F_impl_ValidDominoes_1 (p0 : GDomino) : Option (Bool) :=
  bnd (F_impl_validDomino p0) fun r2 => some (!r2)


noncomputable def F_impl_ValidDominoes (p0 : (List GDomino)) : Option (Bool) :=
  bnd (F_impl_size_impl_Domino p0) fun r1 => bnd (F_impl_within r1 1 80) fun r3 => (cond r3 (bnd (F_slices_ContainsFunc_Simpl_Domino_impl_Domino p0 (fun x_ => F_impl_ValidDominoes_1 x_)) fun r6 => some (!r6)) (some false))


noncomputable def F_impl_matchRange (p0 : (List GDomino)) (p1 : (List Int)) : Option (Bool) :=
  bnd (F_impl_size_int64 p1) fun r1 => bnd (F_impl_within r1 1 400) fun r3 => (cond r3 (bnd (F_impl_size_impl_Domino p0) fun r6 => bnd (F_impl_allWithin p1 0 (w64 (r6 - 1))) fun r8 => some r8) (some false))

noncomputable def F_impl_matchWord_L1 (p0 : (List GDomino)) (p1 : (List Int)) (s6 : (List Int) × (List Int) × Int) : Option (((List Int) × (List Int) × Int) ⊕ Out ((List Int) × (List Int) × Int) ((List Int) × Int)) :=
  (cond (decide (s6.2.2 < (p1.length : Int))) (bnd (idx p1 s6.2.2) fun y9 => bnd (idx p0 y9) fun y13 => bnd (idx p0 y9) fun y18 => bnd (app s6.1 y13.Top) fun z26 => bnd (app s6.2.1 y18.Bottom) fun z29 => some (.inl (z26, z29, (w64 (s6.2.2 + 1))))) (some (.inr (.brk (s6.1, s6.2.1, s6.2.2)))))

noncomputable def F_impl_matchWord (p0 : (List GDomino)) (p1 : (List Int)) : Option ((List Int) × Int) :=
  bnd (F_impl_matchRange p0 p1) fun r1 => (cond (!r1) (some (([] : (List Int)), 2)) (bnd (run (F_impl_matchWord_L1 p0 p1) (([] : List Int), ([] : List Int), 0)) (Out.elim (fun (s6 : (List Int) × (List Int) × Int) => (cond (decide (4000 < (s6.1.length : Int))) (some (([] : (List Int)), 5)) (cond (decide (4000 < (s6.2.1.length : Int))) (some (([] : (List Int)), 5)) (bnd (F_slices_Equal_Sint64_int64 s6.1 s6.2.1) fun r34 => (cond (!r34) (some (([] : (List Int)), 6)) (some (s6.1, 0))))))) (fun (r : (List Int) × Int) => some r))))


noncomputable def F_impl_MatchWord (p0 : (List GDomino)) (p1 : (List Int)) : Option ((List Int) × Int) :=
  bnd (F_impl_ValidDominoes p0) fun r1 => (cond (!r1) (some (([] : (List Int)), 1)) (bnd (F_impl_matchWord p0 p1) fun r4 => some (r4.1, r4.2)))


noncomputable def F_laws_eqDomino (p0 : GDomino) (p1 : GDomino) : Option (Bool) :=
  bnd (F_laws_eqInt64S p0.Top p1.Top) fun r3 => (cond (!r3) (some false) (bnd (F_laws_eqInt64S p0.Bottom p1.Bottom) fun r6 => (cond (!r6) (some false) (some true))))

noncomputable def F_laws_eqDominoS_L1 (p0 : (List GDomino)) (p1 : (List GDomino)) (s2 : Int) : Option ((Int) ⊕ Out (Int) Bool) :=
  (cond (decide (s2 < (p0.length : Int))) (bnd (idx p0 s2) fun y5 => bnd (idx p1 s2) fun y9 => bnd (F_laws_eqDomino y5 y9) fun r16 => (cond (!r16) (some (.inr (.ret false))) (some (.inl (w64 (s2 + 1)))))) (some (.inr (.brk s2))))

noncomputable def F_laws_eqDominoS (p0 : (List GDomino)) (p1 : (List GDomino)) : Option (Bool) :=
  (cond (decide ((p0.length : Int) ≠ (p1.length : Int))) (some false) (bnd (run (F_laws_eqDominoS_L1 p0 p1) 0) (Out.elim (fun (s2 : Int) => some true) (fun (r : Bool) => some r))))

noncomputable def F_laws_markInt64S_L1 (s1 : (List Int) × Int × Int) : Option (((List Int) × Int × Int) ⊕ Out ((List Int) × Int × Int) (Int × (List Int))) :=
  (cond (decide (s1.2.2 < (s1.1.length : Int))) (bnd (idx s1.1 s1.2.2) fun y4 => some (.inl ((s1.1.set s1.2.2.toNat s1.2.1), (w64 (s1.2.1 + 1)), (w64 (s1.2.2 + 1))))) (some (.inr (.brk (s1.1, s1.2.1, s1.2.2)))))

noncomputable def F_laws_markInt64S (p0 : (List Int)) (p1 : Int) : Option (Int × (List Int)) :=
  bnd (run (F_laws_markInt64S_L1) (p0, p1, 0)) (Out.elim (fun (s1 : (List Int) × Int × Int) => some (s1.2.1, s1.1)) (fun (r : Int × (List Int)) => some r))

noncomputable def F_laws_markDominoS_L1 (s1 : (List GDomino) × Int × Int) : Option (((List GDomino) × Int × Int) ⊕ Out ((List GDomino) × Int × Int) (Int × (List GDomino))) :=
  (cond (decide (s1.2.2 < (s1.1.length : Int))) (bnd (idx s1.1 s1.2.2) fun y4 => bnd (F_laws_markInt64S y4.Top s1.2.1) fun r10 => bnd (idx (s1.1.set s1.2.2.toNat (⟨r10.2, y4.Bottom⟩ : GDomino)) s1.2.2) fun y12 => bnd (F_laws_markInt64S y12.Bottom r10.1) fun r15 => some (.inl (((s1.1.set s1.2.2.toNat (⟨r10.2, y4.Bottom⟩ : GDomino)).set s1.2.2.toNat (⟨y12.Top, r15.2⟩ : GDomino)), r15.1, (w64 (s1.2.2 + 1))))) (some (.inr (.brk (s1.1, s1.2.1, s1.2.2)))))

noncomputable def F_laws_markDominoS (p0 : (List GDomino)) (p1 : Int) : Option (Int × (List GDomino)) :=
  bnd (run (F_laws_markDominoS_L1) (p0, p1, 0)) (Out.elim (fun (s1 : (List GDomino) × Int × Int) => some (s1.2.1, s1.1)) (fun (r : Int × (List GDomino)) => some r))

noncomputable def F_laws_heldInt64S_L1 (p0 : (List Int)) (s1 : Int × Int) : Option ((Int × Int) ⊕ Out (Int × Int) Int) :=
  (cond (decide (s1.2 < (p0.length : Int))) (bnd (idx p0 s1.2) fun y4 => (cond (decide (y4 ≠ s1.1)) (some (.inr (.ret (-1)))) (some (.inl ((w64 (s1.1 + 1)), (w64 (s1.2 + 1))))))) (some (.inr (.brk (s1.1, s1.2)))))

noncomputable def F_laws_heldInt64S (p0 : (List Int)) (p1 : Int) : Option (Int) :=
  bnd (run (F_laws_heldInt64S_L1 p0) (p1, 0)) (Out.elim (fun (s1 : Int × Int) => some s1.1) (fun (r : Int) => some r))


noncomputable def F_laws_FnExactMatchWord (p0 : (List GDomino)) (p1 : (List Int)) : Option (Bool) :=
  (cond (decide (1048576 < (p1.length : Int))) (some true) (bnd (F_laws_szDominoS p0 1048576) fun r2 => (cond (decide (r2 < 0)) (some true) (bnd (F_laws_toDominoS p0) fun r5 => bnd (F_laws_toInt64S p1) fun r8 => bnd (F_spec_MatchWord r5 r8) fun r11 => bnd (F_laws_toDominoS p0) fun r14 => bnd (F_laws_toInt64S p1) fun r17 => bnd (F_impl_MatchWord r14 r17) fun r20 => bnd (bnd (F_laws_eqInt64S r20.1 r11.1) fun r25 => (cond (!r25) (some (.ret false)) (cond (decide (r20.2 ≠ r11.2)) (some (.ret false)) (some (.brk ())))) : Option (Out (Unit) Bool)) (Out.elim (fun (s23 : Unit) => bnd (F_laws_toDominoS p0) fun r29 => bnd (F_laws_eqDominoS r14 r29) fun r32 => (cond (!r32) (some false) (bnd (F_laws_toInt64S p1) fun r35 => bnd (F_laws_eqInt64S r17 r35) fun r38 => (cond (!r38) (some false) (bnd (F_laws_markDominoS r14 1) fun r41 => bnd (F_laws_markInt64S r17 r41.1) fun r43 => bnd ((cond (decide (r43.1 < 0)) (some (.ret false)) (bnd (F_laws_eqInt64S r20.1 r11.1) fun r48 => (cond (!r48) (some (.ret false)) (cond (decide (r20.2 ≠ r11.2)) (some (.ret false)) (some (.brk ())))))) : Option (Out (Unit) Bool)) (Out.elim (fun (s45 : Unit) => bnd (F_laws_markInt64S r20.1 1) fun r52 => bnd (F_laws_heldInt64S r52.2 1) fun r54 => (cond (decide (r54 < 0)) (some false) (cond (decide (r54 ≠ r52.1)) (some false) (bnd (F_laws_toDominoS p0) fun r58 => bnd (F_laws_toInt64S p1) fun r61 => bnd (F_impl_MatchWord r58 r61) fun r64 => bnd (F_laws_eqInt64S r64.1 r11.1) fun r67 => (cond (!r67) (some false) (cond (decide (r64.2 ≠ r11.2)) (some false) (bnd (F_laws_heldInt64S r52.2 1) fun r71 => (cond (decide (r71 < 0)) (some false) (cond (decide (r71 ≠ r52.1)) (some false) (some true)))))))))) (fun (r : Bool) => some r))))))) (fun (r : Bool) => some r))))))

noncomputable def F_spec_l02Trim_L1 (p0 : (List Int)) (s1 : Int) : Option ((Int) ⊕ Out (Int) (List Int)) :=
  (cond (decide (0 < s1)) (bnd (idx p0 (w64 (s1 - 1))) fun y4 => (cond (decide (y4 = 0)) (some (.inl (w64 (s1 - 1)))) (some (.inr (.brk s1))))) (some (.inr (.brk s1))))

noncomputable def F_spec_l02Trim (p0 : (List Int)) : Option ((List Int)) :=
  bnd (run (F_spec_l02Trim_L1 p0) (p0.length : Int)) (Out.elim (fun (s1 : Int) => bnd (slc p0 0 s1) fun z9 => some z9) (fun (r : (List Int)) => some r))

noncomputable def F_spec_l02Mul_L2 (p0 : (List Int)) (p1 : (List Int)) (s4 : (List Int) × Int) (s7 : (List Int) × Int × Int) : Option (((List Int) × Int × Int) ⊕ Out ((List Int) × Int × Int) (List Int)) :=
  bnd ((cond (decide (s7.2.2 < (p1.length : Int))) (some (.brk true)) (some (.brk (decide (0 < s7.2.1))))) : Option (Out (Bool) (List Int))) (Out.elim (fun (s9 : Bool) => (cond s9 (bnd (idx s7.1 (w64 (s4.2 + s7.2.2))) fun y13 => (cond (decide (s7.2.2 < (p1.length : Int))) (bnd (idx p0 s4.2) fun y17 => bnd (idx p1 s7.2.2) fun y21 => bnd (idx s7.1 (w64 (s4.2 + s7.2.2))) fun y25 => some (.inl ((s7.1.set (w64 (s4.2 + s7.2.2)).toNat (Int.tmod (w64 ((w64 (y13 + s7.2.1)) + (w64 (y17 * y21)))) 1000000)), (w64 (Int.tdiv (w64 ((w64 (y13 + s7.2.1)) + (w64 (y17 * y21)))) 1000000)), (w64 (s7.2.2 + 1))))) (bnd (idx s7.1 (w64 (s4.2 + s7.2.2))) fun y27 => some (.inl ((s7.1.set (w64 (s4.2 + s7.2.2)).toNat (Int.tmod (w64 (y13 + s7.2.1)) 1000000)), (w64 (Int.tdiv (w64 (y13 + s7.2.1)) 1000000)), (w64 (s7.2.2 + 1))))))) (some (.inr (.brk (s7.1, s7.2.1, s7.2.2)))))) (fun (r : (List Int)) => some (.inr (.ret r))))

noncomputable def F_spec_l02Mul_L1 (p0 : (List Int)) (p1 : (List Int)) (s4 : (List Int) × Int) : Option (((List Int) × Int) ⊕ Out ((List Int) × Int) (List Int)) :=
  (cond (decide (s4.2 < (p0.length : Int))) (bnd (run (F_spec_l02Mul_L2 p0 p1 s4) (s4.1, 0, 0)) (Out.elim (fun (s7 : (List Int) × Int × Int) => some (.inl (s7.1, (w64 (s4.2 + 1))))) (fun (r : (List Int)) => some (.inr (.ret r))))) (some (.inr (.brk (s4.1, s4.2)))))

noncomputable def F_spec_l02Mul (p0 : (List Int)) (p1 : (List Int)) : Option ((List Int)) :=
  bnd (mke (w64 ((w64 ((p0.length : Int) + (p1.length : Int))) + 1)) (0 : Int)) fun z1 => bnd (run (F_spec_l02Mul_L1 p0 p1) (z1, 0)) (Out.elim (fun (s4 : (List Int) × Int) => bnd (F_spec_l02Trim s4.1) fun r29 => some r29) (fun (r : (List Int)) => some r))

noncomputable def F_spec_l02Add_L1 (p0 : (List Int)) (p1 : (List Int)) (s2 : (List Int) × Int × Int) : Option (((List Int) × Int × Int) ⊕ Out ((List Int) × Int × Int) (List Int)) :=
  bnd ((cond (decide (s2.2.2 < (p0.length : Int))) (some (.brk true)) (cond (decide (s2.2.2 < (p1.length : Int))) (some (.brk true)) (some (.brk (decide (0 < s2.2.1)))))) : Option (Out (Bool) (List Int))) (Out.elim (fun (s4 : Bool) => (cond s4 (bnd ((cond (decide (s2.2.2 < (p0.length : Int))) (bnd (idx p0 s2.2.2) fun y12 => some (.brk (w64 (s2.2.1 + y12)))) (some (.brk s2.2.1))) : Option (Out (Int) (List Int))) (Out.elim (fun (s9 : Int) => (cond (decide (s2.2.2 < (p1.length : Int))) (bnd (idx p1 s2.2.2) fun y17 => bnd (app s2.1 ([(Int.tmod (w64 (s9 + y17)) 1000000)] : List Int)) fun z22 => some (.inl (z22, (w64 (Int.tdiv (w64 (s9 + y17)) 1000000)), (w64 (s2.2.2 + 1))))) (bnd (app s2.1 ([(Int.tmod s9 1000000)] : List Int)) fun z26 => some (.inl (z26, (w64 (Int.tdiv s9 1000000)), (w64 (s2.2.2 + 1))))))) (fun (r : (List Int)) => some (.inr (.ret r))))) (some (.inr (.brk (s2.1, s2.2.1, s2.2.2)))))) (fun (r : (List Int)) => some (.inr (.ret r))))

noncomputable def F_spec_l02Add (p0 : (List Int)) (p1 : (List Int)) : Option ((List Int)) :=
  bnd (run (F_spec_l02Add_L1 p0 p1) (([] : List Int), 0, 0)) (Out.elim (fun (s2 : (List Int) × Int × Int) => some s2.1) (fun (r : (List Int)) => some r))

noncomputable def F_spec_l33Multiply_L3 (p0 : (List (List Int))) (p1 : (List (List Int))) (s2 : (List (List Int)) × Int) (s5 : (List (List Int)) × Int) (s9 : (List Int) × Int) : Option (((List Int) × Int) ⊕ Out ((List Int) × Int) (List (List Int))) :=
  (cond (decide (s9.2 < 3)) (bnd (idx p0 (w64 ((w64 (3 * s2.2)) + s9.2))) fun y12 => bnd (idx p1 (w64 ((w64 (3 * s9.2)) + s5.2))) fun y16 => bnd (F_spec_l02Mul y12 y16) fun r23 => bnd (F_spec_l02Add s9.1 r23) fun r26 => bnd (F_spec_l02Trim r26) fun r29 => some (.inl (r29, (w64 (s9.2 + 1))))) (some (.inr (.brk (s9.1, s9.2)))))

noncomputable def F_spec_l33Multiply_L2 (p0 : (List (List Int))) (p1 : (List (List Int))) (s2 : (List (List Int)) × Int) (s5 : (List (List Int)) × Int) : Option (((List (List Int)) × Int) ⊕ Out ((List (List Int)) × Int) (List (List Int))) :=
  (cond (decide (s5.2 < 3)) (bnd (run (F_spec_l33Multiply_L3 p0 p1 s2 s5) (([] : List Int), 0)) (Out.elim (fun (s9 : (List Int) × Int) => bnd (app s5.1 ([s9.1] : List (List Int))) fun z33 => some (.inl (z33, (w64 (s5.2 + 1))))) (fun (r : (List (List Int))) => some (.inr (.ret r))))) (some (.inr (.brk (s5.1, s5.2)))))

noncomputable def F_spec_l33Multiply_L1 (p0 : (List (List Int))) (p1 : (List (List Int))) (s2 : (List (List Int)) × Int) : Option (((List (List Int)) × Int) ⊕ Out ((List (List Int)) × Int) (List (List Int))) :=
  (cond (decide (s2.2 < 3)) (bnd (run (F_spec_l33Multiply_L2 p0 p1 s2) (s2.1, 0)) (Out.elim (fun (s5 : (List (List Int)) × Int) => some (.inl (s5.1, (w64 (s2.2 + 1))))) (fun (r : (List (List Int))) => some (.inr (.ret r))))) (some (.inr (.brk (s2.1, s2.2)))))

noncomputable def F_spec_l33Multiply (p0 : (List (List Int))) (p1 : (List (List Int))) : Option ((List (List Int))) :=
  bnd (run (F_spec_l33Multiply_L1 p0 p1) (([] : List (List Int)), 0)) (Out.elim (fun (s2 : (List (List Int)) × Int) => some s2.1) (fun (r : (List (List Int))) => some r))

noncomputable def F_spec_l33Fits_L1 (p0 : (List (List Int))) (s1 : Int) : Option ((Int) ⊕ Out (Int) Bool) :=
  (cond (decide (s1 < (p0.length : Int))) (bnd (idx p0 s1) fun y4 => (cond (decide (40 < (y4.length : Int))) (some (.inr (.ret false))) (some (.inl (w64 (s1 + 1)))))) (some (.inr (.brk s1))))

noncomputable def F_spec_l33Fits (p0 : (List (List Int))) : Option (Bool) :=
  bnd (run (F_spec_l33Fits_L1 p0) 0) (Out.elim (fun (s1 : Int) => some true) (fun (r : Bool) => some r))


noncomputable def F_spec_MultiplySquares (p0 : (List (List Int))) (p1 : (List (List Int))) : Option ((List (List Int)) × Int) :=
  bnd (F_spec_l33Matrix p0) fun r1 => (cond (!r1) (some (([] : (List (List Int))), 1)) (bnd (F_spec_l33Matrix p1) fun r4 => (cond (!r4) (some (([] : (List (List Int))), 1)) (bnd (F_spec_l33Multiply p0 p1) fun r7 => bnd (F_spec_l33Fits r7) fun r10 => (cond (!r10) (some (([] : (List (List Int))), 5)) (some (r7, 0)))))))

noncomputable def F_impl_trimmed_L1 (s1 : (List Int)) : Option (((List Int)) ⊕ Out ((List Int)) (List Int)) :=
  (cond (decide (0 < (s1.length : Int))) (bnd (idx s1 (w64 ((s1.length : Int) - 1))) fun y4 => (cond (decide (y4 = 0)) (bnd (slc s1 0 (w64 ((s1.length : Int) - 1))) fun z9 => some (.inl z9)) (some (.inr (.brk s1))))) (some (.inr (.brk s1))))

noncomputable def F_impl_trimmed (p0 : (List Int)) : Option ((List Int)) :=
  bnd (run (F_impl_trimmed_L1) p0) (Out.elim (fun (s1 : (List Int)) => some s1) (fun (r : (List Int)) => some r))

noncomputable def F_impl_multiply_L2 (p1 : (List Int)) (s4 : (List Int) × Int) (y7 : Int) (s11 : (List Int) × Int × Int) : Option (((List Int) × Int × Int) ⊕ Out ((List Int) × Int × Int) (List Int)) :=
  bnd ((cond (decide (s11.2.2 < (p1.length : Int))) (some (.brk true)) (some (.brk (decide (0 < s11.2.1))))) : Option (Out (Bool) (List Int))) (Out.elim (fun (s13 : Bool) => (cond s13 (bnd (idx s11.1 (w64 (s4.2 + s11.2.2))) fun y17 => (cond (decide (s11.2.2 < (p1.length : Int))) (bnd (idx p1 s11.2.2) fun y21 => bnd (idx s11.1 (w64 (s4.2 + s11.2.2))) fun y25 => some (.inl ((s11.1.set (w64 (s4.2 + s11.2.2)).toNat (Int.tmod (w64 ((w64 (s11.2.1 + y17)) + (w64 (y7 * y21)))) 1000000)), (w64 (Int.tdiv (w64 ((w64 (s11.2.1 + y17)) + (w64 (y7 * y21)))) 1000000)), (w64 (s11.2.2 + 1))))) (bnd (idx s11.1 (w64 (s4.2 + s11.2.2))) fun y27 => some (.inl ((s11.1.set (w64 (s4.2 + s11.2.2)).toNat (Int.tmod (w64 (s11.2.1 + y17)) 1000000)), (w64 (Int.tdiv (w64 (s11.2.1 + y17)) 1000000)), (w64 (s11.2.2 + 1))))))) (some (.inr (.brk (s11.1, s11.2.1, s11.2.2)))))) (fun (r : (List Int)) => some (.inr (.ret r))))

noncomputable def F_impl_multiply_L1 (p0 : (List Int)) (p1 : (List Int)) (s4 : (List Int) × Int) : Option (((List Int) × Int) ⊕ Out ((List Int) × Int) (List Int)) :=
  (cond (decide (s4.2 < (p0.length : Int))) (bnd (idx p0 s4.2) fun y7 => bnd (run (F_impl_multiply_L2 p1 s4 y7) (s4.1, 0, 0)) (Out.elim (fun (s11 : (List Int) × Int × Int) => some (.inl (s11.1, (w64 (s4.2 + 1))))) (fun (r : (List Int)) => some (.inr (.ret r))))) (some (.inr (.brk (s4.1, s4.2)))))

noncomputable def F_impl_multiply (p0 : (List Int)) (p1 : (List Int)) : Option ((List Int)) :=
  bnd (mke (w64 ((p0.length : Int) + (p1.length : Int))) (0 : Int)) fun z1 => bnd (run (F_impl_multiply_L1 p0 p1) (z1, 0)) (Out.elim (fun (s4 : (List Int) × Int) => bnd (F_impl_trimmed s4.1) fun r29 => some r29) (fun (r : (List Int)) => some r))

noncomputable def F_impl_carried_L1 (p0 : (List Int)) (s2 : (List Int) × Int × Int) : Option (((List Int) × Int × Int) ⊕ Out ((List Int) × Int × Int) (List Int)) :=
  bnd ((cond (decide (s2.2.2 < (p0.length : Int))) (some (.brk true)) (some (.brk (decide (0 < s2.2.1))))) : Option (Out (Bool) (List Int))) (Out.elim (fun (s4 : Bool) => (cond s4 (cond (decide (s2.2.2 < (p0.length : Int))) (bnd (idx p0 s2.2.2) fun y9 => bnd (app s2.1 ([(Int.tmod (w64 (s2.2.1 + y9)) 1000000)] : List Int)) fun z14 => some (.inl (z14, (w64 (Int.tdiv (w64 (s2.2.1 + y9)) 1000000)), (w64 (s2.2.2 + 1))))) (bnd (app s2.1 ([(Int.tmod s2.2.1 1000000)] : List Int)) fun z18 => some (.inl (z18, (w64 (Int.tdiv s2.2.1 1000000)), (w64 (s2.2.2 + 1)))))) (some (.inr (.brk (s2.1, s2.2.1, s2.2.2)))))) (fun (r : (List Int)) => some (.inr (.ret r))))

noncomputable def F_impl_carried (p0 : (List Int)) : Option ((List Int)) :=
  bnd (run (F_impl_carried_L1 p0) (([] : List Int), 0, 0)) (Out.elim (fun (s2 : (List Int) × Int × Int) => bnd (F_impl_trimmed s2.1) fun r21 => some r21) (fun (r : (List Int)) => some r))

noncomputable def F_impl_add_L1 (p1 : (List Int)) (s4 : (List Int) × Int) : Option (((List Int) × Int) ⊕ Out ((List Int) × Int) (List Int)) :=
  (cond (decide (s4.2 < (p1.length : Int))) (bnd (idx p1 s4.2) fun y7 => bnd (idx s4.1 s4.2) fun y11 => bnd (idx s4.1 s4.2) fun y14 => some (.inl ((s4.1.set s4.2.toNat (w64 (y11 + y7))), (w64 (s4.2 + 1))))) (some (.inr (.brk (s4.1, s4.2)))))

noncomputable def F_impl_add (p0 : (List Int)) (p1 : (List Int)) : Option ((List Int)) :=
  bnd (mke (if (p1.length : Int) > (p0.length : Int) then (p1.length : Int) else (p0.length : Int)) (0 : Int)) fun z1 => bnd (run (F_impl_add_L1 p1) ((cpy z1 p0), 0)) (Out.elim (fun (s4 : (List Int) × Int) => bnd (F_impl_carried s4.1) fun r16 => some r16) (fun (r : (List Int)) => some r))


noncomputable def F_impl_checkedSquare (p0 : (List (List Int))) : Option ((List (List Int)) × Int) :=
  bnd (F_impl_isSquare p0) fun r1 => (cond (!r1) (some (([] : (List (List Int))), 5)) (some (p0, 0)))

noncomputable def F_impl_productOf_L3 (p0 : (List (List Int))) (p1 : (List (List Int))) (s2 : (List (List Int)) × Int) (s5 : (List (List Int)) × Int) (s9 : (List Int) × Int) : Option (((List Int) × Int) ⊕ Out ((List Int) × Int) ((List (List Int)) × Int)) :=
  (cond (decide (s9.2 < 3)) (bnd (idx p0 (w64 ((w64 (3 * s2.2)) + s9.2))) fun y12 => bnd (idx p1 (w64 ((w64 (3 * s9.2)) + s5.2))) fun y16 => bnd (F_impl_multiply y12 y16) fun r23 => bnd (F_impl_add s9.1 r23) fun r26 => some (.inl (r26, (w64 (s9.2 + 1))))) (some (.inr (.brk (s9.1, s9.2)))))

noncomputable def F_impl_productOf_L2 (p0 : (List (List Int))) (p1 : (List (List Int))) (s2 : (List (List Int)) × Int) (s5 : (List (List Int)) × Int) : Option (((List (List Int)) × Int) ⊕ Out ((List (List Int)) × Int) ((List (List Int)) × Int)) :=
  (cond (decide (s5.2 < 3)) (bnd (run (F_impl_productOf_L3 p0 p1 s2 s5) (([] : List Int), 0)) (Out.elim (fun (s9 : (List Int) × Int) => bnd (app s5.1 ([s9.1] : List (List Int))) fun z30 => some (.inl (z30, (w64 (s5.2 + 1))))) (fun (r : (List (List Int)) × Int) => some (.inr (.ret r))))) (some (.inr (.brk (s5.1, s5.2)))))

noncomputable def F_impl_productOf_L1 (p0 : (List (List Int))) (p1 : (List (List Int))) (s2 : (List (List Int)) × Int) : Option (((List (List Int)) × Int) ⊕ Out ((List (List Int)) × Int) ((List (List Int)) × Int)) :=
  (cond (decide (s2.2 < 3)) (bnd (run (F_impl_productOf_L2 p0 p1 s2) (s2.1, 0)) (Out.elim (fun (s5 : (List (List Int)) × Int) => some (.inl (s5.1, (w64 (s2.2 + 1))))) (fun (r : (List (List Int)) × Int) => some (.inr (.ret r))))) (some (.inr (.brk (s2.1, s2.2)))))

noncomputable def F_impl_productOf (p0 : (List (List Int))) (p1 : (List (List Int))) : Option ((List (List Int)) × Int) :=
  bnd (run (F_impl_productOf_L1 p0 p1) (([] : List (List Int)), 0)) (Out.elim (fun (s2 : (List (List Int)) × Int) => bnd (F_impl_checkedSquare s2.1) fun r33 => some (r33.1, r33.2)) (fun (r : (List (List Int)) × Int) => some r))


noncomputable def F_impl_MultiplySquares (p0 : (List (List Int))) (p1 : (List (List Int))) : Option ((List (List Int)) × Int) :=
  bnd (F_impl_isSquare p0) fun r1 => (cond (!r1) (some (([] : (List (List Int))), 1)) (bnd (F_impl_isSquare p1) fun r4 => (cond (!r4) (some (([] : (List (List Int))), 1)) (bnd (F_impl_productOf p0 p1) fun r7 => some (r7.1, r7.2)))))

noncomputable def F_laws_markInt64SS_L1 (s1 : (List (List Int)) × Int × Int) : Option (((List (List Int)) × Int × Int) ⊕ Out ((List (List Int)) × Int × Int) (Int × (List (List Int)))) :=
  (cond (decide (s1.2.2 < (s1.1.length : Int))) (bnd (idx s1.1 s1.2.2) fun y4 => bnd (F_laws_markInt64S y4 s1.2.1) fun r10 => some (.inl ((s1.1.set s1.2.2.toNat r10.2), r10.1, (w64 (s1.2.2 + 1))))) (some (.inr (.brk (s1.1, s1.2.1, s1.2.2)))))

noncomputable def F_laws_markInt64SS (p0 : (List (List Int))) (p1 : Int) : Option (Int × (List (List Int))) :=
  bnd (run (F_laws_markInt64SS_L1) (p0, p1, 0)) (Out.elim (fun (s1 : (List (List Int)) × Int × Int) => some (s1.2.1, s1.1)) (fun (r : Int × (List (List Int))) => some r))

noncomputable def F_laws_heldInt64SS_L1 (p0 : (List (List Int))) (s1 : Int × Int) : Option ((Int × Int) ⊕ Out (Int × Int) Int) :=
  (cond (decide (s1.2 < (p0.length : Int))) (bnd (idx p0 s1.2) fun y4 => bnd (F_laws_heldInt64S y4 s1.1) fun r8 => (cond (decide (r8 < 0)) (some (.inr (.ret (-1)))) (some (.inl (r8, (w64 (s1.2 + 1))))))) (some (.inr (.brk (s1.1, s1.2)))))

noncomputable def F_laws_heldInt64SS (p0 : (List (List Int))) (p1 : Int) : Option (Int) :=
  bnd (run (F_laws_heldInt64SS_L1 p0) (p1, 0)) (Out.elim (fun (s1 : Int × Int) => some s1.1) (fun (r : Int) => some r))


noncomputable def F_laws_FnExactMultiplySquares (p0 : (List (List Int))) (p1 : (List (List Int))) : Option (Bool) :=
  bnd (F_laws_szInt64SS p0 1048576) fun r1 => (cond (decide (r1 < 0)) (some true) (bnd (F_laws_szInt64SS p1 r1) fun r4 => (cond (decide (r4 < 0)) (some true) (bnd (F_laws_toInt64SS p0) fun r7 => bnd (F_laws_toInt64SS p1) fun r10 => bnd (F_spec_MultiplySquares r7 r10) fun r13 => bnd (F_laws_toInt64SS p0) fun r16 => bnd (F_laws_toInt64SS p1) fun r19 => bnd (F_impl_MultiplySquares r16 r19) fun r22 => bnd (bnd (F_laws_eqInt64SS r22.1 r13.1) fun r27 => (cond (!r27) (some (.ret false)) (cond (decide (r22.2 ≠ r13.2)) (some (.ret false)) (some (.brk ())))) : Option (Out (Unit) Bool)) (Out.elim (fun (s25 : Unit) => bnd (F_laws_toInt64SS p0) fun r31 => bnd (F_laws_eqInt64SS r16 r31) fun r34 => (cond (!r34) (some false) (bnd (F_laws_toInt64SS p1) fun r37 => bnd (F_laws_eqInt64SS r19 r37) fun r40 => (cond (!r40) (some false) (bnd (F_laws_markInt64SS r16 1) fun r43 => bnd (F_laws_markInt64SS r19 r43.1) fun r45 => bnd ((cond (decide (r45.1 < 0)) (some (.ret false)) (bnd (F_laws_eqInt64SS r22.1 r13.1) fun r50 => (cond (!r50) (some (.ret false)) (cond (decide (r22.2 ≠ r13.2)) (some (.ret false)) (some (.brk ())))))) : Option (Out (Unit) Bool)) (Out.elim (fun (s47 : Unit) => bnd (F_laws_markInt64SS r22.1 1) fun r54 => bnd (F_laws_heldInt64SS r54.2 1) fun r56 => (cond (decide (r56 < 0)) (some false) (cond (decide (r56 ≠ r54.1)) (some false) (bnd (F_laws_toInt64SS p0) fun r60 => bnd (F_laws_toInt64SS p1) fun r63 => bnd (F_impl_MultiplySquares r60 r63) fun r66 => bnd (F_laws_eqInt64SS r66.1 r13.1) fun r69 => (cond (!r69) (some false) (cond (decide (r66.2 ≠ r13.2)) (some false) (bnd (F_laws_heldInt64SS r54.2 1) fun r73 => (cond (decide (r73 < 0)) (some false) (cond (decide (r73 ≠ r54.1)) (some false) (some true)))))))))) (fun (r : Bool) => some r))))))) (fun (r : Bool) => some r))))))


noncomputable def F_spec_TopOf (p0 : (List GTile)) (p1 : (List Int)) (p2 : (List (List Int))) : Option ((List Int) × Int) :=
  bnd (F_spec_l33Is p0) fun r1 => (cond (!r1) (some (([] : (List Int)), 1)) (bnd (F_spec_l33Frame p1) fun r4 => (cond (!r4) (some (([] : (List Int)), 2)) (bnd (F_spec_l33Top p0 p1 p2) fun r7 => (cond (!r7.2) (some (([] : (List Int)), 7)) (some (r7.1, 0)))))))


noncomputable def F_impl_TopOf (p0 : (List GTile)) (p1 : (List Int)) (p2 : (List (List Int))) : Option ((List Int) × Int) :=
  bnd (F_impl_ValidTiles p0) fun r1 => (cond (!r1) (some (([] : (List Int)), 1)) (bnd (F_impl_isFrame p1) fun r4 => (cond (!r4) (some (([] : (List Int)), 2)) (bnd (F_impl_topsOf p0 p1 p2) fun r7 => (cond (!r7.2) (some (([] : (List Int)), 7)) (bnd (idx r7.1 (w64 ((r7.1.length : Int) - 1))) fun y11 => some (y11, 0)))))))

noncomputable def F_laws_markTileS_L1 (s1 : (List GTile) × Int × Int) : Option (((List GTile) × Int × Int) ⊕ Out ((List GTile) × Int × Int) (Int × (List GTile))) :=
  (cond (decide (s1.2.2 < (s1.1.length : Int))) (bnd (idx s1.1 s1.2.2) fun y4 => bnd (idx (s1.1.set s1.2.2.toNat (⟨s1.2.1, y4.Bottom, y4.Right, y4.Top⟩ : GTile)) s1.2.2) fun y9 => bnd (idx ((s1.1.set s1.2.2.toNat (⟨s1.2.1, y4.Bottom, y4.Right, y4.Top⟩ : GTile)).set s1.2.2.toNat (⟨y9.Left, (w64 (s1.2.1 + 1)), y9.Right, y9.Top⟩ : GTile)) s1.2.2) fun y11 => bnd (idx (((s1.1.set s1.2.2.toNat (⟨s1.2.1, y4.Bottom, y4.Right, y4.Top⟩ : GTile)).set s1.2.2.toNat (⟨y9.Left, (w64 (s1.2.1 + 1)), y9.Right, y9.Top⟩ : GTile)).set s1.2.2.toNat (⟨y11.Left, y11.Bottom, (w64 ((w64 (s1.2.1 + 1)) + 1)), y11.Top⟩ : GTile)) s1.2.2) fun y13 => some (.inl (((((s1.1.set s1.2.2.toNat (⟨s1.2.1, y4.Bottom, y4.Right, y4.Top⟩ : GTile)).set s1.2.2.toNat (⟨y9.Left, (w64 (s1.2.1 + 1)), y9.Right, y9.Top⟩ : GTile)).set s1.2.2.toNat (⟨y11.Left, y11.Bottom, (w64 ((w64 (s1.2.1 + 1)) + 1)), y11.Top⟩ : GTile)).set s1.2.2.toNat (⟨y13.Left, y13.Bottom, y13.Right, (w64 ((w64 ((w64 (s1.2.1 + 1)) + 1)) + 1))⟩ : GTile)), (w64 ((w64 ((w64 ((w64 (s1.2.1 + 1)) + 1)) + 1)) + 1)), (w64 (s1.2.2 + 1))))) (some (.inr (.brk (s1.1, s1.2.1, s1.2.2)))))

noncomputable def F_laws_markTileS (p0 : (List GTile)) (p1 : Int) : Option (Int × (List GTile)) :=
  bnd (run (F_laws_markTileS_L1) (p0, p1, 0)) (Out.elim (fun (s1 : (List GTile) × Int × Int) => some (s1.2.1, s1.1)) (fun (r : Int × (List GTile)) => some r))


noncomputable def F_laws_FnExactTopOf (p0 : (List GTile)) (p1 : (List Int)) (p2 : (List (List Int))) : Option (Bool) :=
  (cond (decide (1048576 < (p1.length : Int))) (some true) (bnd (F_laws_szTileS p0 1048576) fun r2 => (cond (decide (r2 < 0)) (some true) (bnd (F_laws_szInt64SS p2 r2) fun r5 => (cond (decide (r5 < 0)) (some true) (bnd (F_laws_toTileS p0) fun r8 => bnd (F_laws_toInt64S p1) fun r11 => bnd (F_laws_toInt64SS p2) fun r14 => bnd (F_spec_TopOf r8 r11 r14) fun r17 => bnd (F_laws_toTileS p0) fun r20 => bnd (F_laws_toInt64S p1) fun r23 => bnd (F_laws_toInt64SS p2) fun r26 => bnd (F_impl_TopOf r20 r23 r26) fun r29 => bnd (bnd (F_laws_eqInt64S r29.1 r17.1) fun r34 => (cond (!r34) (some (.ret false)) (cond (decide (r29.2 ≠ r17.2)) (some (.ret false)) (some (.brk ())))) : Option (Out (Unit) Bool)) (Out.elim (fun (s32 : Unit) => bnd (F_laws_toTileS p0) fun r38 => bnd (F_laws_eqTileS r20 r38) fun r41 => (cond (!r41) (some false) (bnd (F_laws_toInt64S p1) fun r44 => bnd (F_laws_eqInt64S r23 r44) fun r47 => (cond (!r47) (some false) (bnd (F_laws_toInt64SS p2) fun r50 => bnd (F_laws_eqInt64SS r26 r50) fun r53 => (cond (!r53) (some false) (bnd (F_laws_markTileS r20 1) fun r56 => bnd (F_laws_markInt64S r23 r56.1) fun r58 => bnd (F_laws_markInt64SS r26 r58.1) fun r60 => bnd ((cond (decide (r60.1 < 0)) (some (.ret false)) (bnd (F_laws_eqInt64S r29.1 r17.1) fun r65 => (cond (!r65) (some (.ret false)) (cond (decide (r29.2 ≠ r17.2)) (some (.ret false)) (some (.brk ())))))) : Option (Out (Unit) Bool)) (Out.elim (fun (s62 : Unit) => bnd (F_laws_markInt64S r29.1 1) fun r69 => bnd (F_laws_heldInt64S r69.2 1) fun r71 => (cond (decide (r71 < 0)) (some false) (cond (decide (r71 ≠ r69.1)) (some false) (bnd (F_laws_toTileS p0) fun r75 => bnd (F_laws_toInt64S p1) fun r78 => bnd (F_laws_toInt64SS p2) fun r81 => bnd (F_impl_TopOf r75 r78 r81) fun r84 => bnd (F_laws_eqInt64S r84.1 r17.1) fun r87 => (cond (!r87) (some false) (cond (decide (r84.2 ≠ r17.2)) (some false) (bnd (F_laws_heldInt64S r69.2 1) fun r91 => (cond (decide (r91 < 0)) (some false) (cond (decide (r91 ≠ r69.1)) (some false) (some true)))))))))) (fun (r : Bool) => some r))))))))) (fun (r : Bool) => some r))))))))


noncomputable def F_laws_szRuleS (p0 : (List GRule)) (p1 : Int) : Option (Int) :=
  (cond (decide ((w64 (p1 - (p0.length : Int))) < 0)) (some (-1)) (some (w64 (p1 - (p0.length : Int)))))


noncomputable def F_laws_szMachine (p0 : GMachine) (p1 : Int) : Option (Int) :=
  bnd (F_laws_szRuleS p0.Rules p1) fun r2 => (cond (decide (r2 < 0)) (some (-1)) (some r2))


noncomputable def F_laws_toRule (p0 : GRule) : Option (GRule) :=
  some p0

noncomputable def F_laws_toRuleS_L1 (p0 : (List GRule)) (s4 : (List GRule) × Int) : Option (((List GRule) × Int) ⊕ Out ((List GRule) × Int) (List GRule)) :=
  (cond (decide (s4.2 < (p0.length : Int))) (bnd (idx p0 s4.2) fun y7 => bnd (F_laws_toRule y7) fun r11 => bnd (idx s4.1 s4.2) fun y13 => some (.inl ((s4.1.set s4.2.toNat r11), (w64 (s4.2 + 1))))) (some (.inr (.brk (s4.1, s4.2)))))

noncomputable def F_laws_toRuleS (p0 : (List GRule)) : Option ((List GRule)) :=
  bnd (mke (p0.length : Int) (⟨(0 : Int), (0 : Int), (0 : Int)⟩ : GRule)) fun z1 => bnd (run (F_laws_toRuleS_L1 p0) (z1, 0)) (Out.elim (fun (s4 : (List GRule) × Int) => some s4.1) (fun (r : (List GRule)) => some r))


noncomputable def F_laws_toMachine (p0 : GMachine) : Option (GMachine) :=
  bnd (F_laws_toRuleS p0.Rules) fun r4 => some (⟨p0.Symbols, p0.States, r4⟩ : GMachine)


noncomputable def F_spec_l05None : Option (GRule) :=
  some (⟨0, 0, (-1)⟩ : GRule)


noncomputable def F_spec_l05Rule (p0 : GRule) (p1 : Int) (p2 : Int) : Option (Bool) :=
  bnd F_spec_l05None fun r5 => (cond (decide (p0 = r5)) (some true) (bnd (F_spec_l00In p0.Write 0 (w64 (p1 - 1))) fun r8 => (cond r8 (cond (decide (p0.Move = 1)) (bnd (F_spec_l00In p0.Next 0 (w64 (p2 - 1))) fun r12 => some r12) (cond (decide (p0.Move = (-1))) (bnd (F_spec_l00In p0.Next 0 (w64 (p2 - 1))) fun r15 => some r15) (some false))) (some false))))

noncomputable def F_spec_l05Is_L1 (p0 : GMachine) (s31 : Int) : Option ((Int) ⊕ Out (Int) Bool) :=
  (cond (decide (s31 < (p0.Rules.length : Int))) (bnd (idx p0.Rules s31) fun y38 => bnd (F_spec_l05Rule y38 p0.Symbols p0.States) fun r49 => (cond (!r49) (some (.inr (.ret false))) (some (.inl (w64 (s31 + 1)))))) (some (.inr (.brk s31))))

noncomputable def F_spec_l05Is (p0 : GMachine) : Option (Bool) :=
  bnd (bnd (F_spec_l00In p0.Symbols 2 6) fun r8 => (cond (!r8) (some (.ret false)) (bnd (F_spec_l00In p0.States 1 1000) fun r15 => (cond (!r15) (some (.ret false)) (cond (decide ((p0.Rules.length : Int) ≠ (w64 (p0.Symbols * p0.States)))) (some (.ret false)) (some (.brk ())))))) : Option (Out (Unit) Bool)) (Out.elim (fun (s1 : Unit) => bnd (run (F_spec_l05Is_L1 p0) 0) (Out.elim (fun (s31 : Int) => some true) (fun (r : Bool) => some r))) (fun (r : Bool) => some r))


noncomputable def F_spec_l33Head (p0 : GMachine) (p1 : Int) (p2 : Int) : Option (Int) :=
  some (w64 ((w64 (p0.Symbols * (w64 (p1 + 1)))) + p2))

noncomputable def F_spec_l33Tiles_L1 (p0 : GMachine) (s7 : (List GTile) × Int) : Option (((List GTile) × Int) ⊕ Out ((List GTile) × Int) ((List GTile) × Bool)) :=
  (cond (decide (s7.2 < p0.Symbols)) (bnd (app s7.1 ([(⟨0, s7.2, 0, s7.2⟩ : GTile)] : List GTile)) fun z13 => some (.inl (z13, (w64 (s7.2 + 1))))) (some (.inr (.brk (s7.1, s7.2)))))

noncomputable def F_spec_l33Tiles_L3 (p0 : GMachine) (s16 : (List GTile) × Int) (s21 : (List GTile) × Int) : Option (((List GTile) × Int) ⊕ Out ((List GTile) × Int) ((List GTile) × Bool)) :=
  (cond (decide (s21.2 < p0.Symbols)) (bnd (idx p0.Rules (w64 ((w64 (s16.2 * p0.Symbols)) + s21.2))) fun y30 => bnd F_spec_l05None fun r41 => (cond (decide (y30 = r41)) (some (.inl (s21.1, (w64 (s21.2 + 1))))) (bnd (F_spec_l33Head p0 s16.2 s21.2) fun r47 => (cond (decide (0 < y30.Move)) (bnd (app s21.1 ([(⟨0, r47, (w64 (1 + (w64 (2 * y30.Next)))), y30.Write⟩ : GTile)] : List GTile)) fun z52 => some (.inl (z52, (w64 (s21.2 + 1))))) (bnd (app s21.1 ([(⟨(w64 (2 + (w64 (2 * y30.Next)))), r47, 0, y30.Write⟩ : GTile)] : List GTile)) fun z56 => some (.inl (z56, (w64 (s21.2 + 1))))))))) (some (.inr (.brk (s21.1, s21.2)))))

noncomputable def F_spec_l33Tiles_L2 (p0 : GMachine) (s16 : (List GTile) × Int) : Option (((List GTile) × Int) ⊕ Out ((List GTile) × Int) ((List GTile) × Bool)) :=
  (cond (decide (s16.2 < p0.States)) (bnd (run (F_spec_l33Tiles_L3 p0 s16) (s16.1, 0)) (Out.elim (fun (s21 : (List GTile) × Int) => some (.inl (s21.1, (w64 (s16.2 + 1))))) (fun (r : (List GTile) × Bool) => some (.inr (.ret r))))) (some (.inr (.brk (s16.1, s16.2)))))

noncomputable def F_spec_l33Tiles_L5 (p0 : GMachine) (s69 : (List GTile) × Int) (s74 : (List GTile) × Int) : Option (((List GTile) × Int) ⊕ Out ((List GTile) × Int) ((List GTile) × Bool)) :=
  (cond (decide (s74.2 < p0.Symbols)) (bnd (F_spec_l33Head p0 s69.2 s74.2) fun r79 => bnd (app s74.1 ([(⟨(w64 (1 + (w64 (2 * s69.2)))), s74.2, 0, r79⟩ : GTile), (⟨0, s74.2, (w64 (2 + (w64 (2 * s69.2)))), r79⟩ : GTile)] : List GTile)) fun z82 => some (.inl (z82, (w64 (s74.2 + 1))))) (some (.inr (.brk (s74.1, s74.2)))))

noncomputable def F_spec_l33Tiles_L4 (p0 : GMachine) (s69 : (List GTile) × Int) : Option (((List GTile) × Int) ⊕ Out ((List GTile) × Int) ((List GTile) × Bool)) :=
  (cond (decide (s69.2 < p0.States)) (bnd (run (F_spec_l33Tiles_L5 p0 s69) (s69.1, 0)) (Out.elim (fun (s74 : (List GTile) × Int) => some (.inl (s74.1, (w64 (s69.2 + 1))))) (fun (r : (List GTile) × Bool) => some (.inr (.ret r))))) (some (.inr (.brk (s69.1, s69.2)))))

noncomputable def F_spec_l33Tiles (p0 : GMachine) : Option ((List GTile) × Bool) :=
  (cond (decide (300 < (w64 ((w64 (2 * p0.Symbols)) * p0.States)))) (some (([] : List GTile), false)) (bnd (run (F_spec_l33Tiles_L1 p0) (([] : List GTile), 0)) (Out.elim (fun (s7 : (List GTile) × Int) => bnd (run (F_spec_l33Tiles_L2 p0) (s7.1, 0)) (Out.elim (fun (s16 : (List GTile) × Int) => bnd (run (F_spec_l33Tiles_L4 p0) (s16.1, 0)) (Out.elim (fun (s69 : (List GTile) × Int) => some (s69.1, (decide ((s69.1.length : Int) ≤ 300)))) (fun (r : (List GTile) × Bool) => some r))) (fun (r : (List GTile) × Bool) => some r))) (fun (r : (List GTile) × Bool) => some r))))


noncomputable def F_spec_TilesOfMachine (p0 : GMachine) : Option ((List GTile) × Int) :=
  bnd (F_spec_l05Is p0) fun r2 => (cond (!r2) (some (([] : (List GTile)), 1)) (bnd (F_spec_l33Tiles p0) fun r5 => (cond (!r5.2) (some (([] : (List GTile)), 5)) (some (r5.1, 0)))))


noncomputable def F_impl_size_impl_Rule (p0 : (List GRule)) : Option (Int) :=
  some (p0.length : Int)


noncomputable def F_impl_noRule : Option (GRule) :=
  some (⟨0, 0, (-1)⟩ : GRule)


noncomputable def F_impl_isRule (p0 : GRule) : Option (Bool) :=
  bnd F_impl_noRule fun r5 => some (!(decide (p0 = r5)))


noncomputable def F_impl_validRule (p0 : GMachine) (p1 : GRule) : Option (Bool) :=
  bnd (F_impl_isRule p1) fun r3 => (cond (!r3) (some true) (bnd (F_impl_within p1.Write 0 (w64 (p0.Symbols - 1))) fun r6 => (cond r6 (cond (decide (p1.Move = (-1))) (bnd (F_impl_within p1.Next 0 (w64 (p0.States - 1))) fun r10 => some r10) (cond (decide (p1.Move = 1)) (bnd (F_impl_within p1.Next 0 (w64 (p0.States - 1))) fun r13 => some r13) (some false))) (some false))))


noncomputable def F_impl_ValidMachine_1 (p0 : GRule) (p1 : GMachine) : Option (Bool) :=
  bnd (F_impl_validRule p1 p0) fun r3 => some (!r3)

noncomputable def F_slices_IndexFunc_Simpl_Rule_impl_Rule_L1 (p0 : (List GRule)) (p1 : (GRule → Option Bool)) (s1 : Int) : Option ((Int) ⊕ Out (Int) Int) :=
  (cond (decide (s1 < (p0.length : Int))) (bnd (idx p0 s1) fun y4 => bnd (p1 y4) fun r8 => (cond r8 (some (.inr (.ret s1))) (some (.inl (w64 (s1 + 1)))))) (some (.inr (.brk s1))))

noncomputable def F_slices_IndexFunc_Simpl_Rule_impl_Rule (p0 : (List GRule)) (p1 : (GRule → Option Bool)) : Option (Int) :=
  bnd (run (F_slices_IndexFunc_Simpl_Rule_impl_Rule_L1 p0 p1) 0) (Out.elim (fun (s1 : Int) => some (-1)) (fun (r : Int) => some r))


noncomputable def F_slices_ContainsFunc_Simpl_Rule_impl_Rule (p0 : (List GRule)) (p1 : (GRule → Option Bool)) : Option (Bool) :=
  bnd (F_slices_IndexFunc_Simpl_Rule_impl_Rule p0 p1) fun r1 => some (decide (0 ≤ r1))


noncomputable def F_impl_ValidMachine (p0 : GMachine) : Option (Bool) :=
  bnd (F_impl_within p0.Symbols 2 6) fun r5 => (cond (!r5) (some false) (bnd (F_impl_within p0.States 1 1000) fun r8 => (cond (!r8) (some false) (bnd (F_impl_size_impl_Rule p0.Rules) fun r11 => (cond (decide (r11 ≠ (w64 (p0.States * p0.Symbols)))) (some false) (bnd (F_slices_ContainsFunc_Simpl_Rule_impl_Rule p0.Rules (fun x_ => F_impl_ValidMachine_1 x_ p0)) fun r14 => some (!r14)))))))


noncomputable def F_impl_resting (p0 : Int) : Option (GTile) :=
  some (⟨0, p0, 0, p0⟩ : GTile)


noncomputable def F_impl_headColor (p0 : GMachine) (p1 : Int) (p2 : Int) : Option (Int) :=
  some (w64 ((w64 (p0.Symbols * (w64 (p1 + 1)))) + p2))


noncomputable def F_impl_passes (p0 : Int) (p1 : Int) : Option (Int) :=
  (cond (decide (p0 = 1)) (some (w64 (1 + (w64 (2 * p1))))) (some (w64 (2 + (w64 (2 * p1))))))


noncomputable def F_impl_leaving (p0 : GMachine) (p1 : Int) (p2 : Int) (p3 : GRule) : Option (GTile) :=
  bnd (F_impl_headColor p0 p1 p2) fun r7 => (cond (decide (p3.Move = 1)) (bnd (F_impl_passes 1 p3.Next) fun r11 => some (⟨0, r7, r11, p3.Write⟩ : GTile)) (bnd (F_impl_passes (-1) p3.Next) fun r13 => some (⟨r13, r7, 0, p3.Write⟩ : GTile)))


noncomputable def F_impl_coming (p0 : GMachine) (p1 : Int) (p2 : Int) (p3 : Int) : Option (GTile) :=
  bnd (F_impl_headColor p0 p2 p3) fun r3 => (cond (decide (p1 = 1)) (bnd (F_impl_passes 1 p2) fun r7 => some (⟨r7, p3, 0, r3⟩ : GTile)) (bnd (F_impl_passes (-1) p2) fun r9 => some (⟨0, p3, r9, r3⟩ : GTile)))

noncomputable def F_impl_tilesOfMachine_L1 (p0 : GMachine) (s3 : (List GTile) × Int) : Option (((List GTile) × Int) ⊕ Out ((List GTile) × Int) ((List GTile) × Int)) :=
  (cond (decide (s3.2 < p0.Symbols)) (bnd (F_impl_resting s3.2) fun r6 => bnd (app s3.1 ([r6] : List GTile)) fun z9 => some (.inl (z9, (w64 (s3.2 + 1))))) (some (.inr (.brk (s3.1, s3.2)))))

noncomputable def F_impl_tilesOfMachine_L2 (p0 : GMachine) (s12 : (List GTile) × Int) : Option (((List GTile) × Int) ⊕ Out ((List GTile) × Int) ((List GTile) × Int)) :=
  (cond (decide (s12.2 < (p0.Rules.length : Int))) (bnd (idx p0.Rules s12.2) fun y15 => bnd (F_impl_isRule y15) fun r20 => (cond r20 (bnd (nz p0.Symbols) fun u23 => bnd (nz p0.Symbols) fun u25 => bnd (F_impl_leaving p0 (w64 (Int.tdiv s12.2 p0.Symbols)) (Int.tmod s12.2 p0.Symbols) y15) fun r30 => bnd (app s12.1 ([r30] : List GTile)) fun z33 => some (.inl (z33, (w64 (s12.2 + 1))))) (some (.inl (s12.1, (w64 (s12.2 + 1))))))) (some (.inr (.brk (s12.1, s12.2)))))

noncomputable def F_impl_tilesOfMachine_L4 (p0 : GMachine) (s36 : (List GTile) × Int) (s39 : (List GTile) × Int) : Option (((List GTile) × Int) ⊕ Out ((List GTile) × Int) ((List GTile) × Int)) :=
  (cond (decide (s39.2 < p0.Symbols)) (bnd (F_impl_coming p0 1 s36.2 s39.2) fun r45 => bnd (F_impl_coming p0 (-1) s36.2 s39.2) fun r47 => bnd (app s39.1 ([r45, r47] : List GTile)) fun z50 => some (.inl (z50, (w64 (s39.2 + 1))))) (some (.inr (.brk (s39.1, s39.2)))))

noncomputable def F_impl_tilesOfMachine_L3 (p0 : GMachine) (s36 : (List GTile) × Int) : Option (((List GTile) × Int) ⊕ Out ((List GTile) × Int) ((List GTile) × Int)) :=
  (cond (decide (s36.2 < p0.States)) (bnd (run (F_impl_tilesOfMachine_L4 p0 s36) (s36.1, 0)) (Out.elim (fun (s39 : (List GTile) × Int) => some (.inl (s39.1, (w64 (s36.2 + 1))))) (fun (r : (List GTile) × Int) => some (.inr (.ret r))))) (some (.inr (.brk (s36.1, s36.2)))))

noncomputable def F_impl_tilesOfMachine (p0 : GMachine) : Option ((List GTile) × Int) :=
  bnd (run (F_impl_tilesOfMachine_L1 p0) (([] : List GTile), 0)) (Out.elim (fun (s3 : (List GTile) × Int) => bnd (run (F_impl_tilesOfMachine_L2 p0) (s3.1, 0)) (Out.elim (fun (s12 : (List GTile) × Int) => bnd (run (F_impl_tilesOfMachine_L3 p0) (s12.1, 0)) (Out.elim (fun (s36 : (List GTile) × Int) => (cond (decide (300 < (s36.1.length : Int))) (some (([] : (List GTile)), 5)) (some (s36.1, 0)))) (fun (r : (List GTile) × Int) => some r))) (fun (r : (List GTile) × Int) => some r))) (fun (r : (List GTile) × Int) => some r))


noncomputable def F_impl_TilesOfMachine (p0 : GMachine) : Option ((List GTile) × Int) :=
  bnd (F_impl_ValidMachine p0) fun r2 => (cond (!r2) (some (([] : (List GTile)), 1)) (bnd (F_impl_tilesOfMachine p0) fun r5 => some (r5.1, r5.2)))


noncomputable def F_laws_eqRule (p0 : GRule) (p1 : GRule) : Option (Bool) :=
  (cond (decide (p0.Write ≠ p1.Write)) (some false) (cond (decide (p0.Move ≠ p1.Move)) (some false) (cond (decide (p0.Next ≠ p1.Next)) (some false) (some true))))

noncomputable def F_laws_eqRuleS_L1 (p0 : (List GRule)) (p1 : (List GRule)) (s2 : Int) : Option ((Int) ⊕ Out (Int) Bool) :=
  (cond (decide (s2 < (p0.length : Int))) (bnd (idx p0 s2) fun y5 => bnd (idx p1 s2) fun y9 => bnd (F_laws_eqRule y5 y9) fun r16 => (cond (!r16) (some (.inr (.ret false))) (some (.inl (w64 (s2 + 1)))))) (some (.inr (.brk s2))))

noncomputable def F_laws_eqRuleS (p0 : (List GRule)) (p1 : (List GRule)) : Option (Bool) :=
  (cond (decide ((p0.length : Int) ≠ (p1.length : Int))) (some false) (bnd (run (F_laws_eqRuleS_L1 p0 p1) 0) (Out.elim (fun (s2 : Int) => some true) (fun (r : Bool) => some r))))


noncomputable def F_laws_eqMachine (p0 : GMachine) (p1 : GMachine) : Option (Bool) :=
  (cond (decide (p0.Symbols ≠ p1.Symbols)) (some false) (cond (decide (p0.States ≠ p1.States)) (some false) (bnd (F_laws_eqRuleS p0.Rules p1.Rules) fun r5 => (cond (!r5) (some false) (some true)))))

noncomputable def F_laws_markRuleS_L1 (s1 : (List GRule) × Int × Int) : Option (((List GRule) × Int × Int) ⊕ Out ((List GRule) × Int × Int) (Int × (List GRule))) :=
  (cond (decide (s1.2.2 < (s1.1.length : Int))) (bnd (idx s1.1 s1.2.2) fun y4 => bnd (idx (s1.1.set s1.2.2.toNat (⟨s1.2.1, y4.Move, y4.Next⟩ : GRule)) s1.2.2) fun y9 => bnd (idx ((s1.1.set s1.2.2.toNat (⟨s1.2.1, y4.Move, y4.Next⟩ : GRule)).set s1.2.2.toNat (⟨y9.Write, (w64 (s1.2.1 + 1)), y9.Next⟩ : GRule)) s1.2.2) fun y11 => some (.inl ((((s1.1.set s1.2.2.toNat (⟨s1.2.1, y4.Move, y4.Next⟩ : GRule)).set s1.2.2.toNat (⟨y9.Write, (w64 (s1.2.1 + 1)), y9.Next⟩ : GRule)).set s1.2.2.toNat (⟨y11.Write, y11.Move, (w64 ((w64 (s1.2.1 + 1)) + 1))⟩ : GRule)), (w64 ((w64 ((w64 (s1.2.1 + 1)) + 1)) + 1)), (w64 (s1.2.2 + 1))))) (some (.inr (.brk (s1.1, s1.2.1, s1.2.2)))))

noncomputable def F_laws_markRuleS (p0 : (List GRule)) (p1 : Int) : Option (Int × (List GRule)) :=
  bnd (run (F_laws_markRuleS_L1) (p0, p1, 0)) (Out.elim (fun (s1 : (List GRule) × Int × Int) => some (s1.2.1, s1.1)) (fun (r : Int × (List GRule)) => some r))

noncomputable def F_laws_heldTileS_L1 (p0 : (List GTile)) (s1 : Int × Int) : Option ((Int × Int) ⊕ Out (Int × Int) Int) :=
  (cond (decide (s1.2 < (p0.length : Int))) (bnd (idx p0 s1.2) fun y4 => (cond (decide (y4.Left ≠ s1.1)) (some (.inr (.ret (-1)))) (bnd (idx p0 s1.2) fun y10 => (cond (decide (y10.Bottom ≠ (w64 (s1.1 + 1)))) (some (.inr (.ret (-1)))) (bnd (idx p0 s1.2) fun y16 => (cond (decide (y16.Right ≠ (w64 ((w64 (s1.1 + 1)) + 1)))) (some (.inr (.ret (-1)))) (bnd (idx p0 s1.2) fun y22 => (cond (decide (y22.Top ≠ (w64 ((w64 ((w64 (s1.1 + 1)) + 1)) + 1)))) (some (.inr (.ret (-1)))) (some (.inl ((w64 ((w64 ((w64 ((w64 (s1.1 + 1)) + 1)) + 1)) + 1)), (w64 (s1.2 + 1))))))))))))) (some (.inr (.brk (s1.1, s1.2)))))

noncomputable def F_laws_heldTileS (p0 : (List GTile)) (p1 : Int) : Option (Int) :=
  bnd (run (F_laws_heldTileS_L1 p0) (p1, 0)) (Out.elim (fun (s1 : Int × Int) => some s1.1) (fun (r : Int) => some r))


noncomputable def F_laws_FnExactTilesOfMachine (p0 : GMachine) : Option (Bool) :=
  bnd (F_laws_szMachine p0 1048576) fun r2 => (cond (decide (r2 < 0)) (some true) (bnd (F_laws_toMachine p0) fun r5 => bnd (F_spec_TilesOfMachine r5) fun r8 => bnd (F_laws_toMachine p0) fun r11 => bnd (F_impl_TilesOfMachine r11) fun r15 => bnd (bnd (F_laws_eqTileS r15.1 r8.1) fun r20 => (cond (!r20) (some (.ret false)) (cond (decide (r15.2 ≠ r8.2)) (some (.ret false)) (some (.brk ())))) : Option (Out (Unit) Bool)) (Out.elim (fun (s18 : Unit) => bnd (F_laws_toMachine p0) fun r27 => bnd (F_laws_eqMachine r11 r27) fun r30 => (cond (!r30) (some false) (bnd (F_laws_markRuleS r11.Rules 1) fun r35 => bnd ((cond (decide (r35.1 < 0)) (some (.ret false)) (bnd (F_laws_eqTileS r15.1 r8.1) fun r40 => (cond (!r40) (some (.ret false)) (cond (decide (r15.2 ≠ r8.2)) (some (.ret false)) (some (.brk ())))))) : Option (Out (Unit) Bool)) (Out.elim (fun (s37 : Unit) => bnd (F_laws_markTileS r15.1 1) fun r44 => bnd (F_laws_heldTileS r44.2 1) fun r46 => (cond (decide (r46 < 0)) (some false) (cond (decide (r46 ≠ r44.1)) (some false) (bnd (F_laws_toMachine p0) fun r50 => bnd (F_impl_TilesOfMachine r50) fun r53 => bnd (F_laws_eqTileS r53.1 r8.1) fun r56 => (cond (!r56) (some false) (cond (decide (r53.2 ≠ r8.2)) (some false) (bnd (F_laws_heldTileS r44.2 1) fun r60 => (cond (decide (r60 < 0)) (some false) (cond (decide (r60 ≠ r44.1)) (some false) (some true)))))))))) (fun (r : Bool) => some r))))) (fun (r : Bool) => some r))))

noncomputable def F_spec_l32Least_L1 (p0 : (List GDomino)) (p1 : Int) (s1 : Int) : Option ((Int) ⊕ Out (Int) Bool) :=
  (cond (decide (s1 < (p0.length : Int))) (bnd (idx p0 s1) fun y4 => bnd (idx p0 s1) fun y9 => bnd (F_spec_l06Row y4.Top (y9.Top.length : Int) 0 p1) fun r17 => (cond (!r17) (some (.inr (.ret false))) (bnd (idx p0 s1) fun y20 => bnd (idx p0 s1) fun y28 => bnd (F_spec_l06Row y20.Bottom (y28.Bottom.length : Int) 0 p1) fun r36 => (cond (!r36) (some (.inr (.ret false))) (some (.inl (w64 (s1 + 1)))))))) (some (.inr (.brk s1))))

noncomputable def F_spec_l32Least (p0 : (List GDomino)) (p1 : Int) : Option (Bool) :=
  bnd (run (F_spec_l32Least_L1 p0 p1) 0) (Out.elim (fun (s1 : Int) => some true) (fun (r : Bool) => some r))

noncomputable def F_spec_l32Gap_L1 (p0 : (List GDomino)) (s1 : Int) : Option ((Int) ⊕ Out (Int) Bool) :=
  (cond (decide (s1 < (p0.length : Int))) (bnd (idx p0 s1) fun y4 => (cond (decide ((y4.Top.length : Int) = 0)) (some (.inr (.ret true))) (bnd (idx p0 s1) fun y10 => (cond (decide ((y10.Bottom.length : Int) = 0)) (some (.inr (.ret true))) (some (.inl (w64 (s1 + 1)))))))) (some (.inr (.brk s1))))

noncomputable def F_spec_l32Gap (p0 : (List GDomino)) : Option (Bool) :=
  bnd (run (F_spec_l32Gap_L1 p0) 0) (Out.elim (fun (s1 : Int) => some false) (fun (r : Bool) => some r))

noncomputable def F_spec_l32Starred_L1 (p0 : (List Int)) (p1 : Bool) (s2 : (List Int) × Int) : Option (((List Int) × Int) ⊕ Out ((List Int) × Int) (List Int)) :=
  (cond (decide (s2.2 < (p0.length : Int))) (cond p1 (bnd (idx p0 s2.2) fun y6 => bnd (app s2.1 ([y6, 9] : List Int)) fun z11 => some (.inl (z11, (w64 (s2.2 + 1))))) (bnd (idx p0 s2.2) fun y14 => bnd (app s2.1 ([9, y14] : List Int)) fun z19 => some (.inl (z19, (w64 (s2.2 + 1)))))) (some (.inr (.brk (s2.1, s2.2)))))

noncomputable def F_spec_l32Starred (p0 : (List Int)) (p1 : Bool) : Option ((List Int)) :=
  bnd (run (F_spec_l32Starred_L1 p0 p1) (([] : List Int), 0)) (Out.elim (fun (s2 : (List Int) × Int) => some s2.1) (fun (r : (List Int)) => some r))

noncomputable def F_spec_l32Plain_L1 (p0 : (List GDomino)) (s44 : (List GDomino) × Int) : Option (((List GDomino) × Int) ⊕ Out ((List GDomino) × Int) ((List GDomino) × Int)) :=
  (cond (decide (s44.2 < (p0.length : Int))) (bnd (idx p0 s44.2) fun y47 => bnd (idx p0 s44.2) fun y52 => bnd (F_spec_l32Starred y47.Top true) fun r60 => bnd (F_spec_l32Starred y52.Bottom false) fun r63 => bnd (app s44.1 ([(⟨r60, r63⟩ : GDomino)] : List GDomino)) fun z67 => some (.inl (z67, (w64 (s44.2 + 1))))) (some (.inr (.brk (s44.1, s44.2)))))

noncomputable def F_spec_l32Plain (p0 : (List GDomino)) : Option ((List GDomino) × Int) :=
  bnd (bnd (F_spec_l32Least p0 7) fun r3 => (cond (!r3) (some (.ret (([] : (List GDomino)), 2))) (bnd (F_spec_l32Gap p0) fun r6 => (cond r6 (some (.ret (([] : (List GDomino)), 2))) (some (.brk ()))))) : Option (Out (Unit) ((List GDomino) × Int))) (Out.elim (fun (s1 : Unit) => bnd (bnd (idx p0 0) fun y11 => bnd (idx p0 0) fun y16 => bnd (F_spec_l32Starred y11.Top true) fun r24 => bnd (app ([9] : List Int) r24) fun z28 => bnd (F_spec_l32Starred y16.Bottom false) fun r31 => some (.brk ([(⟨z28, r31⟩ : GDomino)] : List GDomino)) : Option (Out ((List GDomino)) ((List GDomino) × Int))) (Out.elim (fun (s9 : (List GDomino)) => bnd (run (F_spec_l32Plain_L1 p0) (s9, 0)) (Out.elim (fun (s44 : (List GDomino) × Int) => bnd (app s44.1 ([(⟨([8] : List Int), ([9, 8] : List Int)⟩ : GDomino)] : List GDomino)) fun z73 => bnd (F_spec_l32Is z73) fun r76 => (cond (!r76) (some (([] : (List GDomino)), 5)) (some (z73, 0)))) (fun (r : (List GDomino) × Int) => some r))) (fun (r : (List GDomino) × Int) => some r))) (fun (r : (List GDomino) × Int) => some r))


noncomputable def F_spec_PlainDominoes (p0 : (List GDomino)) : Option ((List GDomino) × Int) :=
  bnd (F_spec_l32Is p0) fun r1 => (cond (!r1) (some (([] : (List GDomino)), 1)) (bnd (F_spec_l32Plain p0) fun r4 => some (r4.1, r4.2)))

noncomputable def F_slices_Concat_Sint64_int64_L1 (p0 : (List (List Int))) (s1 : Int × Int) : Option ((Int × Int) ⊕ Out (Int × Int) (List Int)) :=
  (cond (decide (s1.2 < (p0.length : Int))) (bnd (idx p0 s1.2) fun y4 => (cond (decide ((w64 (s1.1 + (y4.length : Int))) < 0)) none (some (.inl ((w64 (s1.1 + (y4.length : Int))), (w64 (s1.2 + 1))))))) (some (.inr (.brk (s1.1, s1.2)))))

noncomputable def F_slices_Concat_Sint64_int64_L2 (p0 : (List (List Int))) (s20 : (List Int) × Int) : Option (((List Int) × Int) ⊕ Out ((List Int) × Int) (List Int)) :=
  (cond (decide (s20.2 < (p0.length : Int))) (bnd (idx p0 s20.2) fun y23 => bnd (app s20.1 y23) fun z27 => some (.inl (z27, (w64 (s20.2 + 1))))) (some (.inr (.brk (s20.1, s20.2)))))

noncomputable def F_slices_Concat_Sint64_int64_L3 (p0 : (List (List Int))) (s30 : (List Int) × Int) : Option (((List Int) × Int) ⊕ Out ((List Int) × Int) (List Int)) :=
  (cond (decide (s30.2 < (p0.length : Int))) (bnd (idx p0 s30.2) fun y33 => bnd (app s30.1 y33) fun z37 => some (.inl (z37, (w64 (s30.2 + 1))))) (some (.inr (.brk (s30.1, s30.2)))))

noncomputable def F_slices_Concat_Sint64_int64 (p0 : (List (List Int))) : Option ((List Int)) :=
  bnd (run (F_slices_Concat_Sint64_int64_L1 p0) (0, 0)) (Out.elim (fun (s1 : Int × Int) => bnd ((cond (decide (s1.1 < 0)) none (some (.brk ()))) : Option (Out (Unit) (List Int))) (Out.elim (fun (s10 : Unit) => (cond (decide (0 < (w64 (s1.1 - (w64 (((0 : Nat) : Int) - ((0 : Nat) : Int))))))) (bnd (mke (w64 (s1.1 - (w64 (((0 : Nat) : Int) - ((0 : Nat) : Int))))) (0 : Int)) fun z14 => bnd (slc z14 0 ((0 : Nat) : Int)) fun z17 => bnd (run (F_slices_Concat_Sint64_int64_L2 p0) (z17, 0)) (Out.elim (fun (s20 : (List Int) × Int) => some s20.1) (fun (r : (List Int)) => some r))) (bnd (run (F_slices_Concat_Sint64_int64_L3 p0) (([] : (List Int)), 0)) (Out.elim (fun (s30 : (List Int) × Int) => some s30.1) (fun (r : (List Int)) => some r))))) (fun (r : (List Int)) => some r))) (fun (r : (List Int)) => some r))


noncomputable def F_impl_joined (p0 : (List (List Int))) : Option ((List Int)) :=
  bnd (F_slices_Concat_Sint64_int64 p0) fun r1 => some r1

noncomputable def F_impl_spread_L1 (p0 : (List Int)) (p1 : Bool) (s2 : (List Int) × Int) : Option (((List Int) × Int) ⊕ Out ((List Int) × Int) (List Int)) :=
  (cond (decide (s2.2 < (p0.length : Int))) (bnd (idx p0 s2.2) fun y5 => (cond p1 (bnd (app s2.1 ([y5, 9] : List Int)) fun z11 => some (.inl (z11, (w64 (s2.2 + 1))))) (bnd (app s2.1 ([9, y5] : List Int)) fun z15 => some (.inl (z15, (w64 (s2.2 + 1))))))) (some (.inr (.brk (s2.1, s2.2)))))

noncomputable def F_impl_spread (p0 : (List Int)) (p1 : Bool) : Option ((List Int)) :=
  bnd (run (F_impl_spread_L1 p0 p1) (([] : List Int), 0)) (Out.elim (fun (s2 : (List Int) × Int) => some s2.1) (fun (r : (List Int)) => some r))

noncomputable def F_impl_plainDominoes_L1 (p0 : (List GDomino)) (s2 : (List GDomino) × Int) : Option (((List GDomino) × Int) ⊕ Out ((List GDomino) × Int) ((List GDomino) × Int)) :=
  (cond (decide (s2.2 < (p0.length : Int))) (bnd (idx p0 s2.2) fun y5 => bnd ((cond (decide ((y5.Top.length : Int) = 0)) (some (.ret (([] : (List GDomino)), 2))) (cond (decide ((y5.Bottom.length : Int) = 0)) (some (.ret (([] : (List GDomino)), 2))) (bnd (F_impl_joined ([y5.Top, y5.Bottom] : List (List Int))) fun r15 => bnd (F_impl_allWithin r15 0 7) fun r18 => (cond (!r18) (some (.ret (([] : (List GDomino)), 2))) (some (.brk ())))))) : Option (Out (Unit) ((List GDomino) × Int))) (Out.elim (fun (s10 : Unit) => (cond (decide (s2.2 = 0)) (bnd (F_impl_spread y5.Top true) fun r25 => bnd (F_impl_joined ([([9] : List Int), r25] : List (List Int))) fun r30 => bnd (F_impl_spread y5.Bottom false) fun r33 => bnd (app s2.1 ([(⟨r30, r33⟩ : GDomino)] : List GDomino)) fun z37 => bnd (F_impl_spread y5.Top true) fun r43 => bnd (F_impl_spread y5.Bottom false) fun r46 => bnd (app z37 ([(⟨r43, r46⟩ : GDomino)] : List GDomino)) fun z50 => some (.inl (z50, (w64 (s2.2 + 1))))) (bnd (F_impl_spread y5.Top true) fun r82 => bnd (F_impl_spread y5.Bottom false) fun r85 => bnd (app s2.1 ([(⟨r82, r85⟩ : GDomino)] : List GDomino)) fun z89 => some (.inl (z89, (w64 (s2.2 + 1))))))) (fun (r : (List GDomino) × Int) => some (.inr (.ret r))))) (some (.inr (.brk (s2.1, s2.2)))))

noncomputable def F_impl_plainDominoes (p0 : (List GDomino)) : Option ((List GDomino) × Int) :=
  bnd (run (F_impl_plainDominoes_L1 p0) (([] : List GDomino), 0)) (Out.elim (fun (s2 : (List GDomino) × Int) => bnd (app s2.1 ([(⟨([8] : List Int), ([9, 8] : List Int)⟩ : GDomino)] : List GDomino)) fun z95 => bnd (F_impl_ValidDominoes z95) fun r98 => (cond (!r98) (some (([] : (List GDomino)), 5)) (some (z95, 0)))) (fun (r : (List GDomino) × Int) => some r))


noncomputable def F_impl_PlainDominoes (p0 : (List GDomino)) : Option ((List GDomino) × Int) :=
  bnd (F_impl_ValidDominoes p0) fun r1 => (cond (!r1) (some (([] : (List GDomino)), 1)) (bnd (F_impl_plainDominoes p0) fun r4 => some (r4.1, r4.2)))

noncomputable def F_laws_heldDominoS_L1 (p0 : (List GDomino)) (s1 : Int × Int) : Option ((Int × Int) ⊕ Out (Int × Int) Int) :=
  (cond (decide (s1.2 < (p0.length : Int))) (bnd (idx p0 s1.2) fun y4 => bnd (F_laws_heldInt64S y4.Top s1.1) fun r9 => (cond (decide (r9 < 0)) (some (.inr (.ret (-1)))) (bnd (idx p0 s1.2) fun y12 => bnd (F_laws_heldInt64S y12.Bottom r9) fun r17 => (cond (decide (r17 < 0)) (some (.inr (.ret (-1)))) (some (.inl (r17, (w64 (s1.2 + 1))))))))) (some (.inr (.brk (s1.1, s1.2)))))

noncomputable def F_laws_heldDominoS (p0 : (List GDomino)) (p1 : Int) : Option (Int) :=
  bnd (run (F_laws_heldDominoS_L1 p0) (p1, 0)) (Out.elim (fun (s1 : Int × Int) => some s1.1) (fun (r : Int) => some r))


noncomputable def F_laws_FnExactPlainDominoes (p0 : (List GDomino)) : Option (Bool) :=
  bnd (F_laws_szDominoS p0 1048576) fun r1 => (cond (decide (r1 < 0)) (some true) (bnd (F_laws_toDominoS p0) fun r4 => bnd (F_spec_PlainDominoes r4) fun r7 => bnd (F_laws_toDominoS p0) fun r10 => bnd (F_impl_PlainDominoes r10) fun r13 => bnd (bnd (F_laws_eqDominoS r13.1 r7.1) fun r18 => (cond (!r18) (some (.ret false)) (cond (decide (r13.2 ≠ r7.2)) (some (.ret false)) (some (.brk ())))) : Option (Out (Unit) Bool)) (Out.elim (fun (s16 : Unit) => bnd (F_laws_toDominoS p0) fun r22 => bnd (F_laws_eqDominoS r10 r22) fun r25 => (cond (!r25) (some false) (bnd (F_laws_markDominoS r10 1) fun r28 => bnd ((cond (decide (r28.1 < 0)) (some (.ret false)) (bnd (F_laws_eqDominoS r13.1 r7.1) fun r33 => (cond (!r33) (some (.ret false)) (cond (decide (r13.2 ≠ r7.2)) (some (.ret false)) (some (.brk ())))))) : Option (Out (Unit) Bool)) (Out.elim (fun (s30 : Unit) => bnd (F_laws_markDominoS r13.1 1) fun r37 => bnd (F_laws_heldDominoS r37.2 1) fun r39 => (cond (decide (r39 < 0)) (some false) (cond (decide (r39 ≠ r37.1)) (some false) (bnd (F_laws_toDominoS p0) fun r43 => bnd (F_impl_PlainDominoes r43) fun r46 => bnd (F_laws_eqDominoS r46.1 r7.1) fun r49 => (cond (!r49) (some false) (cond (decide (r46.2 ≠ r7.2)) (some false) (bnd (F_laws_heldDominoS r37.2 1) fun r53 => (cond (decide (r53 < 0)) (some false) (cond (decide (r53 ≠ r37.1)) (some false) (some true)))))))))) (fun (r : Bool) => some r))))) (fun (r : Bool) => some r))))

noncomputable def F_spec_l03Reverse_L1 (p0 : (List Int)) (s2 : (List Int) × Int) : Option (((List Int) × Int) ⊕ Out ((List Int) × Int) (List Int)) :=
  (cond (decide (0 ≤ s2.2)) (bnd (idx p0 s2.2) fun y5 => bnd (app s2.1 ([y5] : List Int)) fun z10 => some (.inl (z10, (w64 (s2.2 - 1))))) (some (.inr (.brk (s2.1, s2.2)))))

noncomputable def F_spec_l03Reverse (p0 : (List Int)) : Option ((List Int)) :=
  bnd (run (F_spec_l03Reverse_L1 p0) (([] : List Int), (w64 ((p0.length : Int) - 1)))) (Out.elim (fun (s2 : (List Int) × Int) => some s2.1) (fun (r : (List Int)) => some r))

noncomputable def F_spec_l05Trim_L1 (p0 : (List Int)) (s1 : Int) : Option ((Int) ⊕ Out (Int) (List Int)) :=
  (cond (decide (0 < s1)) (bnd (idx p0 (w64 (s1 - 1))) fun y4 => (cond (decide (y4 = 0)) (some (.inl (w64 (s1 - 1)))) (some (.inr (.brk s1))))) (some (.inr (.brk s1))))

noncomputable def F_spec_l05Trim (p0 : (List Int)) : Option ((List Int)) :=
  bnd (run (F_spec_l05Trim_L1 p0) (p0.length : Int)) (Out.elim (fun (s1 : Int) => bnd (slc p0 0 s1) fun z9 => bnd (F_spec_l00Own z9) fun r12 => some r12) (fun (r : (List Int)) => some r))

noncomputable def F_spec_l33Config_L1 (p0 : GMachine) (p1 : (List Int)) (s3 : Int × (List Int) × Int × Int) : Option ((Int × (List Int) × Int × Int) ⊕ Out (Int × (List Int) × Int × Int) (GConfig × Int × Bool)) :=
  (cond (decide (s3.2.2.2 < (p1.length : Int))) (bnd (idx p1 s3.2.2.2) fun y6 => bnd (F_spec_l00In y6 0 (w64 (p0.Symbols - 1))) fun r15 => (cond r15 (bnd (idx p1 s3.2.2.2) fun y18 => bnd (app s3.2.1 ([y18] : List Int)) fun z23 => some (.inl (s3.1, z23, s3.2.2.1, (w64 (s3.2.2.2 + 1))))) (bnd ((cond (decide (0 ≤ s3.1)) (some (.ret ((⟨0, ([] : (List Int)), ([] : (List Int))⟩ : GConfig), 0, false))) (bnd (idx p1 s3.2.2.2) fun y29 => bnd (F_spec_l00In y29 p0.Symbols (w64 ((w64 (p0.Symbols * (w64 (p0.States + 1)))) - 1))) fun r42 => (cond (!r42) (some (.ret ((⟨0, ([] : (List Int)), ([] : (List Int))⟩ : GConfig), 0, false))) (some (.brk ()))))) : Option (Out (Unit) (GConfig × Int × Bool))) (Out.elim (fun (s26 : Unit) => bnd (idx p1 s3.2.2.2) fun y45 => bnd (nz p0.Symbols) fun u51 => bnd (idx p1 s3.2.2.2) fun y53 => bnd (nz p0.Symbols) fun u59 => bnd (app s3.2.1 ([(Int.tmod y53 p0.Symbols)] : List Int)) fun z65 => some (.inl (s3.2.2.2, z65, (w64 ((w64 (Int.tdiv y45 p0.Symbols)) - 1)), (w64 (s3.2.2.2 + 1))))) (fun (r : GConfig × Int × Bool) => some (.inr (.ret r))))))) (some (.inr (.brk (s3.1, s3.2.1, s3.2.2.1, s3.2.2.2)))))

noncomputable def F_spec_l33Config (p0 : GMachine) (p1 : (List Int)) : Option (GConfig × Int × Bool) :=
  bnd (run (F_spec_l33Config_L1 p0 p1) ((-1), ([] : List Int), 0, 0)) (Out.elim (fun (s3 : Int × (List Int) × Int × Int) => (cond (decide (s3.1 < 0)) (some ((⟨0, ([] : (List Int)), ([] : (List Int))⟩ : GConfig), 0, false)) (bnd (slc s3.2.1 0 s3.1) fun z69 => bnd (slc s3.2.1 s3.1 (s3.2.1.length : Int)) fun z72 => bnd (F_spec_l03Reverse z69) fun r78 => bnd (F_spec_l05Trim r78) fun r81 => bnd (F_spec_l05Trim z72) fun r84 => some ((⟨s3.2.2.1, r81, r84⟩ : GConfig), s3.1, true)))) (fun (r : GConfig × Int × Bool) => some r))


noncomputable def F_spec_l33Decode (p0 : GMachine) (p1 : (List Int)) : Option (GConfig × Int × Int) :=
  bnd ((cond (decide ((p1.length : Int) < 1)) (some (.ret ((⟨0, ([] : (List Int)), ([] : (List Int))⟩ : GConfig), 0, 2))) (cond (decide (30 < (p1.length : Int))) (some (.ret ((⟨0, ([] : (List Int)), ([] : (List Int))⟩ : GConfig), 0, 2))) (some (.brk ())))) : Option (Out (Unit) (GConfig × Int × Int))) (Out.elim (fun (s2 : Unit) => bnd (F_spec_l33Config p0 p1) fun r6 => (cond (!r6.2.2) (some ((⟨0, ([] : (List Int)), ([] : (List Int))⟩ : GConfig), 0, 9)) (some (r6.1, r6.2.1, 0)))) (fun (r : GConfig × Int × Int) => some r))


noncomputable def F_spec_ConfigOfRow (p0 : GMachine) (p1 : (List Int)) : Option (GConfig × Int × Int) :=
  bnd (F_spec_l05Is p0) fun r3 => (cond (!r3) (some ((⟨0, ([] : (List Int)), ([] : (List Int))⟩ : GConfig), 0, 1)) (bnd (F_spec_l33Decode p0 p1) fun r6 => some (r6.1, r6.2.1, r6.2.2)))


noncomputable def F_impl_configOfRow_1 (p0 : Int) (p1 : GMachine) : Option (Bool) :=
  some (decide (p1.Symbols ≤ p0))

noncomputable def F_slices_IndexFunc_Sint64_int64_L1 (p0 : (List Int)) (p1 : (Int → Option Bool)) (s1 : Int) : Option ((Int) ⊕ Out (Int) Int) :=
  (cond (decide (s1 < (p0.length : Int))) (bnd (idx p0 s1) fun y4 => bnd (p1 y4) fun r8 => (cond r8 (some (.inr (.ret s1))) (some (.inl (w64 (s1 + 1)))))) (some (.inr (.brk s1))))

noncomputable def F_slices_IndexFunc_Sint64_int64 (p0 : (List Int)) (p1 : (Int → Option Bool)) : Option (Int) :=
  bnd (run (F_slices_IndexFunc_Sint64_int64_L1 p0 p1) 0) (Out.elim (fun (s1 : Int) => some (-1)) (fun (r : Int) => some r))


noncomputable def F_slices_Clone_Sint64_int64 (p0 : (List Int)) : Option ((List Int)) :=
  bnd (app ([] : List Int) p0) fun z3 => some z3

noncomputable def F_impl_reversed_L1 (s5 : (List Int) × Int × Int) : Option (((List Int) × Int × Int) ⊕ Out ((List Int) × Int × Int) (List Int)) :=
  (cond (decide (s5.2.1 < s5.2.2)) (bnd (idx s5.1 s5.2.2) fun y8 => bnd (idx s5.1 s5.2.1) fun y12 => bnd (idx s5.1 s5.2.1) fun y19 => bnd (idx (s5.1.set s5.2.1.toNat y8) s5.2.2) fun y21 => some (.inl (((s5.1.set s5.2.1.toNat y8).set s5.2.2.toNat y12), (w64 (s5.2.1 + 1)), (w64 (s5.2.2 - 1))))) (some (.inr (.brk (s5.1, s5.2.1, s5.2.2)))))

noncomputable def F_impl_reversed (p0 : (List Int)) : Option ((List Int)) :=
  bnd (F_slices_Clone_Sint64_int64 p0) fun r1 => bnd (run (F_impl_reversed_L1) (r1, 0, (w64 ((r1.length : Int) - 1)))) (Out.elim (fun (s5 : (List Int) × Int × Int) => some s5.1) (fun (r : (List Int)) => some r))


noncomputable def F_impl_configOfRow (p0 : GMachine) (p1 : (List Int)) : Option (GConfig × Int × Int) :=
  bnd (F_slices_IndexFunc_Sint64_int64 p1 (fun x_ => F_impl_configOfRow_1 x_ p0)) fun r3 => bnd ((cond (decide (r3 < 0)) (some (.ret ((⟨0, ([] : (List Int)), ([] : (List Int))⟩ : GConfig), 0, 9))) (bnd (idx p1 r3) fun y8 => (cond (decide ((w64 (p0.Symbols * (w64 (p0.States + 1)))) ≤ y8)) (some (.ret ((⟨0, ([] : (List Int)), ([] : (List Int))⟩ : GConfig), 0, 9))) (some (.brk ()))))) : Option (Out (Unit) (GConfig × Int × Int))) (Out.elim (fun (s5 : Unit) => bnd (F_slices_Clone_Sint64_int64 p1) fun r13 => bnd (idx p1 r3) fun y16 => bnd (nz p0.Symbols) fun u20 => bnd (idx r13 r3) fun y22 => bnd (F_impl_allWithin (r13.set r3.toNat (Int.tmod y16 p0.Symbols)) 0 (w64 (p0.Symbols - 1))) fun r29 => (cond (!r29) (some ((⟨0, ([] : (List Int)), ([] : (List Int))⟩ : GConfig), 0, 9)) (bnd (idx p1 r3) fun y32 => bnd (nz p0.Symbols) fun u36 => bnd (slc (r13.set r3.toNat (Int.tmod y16 p0.Symbols)) 0 r3) fun z38 => bnd (slc (r13.set r3.toNat (Int.tmod y16 p0.Symbols)) r3 ((r13.set r3.toNat (Int.tmod y16 p0.Symbols)).length : Int)) fun z41 => bnd (F_impl_reversed z38) fun r47 => bnd (F_impl_trimmed r47) fun r50 => bnd (F_slices_Clone_Sint64_int64 z41) fun r53 => bnd (F_impl_trimmed r53) fun r56 => some ((⟨(w64 ((w64 (Int.tdiv y32 p0.Symbols)) - 1)), r50, r56⟩ : GConfig), r3, 0)))) (fun (r : GConfig × Int × Int) => some r))


noncomputable def F_impl_ConfigOfRow (p0 : GMachine) (p1 : (List Int)) : Option (GConfig × Int × Int) :=
  bnd (F_impl_ValidMachine p0) fun r3 => (cond (!r3) (some ((⟨0, ([] : (List Int)), ([] : (List Int))⟩ : GConfig), 0, 1)) (bnd (F_impl_size_int64 p1) fun r6 => bnd (F_impl_within r6 1 30) fun r8 => (cond (!r8) (some ((⟨0, ([] : (List Int)), ([] : (List Int))⟩ : GConfig), 0, 2)) (bnd (F_impl_configOfRow p0 p1) fun r11 => some (r11.1, r11.2.1, r11.2.2)))))


noncomputable def F_laws_eqConfig (p0 : GConfig) (p1 : GConfig) : Option (Bool) :=
  (cond (decide (p0.State ≠ p1.State)) (some false) (bnd (F_laws_eqInt64S p0.Left p1.Left) fun r4 => (cond (!r4) (some false) (bnd (F_laws_eqInt64S p0.Right p1.Right) fun r7 => (cond (!r7) (some false) (some true))))))


noncomputable def F_laws_heldConfig (p0 : GConfig) (p1 : Int) : Option (Int) :=
  bnd (F_laws_heldInt64S p0.Left p1) fun r2 => (cond (decide (r2 < 0)) (some (-1)) (bnd (F_laws_heldInt64S p0.Right r2) fun r5 => (cond (decide (r5 < 0)) (some (-1)) (some r5))))


noncomputable def F_laws_FnExactConfigOfRow (p0 : GMachine) (p1 : (List Int)) : Option (Bool) :=
  (cond (decide (1048576 < (p1.length : Int))) (some true) (bnd (F_laws_szMachine p0 1048576) fun r3 => (cond (decide (r3 < 0)) (some true) (bnd (F_laws_toMachine p0) fun r6 => bnd (F_laws_toInt64S p1) fun r9 => bnd (F_spec_ConfigOfRow r6 r9) fun r12 => bnd (F_laws_toMachine p0) fun r16 => bnd (F_laws_toInt64S p1) fun r20 => bnd (F_impl_ConfigOfRow r16 r20) fun r23 => bnd (bnd (F_laws_eqConfig r23.1 r12.1) fun r29 => (cond (!r29) (some (.ret false)) (cond (decide (r23.2.1 ≠ r12.2.1)) (some (.ret false)) (cond (decide (r23.2.2 ≠ r12.2.2)) (some (.ret false)) (some (.brk ()))))) : Option (Out (Unit) Bool)) (Out.elim (fun (s27 : Unit) => bnd (F_laws_toMachine p0) fun r37 => bnd (F_laws_eqMachine r16 r37) fun r40 => (cond (!r40) (some false) (bnd (F_laws_toInt64S p1) fun r43 => bnd (F_laws_eqInt64S r20 r43) fun r46 => (cond (!r46) (some false) (bnd (F_laws_markRuleS r16.Rules 1) fun r51 => bnd (F_laws_markInt64S r20 r51.1) fun r53 => bnd ((cond (decide (r53.1 < 0)) (some (.ret false)) (bnd (F_laws_eqConfig r23.1 r12.1) fun r58 => (cond (!r58) (some (.ret false)) (cond (decide (r23.2.1 ≠ r12.2.1)) (some (.ret false)) (cond (decide (r23.2.2 ≠ r12.2.2)) (some (.ret false)) (some (.brk ()))))))) : Option (Out (Unit) Bool)) (Out.elim (fun (s55 : Unit) => bnd (F_laws_markInt64S r23.1.Left 1) fun r65 => bnd (F_laws_markInt64S r23.1.Right r65.1) fun r67 => bnd (F_laws_heldConfig (⟨r23.1.State, r65.2, r67.2⟩ : GConfig) 1) fun r69 => (cond (decide (r69 < 0)) (some false) (cond (decide (r69 ≠ r67.1)) (some false) (bnd (F_laws_toMachine p0) fun r73 => bnd (F_laws_toInt64S p1) fun r76 => bnd (F_impl_ConfigOfRow r73 r76) fun r79 => bnd (F_laws_eqConfig r79.1 r12.1) fun r83 => (cond (!r83) (some false) (cond (decide (r79.2.1 ≠ r12.2.1)) (some false) (cond (decide (r79.2.2 ≠ r12.2.2)) (some false) (bnd (F_laws_heldConfig (⟨r23.1.State, r65.2, r67.2⟩ : GConfig) 1) fun r88 => (cond (decide (r88 < 0)) (some false) (cond (decide (r88 ≠ r67.1)) (some false) (some true))))))))))) (fun (r : Bool) => some r))))))) (fun (r : Bool) => some r))))))


noncomputable def F_laws_szRewrite (p0 : GRewrite) (p1 : Int) : Option (Int) :=
  bnd (F_laws_szInt64S p0.From p1) fun r2 => (cond (decide (r2 < 0)) (some (-1)) (bnd (F_laws_szInt64S p0.To r2) fun r5 => (cond (decide (r5 < 0)) (some (-1)) (some r5))))

noncomputable def F_laws_szRewriteS_L1 (p0 : (List GRewrite)) (s2 : Int × Int) : Option ((Int × Int) ⊕ Out (Int × Int) Int) :=
  (cond (decide (s2.2 < (p0.length : Int))) (bnd (idx p0 s2.2) fun y5 => bnd (F_laws_szRewrite y5 s2.1) fun r9 => (cond (decide (r9 < 0)) (some (.inr (.ret (-1)))) (some (.inl (r9, (w64 (s2.2 + 1))))))) (some (.inr (.brk (s2.1, s2.2)))))

noncomputable def F_laws_szRewriteS (p0 : (List GRewrite)) (p1 : Int) : Option (Int) :=
  (cond (decide ((w64 (p1 - (p0.length : Int))) < 0)) (some (-1)) (bnd (run (F_laws_szRewriteS_L1 p0) ((w64 (p1 - (p0.length : Int))), 0)) (Out.elim (fun (s2 : Int × Int) => some s2.1) (fun (r : Int) => some r))))


noncomputable def F_laws_toRewrite (p0 : GRewrite) : Option (GRewrite) :=
  bnd (F_laws_toInt64S p0.From) fun r4 => bnd (F_laws_toInt64S p0.To) fun r7 => some (⟨r4, r7⟩ : GRewrite)

noncomputable def F_laws_toRewriteS_L1 (p0 : (List GRewrite)) (s4 : (List GRewrite) × Int) : Option (((List GRewrite) × Int) ⊕ Out ((List GRewrite) × Int) (List GRewrite)) :=
  (cond (decide (s4.2 < (p0.length : Int))) (bnd (idx p0 s4.2) fun y7 => bnd (F_laws_toRewrite y7) fun r11 => bnd (idx s4.1 s4.2) fun y14 => some (.inl ((s4.1.set s4.2.toNat r11), (w64 (s4.2 + 1))))) (some (.inr (.brk (s4.1, s4.2)))))

noncomputable def F_laws_toRewriteS (p0 : (List GRewrite)) : Option ((List GRewrite)) :=
  bnd (mke (p0.length : Int) (⟨([] : (List Int)), ([] : (List Int))⟩ : GRewrite)) fun z1 => bnd (run (F_laws_toRewriteS_L1 p0) (z1, 0)) (Out.elim (fun (s4 : (List GRewrite) × Int) => some s4.1) (fun (r : (List GRewrite)) => some r))

noncomputable def F_spec_l10Is_L1 (p0 : (List GRewrite)) (s5 : Int) : Option ((Int) ⊕ Out (Int) Bool) :=
  (cond (decide (s5 < (p0.length : Int))) (bnd (idx p0 s5) fun y8 => bnd (F_spec_l03Is y8.From) fun r13 => (cond (!r13) (some (.inr (.ret false))) (bnd (idx p0 s5) fun y16 => bnd (F_spec_l03Is y16.To) fun r21 => (cond (!r21) (some (.inr (.ret false))) (bnd (idx p0 s5) fun y24 => (cond (decide ((y24.From.length : Int) = 0)) (some (.inr (.ret false))) (some (.inl (w64 (s5 + 1)))))))))) (some (.inr (.brk s5))))

noncomputable def F_spec_l10Is (p0 : (List GRewrite)) : Option (Bool) :=
  bnd ((cond (decide ((p0.length : Int) < 1)) (some (.ret false)) (cond (decide (60 < (p0.length : Int))) (some (.ret false)) (some (.brk ())))) : Option (Out (Unit) Bool)) (Out.elim (fun (s1 : Unit) => bnd (run (F_spec_l10Is_L1 p0) 0) (Out.elim (fun (s5 : Int) => some true) (fun (r : Bool) => some r))) (fun (r : Bool) => some r))


noncomputable def F_spec_l32Ready (p0 : (List GRewrite)) (p1 : (List Int)) (p2 : (List Int)) : Option (Bool) :=
  bnd (F_spec_l10Is p0) fun r1 => (cond r1 (bnd (F_spec_l03Is p1) fun r4 => (cond r4 (bnd (F_spec_l03Is p2) fun r7 => some r7) (some false))) (some false))

noncomputable def F_spec_l32Rules_L1 (s11 : (List GDomino) × Int) : Option (((List GDomino) × Int) ⊕ Out ((List GDomino) × Int) ((List GDomino) × Int)) :=
  (cond (decide (s11.2 ≤ 5)) (bnd (app s11.1 ([(⟨([s11.2] : List Int), ([s11.2] : List Int)⟩ : GDomino)] : List GDomino)) fun z17 => some (.inl (z17, (w64 (s11.2 + 1))))) (some (.inr (.brk (s11.1, s11.2)))))

noncomputable def F_spec_l32Rules_L2 (p0 : (List GRewrite)) (s26 : (List GDomino) × Int) : Option (((List GDomino) × Int) ⊕ Out ((List GDomino) × Int) ((List GDomino) × Int)) :=
  (cond (decide (s26.2 < (p0.length : Int))) (bnd (idx p0 s26.2) fun y29 => bnd (idx p0 s26.2) fun y34 => bnd (F_spec_l00Own y29.From) fun r42 => bnd (F_spec_l00Own y34.To) fun r45 => bnd (app s26.1 ([(⟨r42, r45⟩ : GDomino)] : List GDomino)) fun z49 => some (.inl (z49, (w64 (s26.2 + 1))))) (some (.inr (.brk (s26.1, s26.2)))))

noncomputable def F_spec_l32Rules (p0 : (List GRewrite)) (p1 : (List Int)) (p2 : (List Int)) : Option ((List GDomino) × Int) :=
  bnd (app ([6] : List Int) p1) fun z3 => bnd (app z3 ([6] : List Int)) fun z7 => bnd (run (F_spec_l32Rules_L1) (([(⟨([6] : List Int), z7⟩ : GDomino)] : List GDomino), 0)) (Out.elim (fun (s11 : (List GDomino) × Int) => bnd (app s11.1 ([(⟨([6] : List Int), ([6] : List Int)⟩ : GDomino)] : List GDomino)) fun z23 => bnd (run (F_spec_l32Rules_L2 p0) (z23, 0)) (Out.elim (fun (s26 : (List GDomino) × Int) => bnd (bnd (slc s26.1 8 (s26.1.length : Int)) fun z54 => bnd (F_spec_l32Least z54 5) fun r57 => (cond (!r57) (some (.ret (([] : (List GDomino)), 2))) (bnd (F_spec_l06Row p1 (p1.length : Int) 0 5) fun r60 => (cond (!r60) (some (.ret (([] : (List GDomino)), 2))) (bnd (F_spec_l06Row p2 (p2.length : Int) 0 5) fun r63 => (cond (!r63) (some (.ret (([] : (List GDomino)), 2))) (some (.brk ()))))))) : Option (Out (Unit) ((List GDomino) × Int))) (Out.elim (fun (s52 : Unit) => bnd (F_spec_l00Own p2) fun r66 => bnd (app r66 ([6, 7] : List Int)) fun z70 => bnd (app s26.1 ([(⟨z70, ([7] : List Int)⟩ : GDomino)] : List GDomino)) fun z75 => bnd (F_spec_l32Is z75) fun r78 => (cond (!r78) (some (([] : (List GDomino)), 5)) (some (z75, 0)))) (fun (r : (List GDomino) × Int) => some r))) (fun (r : (List GDomino) × Int) => some r))) (fun (r : (List GDomino) × Int) => some r))


noncomputable def F_spec_RewritesToDominoes (p0 : (List GRewrite)) (p1 : (List Int)) (p2 : (List Int)) : Option ((List GDomino) × Int) :=
  bnd (F_spec_l32Ready p0 p1 p2) fun r1 => (cond (!r1) (some (([] : (List GDomino)), 1)) (bnd (F_spec_l32Rules p0 p1 p2) fun r4 => some (r4.1, r4.2)))


noncomputable def F_impl_size_impl_Rewrite (p0 : (List GRewrite)) : Option (Int) :=
  some (p0.length : Int)

noncomputable def F_slices_IndexFunc_Simpl_Rewrite_impl_Rewrite_L1 (p0 : (List GRewrite)) (p1 : (GRewrite → Option Bool)) (s1 : Int) : Option ((Int) ⊕ Out (Int) Int) :=
  (cond (decide (s1 < (p0.length : Int))) (bnd (idx p0 s1) fun y4 => bnd (p1 y4) fun r8 => (cond r8 (some (.inr (.ret s1))) (some (.inl (w64 (s1 + 1)))))) (some (.inr (.brk s1))))

noncomputable def F_slices_IndexFunc_Simpl_Rewrite_impl_Rewrite (p0 : (List GRewrite)) (p1 : (GRewrite → Option Bool)) : Option (Int) :=
  bnd (run (F_slices_IndexFunc_Simpl_Rewrite_impl_Rewrite_L1 p0 p1) 0) (Out.elim (fun (s1 : Int) => some (-1)) (fun (r : Int) => some r))


noncomputable def F_slices_ContainsFunc_Simpl_Rewrite_impl_Rewrite (p0 : (List GRewrite)) (p1 : (GRewrite → Option Bool)) : Option (Bool) :=
  bnd (F_slices_IndexFunc_Simpl_Rewrite_impl_Rewrite p0 p1) fun r1 => some (decide (0 ≤ r1))


noncomputable def F_impl_ValidRewrites_1 (p0 : GRewrite) : Option (Bool) :=
  bnd (F_impl_areWords ([p0.From, p0.To] : List (List Int))) fun r3 => (cond (!r3) (some true) (some (decide ((p0.From.length : Int) = 0))))


noncomputable def F_impl_ValidRewrites (p0 : (List GRewrite)) : Option (Bool) :=
  bnd (F_impl_size_impl_Rewrite p0) fun r1 => bnd (F_impl_within r1 1 60) fun r3 => (cond r3 (bnd (F_slices_ContainsFunc_Simpl_Rewrite_impl_Rewrite p0 (fun x_ => F_impl_ValidRewrites_1 x_)) fun r6 => some (!r6)) (some false))

noncomputable def F_impl_rewritesToDominoes_L1 (s7 : (List GDomino) × Int) : Option (((List GDomino) × Int) ⊕ Out ((List GDomino) × Int) ((List GDomino) × Int)) :=
  (cond (decide (s7.2 < 6)) (bnd (app s7.1 ([(⟨([s7.2] : List Int), ([s7.2] : List Int)⟩ : GDomino)] : List GDomino)) fun z13 => some (.inl (z13, (w64 (s7.2 + 1))))) (some (.inr (.brk (s7.1, s7.2)))))

noncomputable def F_impl_rewritesToDominoes_L2 (p0 : (List GRewrite)) (s32 : (List GDomino) × Bool × Int) : Option (((List GDomino) × Bool × Int) ⊕ Out ((List GDomino) × Bool × Int) ((List GDomino) × Int)) :=
  (cond (decide (s32.2.2 < (p0.length : Int))) (bnd (idx p0 s32.2.2) fun y35 => (cond s32.2.1 (bnd (F_impl_joined ([y35.From, y35.To] : List (List Int))) fun r42 => bnd (F_impl_allWithin r42 0 5) fun r45 => bnd (F_slices_Clone_Sint64_int64 y35.From) fun r50 => bnd (F_slices_Clone_Sint64_int64 y35.To) fun r53 => bnd (app s32.1 ([(⟨r50, r53⟩ : GDomino)] : List GDomino)) fun z57 => some (.inl (z57, r45, (w64 (s32.2.2 + 1))))) (bnd (F_slices_Clone_Sint64_int64 y35.From) fun r63 => bnd (F_slices_Clone_Sint64_int64 y35.To) fun r66 => bnd (app s32.1 ([(⟨r63, r66⟩ : GDomino)] : List GDomino)) fun z70 => some (.inl (z70, false, (w64 (s32.2.2 + 1))))))) (some (.inr (.brk (s32.1, s32.2.1, s32.2.2)))))

noncomputable def F_impl_rewritesToDominoes (p0 : (List GRewrite)) (p1 : (List Int)) (p2 : (List Int)) : Option ((List GDomino) × Int) :=
  bnd (F_impl_joined ([([6] : List Int), p1, ([6] : List Int)] : List (List Int))) fun r3 => bnd (run (F_impl_rewritesToDominoes_L1) (([(⟨([6] : List Int), r3⟩ : GDomino)] : List GDomino), 0)) (Out.elim (fun (s7 : (List GDomino) × Int) => bnd (F_slices_Clone_Sint64_int64 ([6] : List Int)) fun r16 => bnd (F_slices_Clone_Sint64_int64 ([6] : List Int)) fun r19 => bnd (app s7.1 ([(⟨r16, r19⟩ : GDomino)] : List GDomino)) fun z23 => bnd (F_impl_joined ([p1, p2] : List (List Int))) fun r27 => bnd (F_impl_allWithin r27 0 5) fun r30 => bnd (run (F_impl_rewritesToDominoes_L2 p0) (z23, r30, 0)) (Out.elim (fun (s32 : (List GDomino) × Bool × Int) => bnd (F_impl_joined ([p2, ([6, 7] : List Int)] : List (List Int))) fun r75 => bnd (app s32.1 ([(⟨r75, ([7] : List Int)⟩ : GDomino)] : List GDomino)) fun z80 => (cond (!s32.2.1) (some (([] : (List GDomino)), 2)) (bnd (F_impl_ValidDominoes z80) fun r84 => (cond (!r84) (some (([] : (List GDomino)), 5)) (some (z80, 0)))))) (fun (r : (List GDomino) × Int) => some r))) (fun (r : (List GDomino) × Int) => some r))


noncomputable def F_impl_RewritesToDominoes (p0 : (List GRewrite)) (p1 : (List Int)) (p2 : (List Int)) : Option ((List GDomino) × Int) :=
  bnd (F_impl_ValidRewrites p0) fun r1 => (cond (!r1) (some (([] : (List GDomino)), 1)) (bnd (F_impl_areWords ([p1, p2] : List (List Int))) fun r5 => (cond (!r5) (some (([] : (List GDomino)), 1)) (bnd (F_impl_rewritesToDominoes p0 p1 p2) fun r8 => some (r8.1, r8.2)))))


noncomputable def F_laws_eqRewrite (p0 : GRewrite) (p1 : GRewrite) : Option (Bool) :=
  bnd (F_laws_eqInt64S p0.From p1.From) fun r3 => (cond (!r3) (some false) (bnd (F_laws_eqInt64S p0.To p1.To) fun r6 => (cond (!r6) (some false) (some true))))

noncomputable def F_laws_eqRewriteS_L1 (p0 : (List GRewrite)) (p1 : (List GRewrite)) (s2 : Int) : Option ((Int) ⊕ Out (Int) Bool) :=
  (cond (decide (s2 < (p0.length : Int))) (bnd (idx p0 s2) fun y5 => bnd (idx p1 s2) fun y9 => bnd (F_laws_eqRewrite y5 y9) fun r16 => (cond (!r16) (some (.inr (.ret false))) (some (.inl (w64 (s2 + 1)))))) (some (.inr (.brk s2))))

noncomputable def F_laws_eqRewriteS (p0 : (List GRewrite)) (p1 : (List GRewrite)) : Option (Bool) :=
  (cond (decide ((p0.length : Int) ≠ (p1.length : Int))) (some false) (bnd (run (F_laws_eqRewriteS_L1 p0 p1) 0) (Out.elim (fun (s2 : Int) => some true) (fun (r : Bool) => some r))))

noncomputable def F_laws_markRewriteS_L1 (s1 : (List GRewrite) × Int × Int) : Option (((List GRewrite) × Int × Int) ⊕ Out ((List GRewrite) × Int × Int) (Int × (List GRewrite))) :=
  (cond (decide (s1.2.2 < (s1.1.length : Int))) (bnd (idx s1.1 s1.2.2) fun y4 => bnd (F_laws_markInt64S y4.From s1.2.1) fun r10 => bnd (idx (s1.1.set s1.2.2.toNat (⟨r10.2, y4.To⟩ : GRewrite)) s1.2.2) fun y12 => bnd (F_laws_markInt64S y12.To r10.1) fun r15 => some (.inl (((s1.1.set s1.2.2.toNat (⟨r10.2, y4.To⟩ : GRewrite)).set s1.2.2.toNat (⟨y12.From, r15.2⟩ : GRewrite)), r15.1, (w64 (s1.2.2 + 1))))) (some (.inr (.brk (s1.1, s1.2.1, s1.2.2)))))

noncomputable def F_laws_markRewriteS (p0 : (List GRewrite)) (p1 : Int) : Option (Int × (List GRewrite)) :=
  bnd (run (F_laws_markRewriteS_L1) (p0, p1, 0)) (Out.elim (fun (s1 : (List GRewrite) × Int × Int) => some (s1.2.1, s1.1)) (fun (r : Int × (List GRewrite)) => some r))


noncomputable def F_laws_FnExactRewritesToDominoes (p0 : (List GRewrite)) (p1 : (List Int)) (p2 : (List Int)) : Option (Bool) :=
  (cond (decide (1048576 < (p1.length : Int))) (some true) (cond (decide (1048576 < (p2.length : Int))) (some true) (bnd (F_laws_szRewriteS p0 1048576) fun r3 => (cond (decide (r3 < 0)) (some true) (bnd (F_laws_toRewriteS p0) fun r6 => bnd (F_laws_toInt64S p1) fun r9 => bnd (F_laws_toInt64S p2) fun r12 => bnd (F_spec_RewritesToDominoes r6 r9 r12) fun r15 => bnd (F_laws_toRewriteS p0) fun r18 => bnd (F_laws_toInt64S p1) fun r21 => bnd (F_laws_toInt64S p2) fun r24 => bnd (F_impl_RewritesToDominoes r18 r21 r24) fun r27 => bnd (bnd (F_laws_eqDominoS r27.1 r15.1) fun r32 => (cond (!r32) (some (.ret false)) (cond (decide (r27.2 ≠ r15.2)) (some (.ret false)) (some (.brk ())))) : Option (Out (Unit) Bool)) (Out.elim (fun (s30 : Unit) => bnd (F_laws_toRewriteS p0) fun r36 => bnd (F_laws_eqRewriteS r18 r36) fun r39 => (cond (!r39) (some false) (bnd (F_laws_toInt64S p1) fun r42 => bnd (F_laws_eqInt64S r21 r42) fun r45 => (cond (!r45) (some false) (bnd (F_laws_toInt64S p2) fun r48 => bnd (F_laws_eqInt64S r24 r48) fun r51 => (cond (!r51) (some false) (bnd (F_laws_markRewriteS r18 1) fun r54 => bnd (F_laws_markInt64S r21 r54.1) fun r56 => bnd (F_laws_markInt64S r24 r56.1) fun r58 => bnd ((cond (decide (r58.1 < 0)) (some (.ret false)) (bnd (F_laws_eqDominoS r27.1 r15.1) fun r63 => (cond (!r63) (some (.ret false)) (cond (decide (r27.2 ≠ r15.2)) (some (.ret false)) (some (.brk ())))))) : Option (Out (Unit) Bool)) (Out.elim (fun (s60 : Unit) => bnd (F_laws_markDominoS r27.1 1) fun r67 => bnd (F_laws_heldDominoS r67.2 1) fun r69 => (cond (decide (r69 < 0)) (some false) (cond (decide (r69 ≠ r67.1)) (some false) (bnd (F_laws_toRewriteS p0) fun r73 => bnd (F_laws_toInt64S p1) fun r76 => bnd (F_laws_toInt64S p2) fun r79 => bnd (F_impl_RewritesToDominoes r73 r76 r79) fun r82 => bnd (F_laws_eqDominoS r82.1 r15.1) fun r85 => (cond (!r85) (some false) (cond (decide (r82.2 ≠ r15.2)) (some false) (bnd (F_laws_heldDominoS r67.2 1) fun r89 => (cond (decide (r89 < 0)) (some false) (cond (decide (r89 ≠ r67.1)) (some false) (some true)))))))))) (fun (r : Bool) => some r))))))))) (fun (r : Bool) => some r)))))))

end Go.Fn
