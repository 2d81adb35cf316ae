/-
  What each function of the program computes, as a plain Lean function: printed by program off the translation. No condition.
-/
import Derived.Test.YthmompdfapcgkaaTy
namespace Go.Fn
open Go Go.Tc
set_option linter.unusedVariables false

noncomputable def F_laws_szTileS (p0 : (List GTile)) (p1 : Int) : Option (Int) :=
  (cond (decide ((w64 (p1 - (p0.length : Int))) < 0)) (some (-1)) (some (w64 (p1 - (p0.length : Int)))))


noncomputable def F_laws_toTile (p0 : GTile) : Option (GTile) :=
  some p0

noncomputable def F_laws_toTileS_L1 (p0 : (List GTile)) (s4 : (List GTile) × Int) : Option (((List GTile) × Int) ⊕ Out ((List GTile) × Int) (List GTile)) :=
  (cond (decide (s4.2 < (p0.length : Int))) (bnd (idx p0 s4.2) fun y7 => bnd (F_laws_toTile y7) fun r11 => bnd (idx s4.1 s4.2) fun y13 => some (.inl ((s4.1.set s4.2.toNat r11), (w64 (s4.2 + 1))))) (some (.inr (.brk (s4.1, s4.2)))))

noncomputable def F_laws_toTileS (p0 : (List GTile)) : Option ((List GTile)) :=
  bnd (mke (p0.length : Int) (⟨(0 : Int), (0 : Int), (0 : Int), (0 : Int)⟩ : GTile)) fun z1 => bnd (run (F_laws_toTileS_L1 p0) (z1, 0)) (Out.elim (fun (s4 : (List GTile) × Int) => some s4.1) (fun (r : (List GTile)) => some r))

noncomputable def F_laws_toInt64S_L1 (p0 : (List Int)) (s4 : (List Int) × Int) : Option (((List Int) × Int) ⊕ Out ((List Int) × Int) (List Int)) :=
  (cond (decide (s4.2 < (p0.length : Int))) (bnd (idx p0 s4.2) fun y7 => bnd (idx s4.1 s4.2) fun y11 => some (.inl ((s4.1.set s4.2.toNat y7), (w64 (s4.2 + 1))))) (some (.inr (.brk (s4.1, s4.2)))))

noncomputable def F_laws_toInt64S (p0 : (List Int)) : Option ((List Int)) :=
  bnd (mke (p0.length : Int) (0 : Int)) fun z1 => bnd (run (F_laws_toInt64S_L1 p0) (z1, 0)) (Out.elim (fun (s4 : (List Int) × Int) => some s4.1) (fun (r : (List Int)) => some r))


noncomputable def F_spec_l00In (p0 : Int) (p1 : Int) (p2 : Int) : Option (Bool) :=
  (cond (decide (p1 ≤ p0)) (some (decide (p0 ≤ p2))) (some false))


noncomputable def F_spec_l33Color (p0 : Int) : Option (Bool) :=
  bnd (F_spec_l00In p0 0 9999) fun r1 => some r1

noncomputable def F_spec_l33Is_L2 (p0 : (List GTile)) (s1 : Int) (y4 : GTile) (s23 : Int) : Option ((Int) ⊕ Out (Int) Bool) :=
  (cond (decide (s23 < s1)) (cond (decide (s1 < 300)) (bnd (idx p0 s23) fun y27 => (cond (decide (y27 = y4)) (some (.inr (.ret false))) (some (.inl (w64 (s23 + 1)))))) (some (.inr (.brk s23)))) (some (.inr (.brk s23))))

noncomputable def F_spec_l33Is_L1 (p0 : (List GTile)) (s1 : Int) : Option ((Int) ⊕ Out (Int) Bool) :=
  (cond (decide (s1 < (p0.length : Int))) (bnd (idx p0 s1) fun y4 => bnd (bnd (F_spec_l33Color y4.Left) fun r11 => (cond (!r11) (some (.ret false)) (bnd (F_spec_l33Color y4.Bottom) fun r14 => (cond (!r14) (some (.ret false)) (bnd (F_spec_l33Color y4.Right) fun r17 => (cond (!r17) (some (.ret false)) (bnd (F_spec_l33Color y4.Top) fun r20 => (cond (!r20) (some (.ret false)) (some (.brk ()))))))))) : Option (Out (Unit) Bool)) (Out.elim (fun (s9 : Unit) => bnd (run (F_spec_l33Is_L2 p0 s1 y4) 0) (Out.elim (fun (s23 : Int) => some (.inl (w64 (s1 + 1)))) (fun (r : Bool) => some (.inr (.ret r))))) (fun (r : Bool) => some (.inr (.ret r))))) (some (.inr (.brk s1))))

noncomputable def F_spec_l33Is (p0 : (List GTile)) : Option (Bool) :=
  bnd (run (F_spec_l33Is_L1 p0) 0) (Out.elim (fun (s1 : Int) => (cond (decide (0 < (p0.length : Int))) (some (decide ((p0.length : Int) ≤ 300))) (some false))) (fun (r : Bool) => some r))

noncomputable def F_spec_l33Frame_L1 (p0 : (List Int)) (s1 : Int) : Option ((Int) ⊕ Out (Int) Bool) :=
  (cond (decide (s1 < (p0.length : Int))) (bnd (idx p0 s1) fun y4 => bnd (F_spec_l33Color y4) fun r8 => (cond (!r8) (some (.inr (.ret false))) (some (.inl (w64 (s1 + 1)))))) (some (.inr (.brk s1))))

noncomputable def F_spec_l33Frame (p0 : (List Int)) : Option (Bool) :=
  bnd (run (F_spec_l33Frame_L1 p0) 0) (Out.elim (fun (s1 : Int) => (cond (decide (0 < (p0.length : Int))) (some (decide ((p0.length : Int) ≤ 30))) (some false))) (fun (r : Bool) => some r))


noncomputable def F_spec_l05Budget (p0 : Int) : Option (Bool) :=
  bnd (F_spec_l00In p0 1 20000) fun r1 => some r1


noncomputable def F_spec_l33Ask (p0 : (List GTile)) (p1 : (List Int)) (p2 : Int) (p3 : Int) : Option (Int) :=
  bnd (F_spec_l33Is p0) fun r1 => (cond (!r1) (some 1) (bnd (F_spec_l33Frame p1) fun r4 => (cond (!r4) (some 2) (bnd (F_spec_l00In p2 1 40) fun r7 => (cond (!r7) (some 2) (bnd (F_spec_l05Budget p3) fun r10 => (cond (!r10) (some 2) (some 0))))))))

noncomputable def F_spec_l33Search_fill_L1 (p0 : Gl33Search) (rec_ : Gl33Search → Option ((Bool) × (Int × Int × Bool × (List Int)))) (s2 : Int) (s29 : Int) (s48 : Int × Int × Bool × (List Int) × Int) : Option ((Int × Int × Bool × (List Int) × Int) ⊕ Out (Int × Int × Bool × (List Int) × Int) ((Bool) × (Int × Int × Bool × (List Int)))) :=
  (cond (decide (s48.2.2.2.2 < (p0.list.length : Int))) (bnd (idx p0.list s48.2.2.2.2) fun y51 => bnd ((cond (decide (y51.Left ≠ s2)) (some (.brk true)) (cond (decide (y51.Bottom ≠ s29)) (some (.brk true)) (bnd (nz (p0.bottom.length : Int)) fun u60 => (cond (decide ((Int.tmod (p0.tiles.length : Int) (p0.bottom.length : Int)) = (w64 ((p0.bottom.length : Int) - 1)))) (some (.brk (decide (y51.Right ≠ 0)))) (some (.brk false)))))) : Option (Out (Bool) ((Bool) × (Int × Int × Bool × (List Int))))) (Out.elim (fun (s56 : Bool) => (cond s56 (some (.inl (s48.1, s48.2.1, s48.2.2.1, s48.2.2.2.1, (w64 (s48.2.2.2.2 + 1))))) (cond (decide (s48.1 = p0.budget)) (some (.inr (.ret (true, (s48.1, s48.2.1, true, s48.2.2.2.1))))) (bnd (app s48.2.2.2.1 ([s48.2.2.2.2] : List Int)) fun z66 => bnd (rec_ (⟨p0.list, p0.bottom, p0.size, p0.budget, p0.all, (w64 (s48.1 + 1)), s48.2.1, s48.2.2.1, z66⟩ : Gl33Search)) fun r69 => (cond r69.1 (some (.inr (.ret (true, (r69.2.1, r69.2.2.1, r69.2.2.2.1, r69.2.2.2.2))))) (bnd (slc r69.2.2.2.2 0 (p0.tiles.length : Int)) fun z73 => some (.inl (r69.2.1, r69.2.2.1, r69.2.2.2.1, z73, (w64 (s48.2.2.2.2 + 1)))))))))) (fun (r : (Bool) × (Int × Int × Bool × (List Int))) => some (.inr (.ret r))))) (some (.inr (.brk (s48.1, s48.2.1, s48.2.2.1, s48.2.2.2.1, s48.2.2.2.2)))))

noncomputable def F_spec_l33Search_fill_step (rec_ : Gl33Search → Option ((Bool) × (Int × Int × Bool × (List Int)))) (p0 : Gl33Search) : Option ((Bool) × (Int × Int × Bool × (List Int))) :=
  (cond (decide ((p0.tiles.length : Int) = p0.size)) (some ((!p0.all), (p0.steps, (w64 (p0.count + 1)), p0.full, p0.tiles))) (bnd (bnd (nz (p0.bottom.length : Int)) fun u4 => (cond (decide (0 < (Int.tmod (p0.tiles.length : Int) (p0.bottom.length : Int)))) (bnd (idx p0.tiles (w64 ((p0.tiles.length : Int) - 1))) fun y7 => bnd (idx p0.list y7) fun y15 => some (.brk y15.Right)) (some (.brk 0))) : Option (Out (Int) ((Bool) × (Int × Int × Bool × (List Int))))) (Out.elim (fun (s2 : Int) => bnd (nz (p0.bottom.length : Int)) fun u23 => bnd (idx p0.bottom (Int.tmod (p0.tiles.length : Int) (p0.bottom.length : Int))) fun y25 => bnd ((cond (decide ((p0.bottom.length : Int) ≤ (p0.tiles.length : Int))) (bnd (idx p0.tiles (w64 ((p0.tiles.length : Int) - (p0.bottom.length : Int)))) fun y32 => bnd (idx p0.list y32) fun y40 => some (.brk y40.Top)) (some (.brk y25))) : Option (Out (Int) ((Bool) × (Int × Int × Bool × (List Int))))) (Out.elim (fun (s29 : Int) => bnd (run (F_spec_l33Search_fill_L1 p0 rec_ s2 s29) (p0.steps, p0.count, p0.full, p0.tiles, 0)) (Out.elim (fun (s48 : Int × Int × Bool × (List Int) × Int) => some (false, (s48.1, s48.2.1, s48.2.2.1, s48.2.2.2.1))) (fun (r : (Bool) × (Int × Int × Bool × (List Int))) => some r))) (fun (r : (Bool) × (Int × Int × Bool × (List Int))) => some r))) (fun (r : (Bool) × (Int × Int × Bool × (List Int))) => some r))))
noncomputable def F_spec_l33Search_fill (p0 : Gl33Search) : Option ((Bool) × (Int × Int × Bool × (List Int))) := fixR (fun (rec_ : Gl33Search → Option ((Bool) × (Int × Int × Bool × (List Int)))) (a_ : Gl33Search) => F_spec_l33Search_fill_step (fun p0 => rec_ p0) a_) p0


noncomputable def F_spec_CountTilings (p0 : (List GTile)) (p1 : (List Int)) (p2 : Int) (p3 : Int) : Option (Int × Int) :=
  bnd (F_spec_l33Ask p0 p1 p2 p3) fun r1 => (cond (decide (r1 ≠ 0)) (some (0, r1)) (bnd (F_spec_l33Search_fill (⟨p0, p1, (w64 ((p1.length : Int) * p2)), p3, true, 0, 0, false, ([] : (List Int))⟩ : Gl33Search)) fun r5 => (cond r5.2.2.2.1 (some (0, 5)) (some (r5.2.2.1, 0)))))


noncomputable def F_impl_size_impl_Tile (p0 : (List GTile)) : Option (Int) :=
  some (p0.length : Int)


noncomputable def F_impl_within (p0 : Int) (p1 : Int) (p2 : Int) : Option (Bool) :=
  (cond (decide (p1 ≤ p0)) (some (decide (p0 ≤ p2))) (some false))

noncomputable def F_impl_allWithin_L1 (p0 : (List Int)) (p1 : Int) (p2 : Int) (s1 : Int) : Option ((Int) ⊕ Out (Int) Bool) :=
  (cond (decide (s1 < (p0.length : Int))) (bnd (idx p0 s1) fun y4 => bnd (F_impl_within y4 p1 p2) fun r8 => (cond (!r8) (some (.inr (.ret false))) (some (.inl (w64 (s1 + 1)))))) (some (.inr (.brk s1))))

noncomputable def F_impl_allWithin (p0 : (List Int)) (p1 : Int) (p2 : Int) : Option (Bool) :=
  bnd (run (F_impl_allWithin_L1 p0 p1 p2) 0) (Out.elim (fun (s1 : Int) => some true) (fun (r : Bool) => some r))


noncomputable def F_impl_colorsOk (p0 : (List Int)) : Option (Bool) :=
  bnd (F_impl_allWithin p0 0 9999) fun r1 => some r1

noncomputable def F_slices_Index_Simpl_Tile_impl_Tile_L1 (p0 : (List GTile)) (p1 : GTile) (s2 : Int) : Option ((Int) ⊕ Out (Int) Int) :=
  (cond (decide (s2 < (p0.length : Int))) (bnd (idx p0 s2) fun y5 => (cond (decide (p1 = y5)) (some (.inr (.ret s2))) (some (.inl (w64 (s2 + 1)))))) (some (.inr (.brk s2))))

noncomputable def F_slices_Index_Simpl_Tile_impl_Tile (p0 : (List GTile)) (p1 : GTile) : Option (Int) :=
  bnd (run (F_slices_Index_Simpl_Tile_impl_Tile_L1 p0 p1) 0) (Out.elim (fun (s2 : Int) => some (-1)) (fun (r : Int) => some r))

noncomputable def F_impl_ValidTiles_L1 (p0 : (List GTile)) (s6 : Int) : Option ((Int) ⊕ Out (Int) Bool) :=
  (cond (decide (s6 < (p0.length : Int))) (bnd (idx p0 s6) fun y9 => bnd (F_impl_colorsOk ([y9.Left, y9.Bottom, y9.Right, y9.Top] : List Int)) fun r15 => (cond (!r15) (some (.inr (.ret false))) (bnd (F_slices_Index_Simpl_Tile_impl_Tile p0 y9) fun r18 => (cond (decide (r18 ≠ s6)) (some (.inr (.ret false))) (some (.inl (w64 (s6 + 1)))))))) (some (.inr (.brk s6))))

noncomputable def F_impl_ValidTiles (p0 : (List GTile)) : Option (Bool) :=
  bnd (F_impl_size_impl_Tile p0) fun r1 => bnd (F_impl_within r1 1 300) fun r3 => (cond (!r3) (some false) (bnd (run (F_impl_ValidTiles_L1 p0) 0) (Out.elim (fun (s6 : Int) => some true) (fun (r : Bool) => some r))))


noncomputable def F_impl_size_int64 (p0 : (List Int)) : Option (Int) :=
  some (p0.length : Int)


noncomputable def F_impl_isFrame (p0 : (List Int)) : Option (Bool) :=
  bnd (F_impl_size_int64 p0) fun r1 => bnd (F_impl_within r1 1 30) fun r3 => (cond r3 (bnd (F_impl_colorsOk p0) fun r6 => some r6) (some false))


noncomputable def F_impl_budgetOk (p0 : Int) : Option (Bool) :=
  bnd (F_impl_within p0 1 20000) fun r1 => some r1


noncomputable def F_impl_fitsAt (p0 : GTile) (p1 : Int) (p2 : Int) (p3 : Bool) : Option (Bool) :=
  (cond (decide (p0.Left = p1)) (cond (decide (p0.Bottom = p2)) (cond (!p3) (some true) (some (decide (p0.Right = 0)))) (some false)) (some false))

noncomputable def F_impl_tiler_fill_impl_CountTilings_1_L1 (p0 : Gtiler) (p1 : Int) (rec_ : Gtiler → Int → Int → Option ((Bool × Bool) × ((List Int) × Int × Int))) (s9 : Int) (s30 : Int) (s49 : (List Int) × Int × Int × Int) : Option (((List Int) × Int × Int × Int) ⊕ Out ((List Int) × Int × Int × Int) ((Bool × Bool) × ((List Int) × Int × Int))) :=
  (cond (decide (s49.2.2.2 < (p0.list.length : Int))) (bnd (idx p0.list s49.2.2.2) fun y52 => bnd (nz (p0.bottom.length : Int)) fun u57 => bnd (F_impl_fitsAt y52 s9 s30 (decide ((Int.tmod p1 (p0.bottom.length : Int)) = (w64 ((p0.bottom.length : Int) - 1))))) fun r62 => (cond (!r62) (some (.inl (s49.1, s49.2.1, s49.2.2.1, (w64 (s49.2.2.2 + 1))))) (cond (decide (s49.2.1 = 0)) (some (.inr (.ret ((false, false), (s49.1, s49.2.1, s49.2.2.1))))) (bnd (idx s49.1 p1) fun y66 => bnd (rec_ (⟨p0.list, p0.bottom, (s49.1.set p1.toNat s49.2.2.2), (w64 (s49.2.1 - 1))⟩ : Gtiler) (w64 (p1 + 1)) s49.2.2.1) fun r70 => (cond (!r70.1.1) (some (.inr (.ret ((false, r70.1.2), (r70.2.1, r70.2.2.1, r70.2.2.2))))) (some (.inl (r70.2.1, r70.2.2.1, r70.2.2.2, (w64 (s49.2.2.2 + 1)))))))))) (some (.inr (.brk (s49.1, s49.2.1, s49.2.2.1, s49.2.2.2)))))

noncomputable def F_impl_tiler_fill_impl_CountTilings_1_step (rec_ : Gtiler → Int → Int → Option ((Bool × Bool) × ((List Int) × Int × Int))) (p0 : Gtiler) (p1 : Int) (p3 : Int) : Option ((Bool × Bool) × ((List Int) × Int × Int)) :=
  (cond (decide (p1 = (p0.places.length : Int))) (some ((true, true), (p0.places, p0.left, (w64 (p3 + 1))))) (bnd (nz (p0.bottom.length : Int)) fun u3 => bnd (idx p0.bottom (Int.tmod p1 (p0.bottom.length : Int))) fun y5 => bnd (bnd (nz (p0.bottom.length : Int)) fun u11 => (cond (decide (0 < (Int.tmod p1 (p0.bottom.length : Int)))) (bnd (idx p0.places (w64 (p1 - 1))) fun y14 => bnd (idx p0.list y14) fun y22 => some (.brk y22.Right)) (some (.brk 0))) : Option (Out (Int) ((Bool × Bool) × ((List Int) × Int × Int)))) (Out.elim (fun (s9 : Int) => bnd ((cond (decide ((p0.bottom.length : Int) ≤ p1)) (bnd (idx p0.places (w64 (p1 - (p0.bottom.length : Int)))) fun y33 => bnd (idx p0.list y33) fun y41 => some (.brk y41.Top)) (some (.brk y5))) : Option (Out (Int) ((Bool × Bool) × ((List Int) × Int × Int)))) (Out.elim (fun (s30 : Int) => bnd (run (F_impl_tiler_fill_impl_CountTilings_1_L1 p0 p1 rec_ s9 s30) (p0.places, p0.left, p3, 0)) (Out.elim (fun (s49 : (List Int) × Int × Int × Int) => some ((true, true), (s49.1, s49.2.1, s49.2.2.1))) (fun (r : (Bool × Bool) × ((List Int) × Int × Int)) => some r))) (fun (r : (Bool × Bool) × ((List Int) × Int × Int)) => some r))) (fun (r : (Bool × Bool) × ((List Int) × Int × Int)) => some r))))
noncomputable def F_impl_tiler_fill_impl_CountTilings_1 (p0 : Gtiler) (p1 : Int) (p3 : Int) : Option ((Bool × Bool) × ((List Int) × Int × Int)) := fixR (fun (rec_ : (Gtiler × Int × Int) → Option ((Bool × Bool) × ((List Int) × Int × Int))) (a_ : Gtiler × Int × Int) => F_impl_tiler_fill_impl_CountTilings_1_step (fun p0 p1 p3 => rec_ (p0, p1, p3)) a_.1 a_.2.1 a_.2.2) (p0, p1, p3)


noncomputable def F_impl_CountTilings (p0 : (List GTile)) (p1 : (List Int)) (p2 : Int) (p3 : Int) : Option (Int × Int) :=
  bnd (F_impl_ValidTiles p0) fun r2 => (cond (!r2) (some (0, 1)) (bnd (F_impl_isFrame p1) fun r5 => (cond (!r5) (some (0, 2)) (bnd (F_impl_within p2 1 40) fun r8 => (cond (!r8) (some (0, 2)) (bnd (F_impl_budgetOk p3) fun r11 => (cond (!r11) (some (0, 2)) (bnd (F_impl_size_int64 p1) fun r14 => bnd (mke (w64 (r14 * p2)) (0 : Int)) fun z16 => bnd (F_impl_tiler_fill_impl_CountTilings_1 (⟨p0, p1, z16, p3⟩ : Gtiler) 0 0) fun r21 => (cond (!r21.1.2) (some (0, 5)) (some (r21.2.2.2, 0)))))))))))


noncomputable def F_laws_eqTile (p0 : GTile) (p1 : GTile) : Option (Bool) :=
  (cond (decide (p0.Left ≠ p1.Left)) (some false) (cond (decide (p0.Bottom ≠ p1.Bottom)) (some false) (cond (decide (p0.Right ≠ p1.Right)) (some false) (cond (decide (p0.Top ≠ p1.Top)) (some false) (some true)))))

noncomputable def F_laws_eqTileS_L1 (p0 : (List GTile)) (p1 : (List GTile)) (s2 : Int) : Option ((Int) ⊕ Out (Int) Bool) :=
  (cond (decide (s2 < (p0.length : Int))) (bnd (idx p0 s2) fun y5 => bnd (idx p1 s2) fun y9 => bnd (F_laws_eqTile y5 y9) fun r16 => (cond (!r16) (some (.inr (.ret false))) (some (.inl (w64 (s2 + 1)))))) (some (.inr (.brk s2))))

noncomputable def F_laws_eqTileS (p0 : (List GTile)) (p1 : (List GTile)) : Option (Bool) :=
  (cond (decide ((p0.length : Int) ≠ (p1.length : Int))) (some false) (bnd (run (F_laws_eqTileS_L1 p0 p1) 0) (Out.elim (fun (s2 : Int) => some true) (fun (r : Bool) => some r))))

noncomputable def F_laws_eqInt64S_L1 (p0 : (List Int)) (p1 : (List Int)) (s2 : Int) : Option ((Int) ⊕ Out (Int) Bool) :=
  (cond (decide (s2 < (p0.length : Int))) (bnd (idx p0 s2) fun y5 => bnd (idx p1 s2) fun y9 => (cond (decide (y5 ≠ y9)) (some (.inr (.ret false))) (some (.inl (w64 (s2 + 1)))))) (some (.inr (.brk s2))))

noncomputable def F_laws_eqInt64S (p0 : (List Int)) (p1 : (List Int)) : Option (Bool) :=
  (cond (decide ((p0.length : Int) ≠ (p1.length : Int))) (some false) (bnd (run (F_laws_eqInt64S_L1 p0 p1) 0) (Out.elim (fun (s2 : Int) => some true) (fun (r : Bool) => some r))))


noncomputable def F_laws_FnExactCountTilings (p0 : (List GTile)) (p1 : (List Int)) (p2 : Int) (p3 : Int) : Option (Bool) :=
  (cond (decide (1048576 < (p1.length : Int))) (some true) (bnd (F_laws_szTileS p0 1048576) fun r2 => (cond (decide (r2 < 0)) (some true) (bnd (F_laws_toTileS p0) fun r5 => bnd (F_laws_toInt64S p1) fun r8 => bnd (F_spec_CountTilings r5 r8 p2 p3) fun r11 => bnd (F_laws_toTileS p0) fun r13 => bnd (F_laws_toInt64S p1) fun r16 => bnd (F_impl_CountTilings r13 r16 p2 p3) fun r19 => (cond (decide (r19.1 ≠ r11.1)) (some false) (cond (decide (r19.2 ≠ r11.2)) (some false) (bnd (F_laws_toTileS p0) fun r23 => bnd (F_laws_eqTileS r13 r23) fun r26 => (cond (!r26) (some false) (bnd (F_laws_toInt64S p1) fun r29 => bnd (F_laws_eqInt64S r16 r29) fun r32 => (cond (!r32) (some false) (some true)))))))))))


noncomputable def F_laws_b10Long (p0 : (List (Ik .u8))) : Option (Bool) :=
  some (decide (1048576 < (p0.length : Int)))


noncomputable def F_spec_l00Src_next (p0 : Gl00Src) : Option ((Int) × (Int × (Ik .u64))) :=
  bnd ((cond (decide (p0.at_ < (p0.code.length : Int))) (bnd (idx p0.code p0.at_) fun y4 => some (.brk (w64 y4.val))) (some (.brk 0))) : Option (Out (Int) ((Int) × (Int × (Ik .u64))))) (Out.elim (fun (s1 : Int) => (cond (decide ((w64 (p0.at_ + 1)) ≤ (p0.code.length : Int))) (some (s1, ((w64 (p0.at_ + 1)), (⟨(wk .u64 ((wk .u64 ((wk .u64 (p0.seed.val * 6364136223846793005)) + (wk .u64 s1))) + 1442695040888963407))⟩ : Ik .u64)))) (some ((w64 (kand .u64 (Int.fdiv (wk .u64 ((wk .u64 ((wk .u64 (p0.seed.val * 6364136223846793005)) + (wk .u64 s1))) + 1442695040888963407)) (2 ^ min (40 : Int).toNat (IntKind.bits .u64))) 255)), ((w64 (p0.at_ + 1)), (⟨(wk .u64 ((wk .u64 ((wk .u64 (p0.seed.val * 6364136223846793005)) + (wk .u64 s1))) + 1442695040888963407))⟩ : Ik .u64)))))) (fun (r : (Int) × (Int × (Ik .u64))) => some r))


noncomputable def F_spec_l00Src_pick (p0 : Gl00Src) (p1 : Int) : Option ((Int) × (Int × (Ik .u64))) :=
  (cond (decide (p1 ≤ 1)) (some (0, (p0.at_, p0.seed))) (bnd (F_spec_l00Src_next p0) fun r2 => (cond (decide (200 < p1)) (bnd (F_spec_l00Src_next (⟨p0.code, r2.2.1, r2.2.2⟩ : Gl00Src)) fun r5 => bnd (nz p1) fun u7 => some ((Int.tmod (w64 ((w64 (r2.1 * 256)) + r5.1)) p1), (r5.2.1, r5.2.2))) (bnd (nz p1) fun u9 => some ((Int.tmod r2.1 p1), (r2.2.1, r2.2.2))))))

noncomputable def F_spec_l10DrawWord_L1 (p0 : Gl00Src) (p3 : Int) (s4 : Int × (Ik .u64) × (List Int) × Int) : Option ((Int × (Ik .u64) × (List Int) × Int) ⊕ Out (Int × (Ik .u64) × (List Int) × Int) (((List Int)) × (Int × (Ik .u64)))) :=
  (cond (decide (0 < s4.2.2.2)) (bnd (F_spec_l00Src_pick (⟨p0.code, s4.1, s4.2.1⟩ : Gl00Src) p3) fun r7 => bnd (app s4.2.2.1 ([r7.1] : List Int)) fun z10 => some (.inl (r7.2.1, r7.2.2, z10, (w64 (s4.2.2.2 - 1))))) (some (.inr (.brk (s4.1, s4.2.1, s4.2.2.1, s4.2.2.2)))))

noncomputable def F_spec_l10DrawWord (p0 : Gl00Src) (p1 : Int) (p2 : Int) (p3 : Int) : Option (((List Int)) × (Int × (Ik .u64))) :=
  bnd (F_spec_l00Src_pick p0 (w64 ((w64 (p2 - p1)) + 1))) fun r2 => bnd (run (F_spec_l10DrawWord_L1 p0 p3) (r2.2.1, r2.2.2, ([] : List Int), (w64 (p1 + r2.1)))) (Out.elim (fun (s4 : Int × (Ik .u64) × (List Int) × Int) => some (s4.2.2.1, (s4.1, s4.2.1))) (fun (r : ((List Int)) × (Int × (Ik .u64))) => some r))


noncomputable def F_spec_l00Src_one (p0 : Gl00Src) (p1 : Int) : Option ((Bool) × (Int × (Ik .u64))) :=
  bnd (F_spec_l00Src_pick p0 p1) fun r1 => some ((decide (r1.1 = 0)), (r1.2.1, r1.2.2))

noncomputable def F_spec_l10DrawOk_L1 (p0 : Gl00Src) (r1 : (Int) × (Int × (Ik .u64))) (s6 : Int × (Ik .u64) × (List GRewrite) × Int) : Option ((Int × (Ik .u64) × (List GRewrite) × Int) ⊕ Out (Int × (Ik .u64) × (List GRewrite) × Int) (((List GRewrite)) × (Int × (Ik .u64)))) :=
  (cond (decide (0 < s6.2.2.2)) (bnd (F_spec_l10DrawWord (⟨p0.code, s6.1, s6.2.1⟩ : Gl00Src) 1 3 (w64 (2 + r1.1))) fun r9 => bnd (F_spec_l00Src_one (⟨p0.code, r9.2.1, r9.2.2⟩ : Gl00Src) 5) fun r12 => (cond r12.1 (bnd (F_spec_l10DrawWord (⟨p0.code, r12.2.1, r12.2.2⟩ : Gl00Src) 0 (w64 ((r9.1.length : Int) + 1)) (w64 (2 + r1.1))) fun r15 => bnd (app s6.2.2.1 ([(⟨r9.1, r15.1⟩ : GRewrite)] : List GRewrite)) fun z19 => some (.inl (r15.2.1, r15.2.2, z19, (w64 (s6.2.2.2 - 1))))) (bnd (F_spec_l10DrawWord (⟨p0.code, r12.2.1, r12.2.2⟩ : Gl00Src) 0 (r9.1.length : Int) (w64 (2 + r1.1))) fun r22 => bnd (app s6.2.2.1 ([(⟨r9.1, r22.1⟩ : GRewrite)] : List GRewrite)) fun z26 => some (.inl (r22.2.1, r22.2.2, z26, (w64 (s6.2.2.2 - 1))))))) (some (.inr (.brk (s6.1, s6.2.1, s6.2.2.1, s6.2.2.2)))))

noncomputable def F_spec_l10DrawOk (p0 : Gl00Src) : Option (((List GRewrite)) × (Int × (Ik .u64))) :=
  bnd (F_spec_l00Src_pick p0 2) fun r1 => bnd (F_spec_l00Src_pick (⟨p0.code, r1.2.1, r1.2.2⟩ : Gl00Src) 4) fun r4 => bnd (run (F_spec_l10DrawOk_L1 p0 r1) (r4.2.1, r4.2.2, ([] : List GRewrite), (w64 (1 + r4.1)))) (Out.elim (fun (s6 : Int × (Ik .u64) × (List GRewrite) × Int) => some (s6.2.2.1, (s6.1, s6.2.1))) (fun (r : ((List GRewrite)) × (Int × (Ik .u64))) => some r))

noncomputable def F_spec_B10Rules_L1 (p0 : (List (Ik .u8))) (r3 : ((List GRewrite)) × (Int × (Ik .u64))) (s9 : Int × (Ik .u64) × (List Int) × Int) : Option ((Int × (Ik .u64) × (List Int) × Int) ⊕ Out (Int × (Ik .u64) × (List Int) × Int) ((List GRewrite) × (List Int))) :=
  (cond (decide (0 < s9.2.2.2)) (bnd (F_spec_l00Src_one (⟨p0, s9.1, s9.2.1⟩ : Gl00Src) 2) fun r12 => (cond r12.1 (bnd (F_spec_l00Src_pick (⟨p0, r12.2.1, r12.2.2⟩ : Gl00Src) (r3.1.length : Int)) fun r15 => bnd (idx r3.1 r15.1) fun y17 => bnd (app s9.2.2.1 y17.From) fun z22 => some (.inl (r15.2.1, r15.2.2, z22, (w64 (s9.2.2.2 - 1))))) (bnd (F_spec_l00Src_pick (⟨p0, r12.2.1, r12.2.2⟩ : Gl00Src) 3) fun r25 => bnd (app s9.2.2.1 ([r25.1] : List Int)) fun z28 => some (.inl (r25.2.1, r25.2.2, z28, (w64 (s9.2.2.2 - 1))))))) (some (.inr (.brk (s9.1, s9.2.1, s9.2.2.1, s9.2.2.2)))))

noncomputable def F_spec_B10Rules (p0 : (List (Ik .u8))) : Option ((List GRewrite) × (List Int)) :=
  bnd (F_spec_l10DrawOk (⟨p0, 0, (⟨0⟩ : Ik .u64)⟩ : Gl00Src)) fun r3 => bnd (F_spec_l00Src_pick (⟨p0, r3.2.1, r3.2.2⟩ : Gl00Src) 4) fun r7 => bnd (run (F_spec_B10Rules_L1 p0 r3) (r7.2.1, r7.2.2, ([] : List Int), r7.1)) (Out.elim (fun (s9 : Int × (Ik .u64) × (List Int) × Int) => some (r3.1, s9.2.2.1)) (fun (r : (List GRewrite) × (List Int)) => some r))


noncomputable def F_impl_size_impl_Rewrite (p0 : (List GRewrite)) : Option (Int) :=
  some (p0.length : Int)

noncomputable def F_slices_IndexFunc_Simpl_Rewrite_impl_Rewrite_L1 (p0 : (List GRewrite)) (p1 : (GRewrite → Option Bool)) (s1 : Int) : Option ((Int) ⊕ Out (Int) Int) :=
  (cond (decide (s1 < (p0.length : Int))) (bnd (idx p0 s1) fun y4 => bnd (p1 y4) fun r8 => (cond r8 (some (.inr (.ret s1))) (some (.inl (w64 (s1 + 1)))))) (some (.inr (.brk s1))))

noncomputable def F_slices_IndexFunc_Simpl_Rewrite_impl_Rewrite (p0 : (List GRewrite)) (p1 : (GRewrite → Option Bool)) : Option (Int) :=
  bnd (run (F_slices_IndexFunc_Simpl_Rewrite_impl_Rewrite_L1 p0 p1) 0) (Out.elim (fun (s1 : Int) => some (-1)) (fun (r : Int) => some r))


noncomputable def F_slices_ContainsFunc_Simpl_Rewrite_impl_Rewrite (p0 : (List GRewrite)) (p1 : (GRewrite → Option Bool)) : Option (Bool) :=
  bnd (F_slices_IndexFunc_Simpl_Rewrite_impl_Rewrite p0 p1) fun r1 => some (decide (0 ≤ r1))

noncomputable def F_slices_IndexFunc_SSint64_Sint64_L1 (p0 : (List (List Int))) (p1 : ((List Int) → Option Bool)) (s1 : Int) : Option ((Int) ⊕ Out (Int) Int) :=
  (cond (decide (s1 < (p0.length : Int))) (bnd (idx p0 s1) fun y4 => bnd (p1 y4) fun r8 => (cond r8 (some (.inr (.ret s1))) (some (.inl (w64 (s1 + 1)))))) (some (.inr (.brk s1))))

noncomputable def F_slices_IndexFunc_SSint64_Sint64 (p0 : (List (List Int))) (p1 : ((List Int) → Option Bool)) : Option (Int) :=
  bnd (run (F_slices_IndexFunc_SSint64_Sint64_L1 p0 p1) 0) (Out.elim (fun (s1 : Int) => some (-1)) (fun (r : Int) => some r))


noncomputable def F_slices_ContainsFunc_SSint64_Sint64 (p0 : (List (List Int))) (p1 : ((List Int) → Option Bool)) : Option (Bool) :=
  bnd (F_slices_IndexFunc_SSint64_Sint64 p0 p1) fun r1 => some (decide (0 ≤ r1))


noncomputable def F_impl_isLetters (p0 : (List Int)) : Option (Bool) :=
  bnd (F_impl_allWithin p0 0 9) fun r1 => some r1


noncomputable def F_impl_IsWord (p0 : (List Int)) : Option (Bool) :=
  (cond (decide ((p0.length : Int) ≤ 400)) (bnd (F_impl_isLetters p0) fun r2 => some r2) (some false))


noncomputable def F_impl_areWords_1 (p0 : (List Int)) : Option (Bool) :=
  bnd (F_impl_IsWord p0) fun r1 => some (!r1)


noncomputable def F_impl_areWords (p0 : (List (List Int))) : Option (Bool) :=
  bnd (F_slices_ContainsFunc_SSint64_Sint64 p0 (fun x_ => F_impl_areWords_1 x_)) fun r1 => some (!r1)


noncomputable def F_impl_ValidRewrites_1 (p0 : GRewrite) : Option (Bool) :=
  bnd (F_impl_areWords ([p0.From, p0.To] : List (List Int))) fun r3 => (cond (!r3) (some true) (some (decide ((p0.From.length : Int) = 0))))


noncomputable def F_impl_ValidRewrites (p0 : (List GRewrite)) : Option (Bool) :=
  bnd (F_impl_size_impl_Rewrite p0) fun r1 => bnd (F_impl_within r1 1 60) fun r3 => (cond r3 (bnd (F_slices_ContainsFunc_Simpl_Rewrite_impl_Rewrite p0 (fun x_ => F_impl_ValidRewrites_1 x_)) fun r6 => some (!r6)) (some false))


noncomputable def F_impl_searchCode (p0 : (List GRewrite)) (p1 : Int) (p2 : (List (List Int))) : Option (Int) :=
  bnd (F_impl_ValidRewrites p0) fun r1 => (cond (!r1) (some 1) (bnd (F_impl_areWords p2) fun r4 => (cond (!r4) (some 1) (bnd (F_impl_budgetOk p1) fun r7 => (cond (!r7) (some 2) (some 0))))))


noncomputable def F_slices_Clone_Sint64_int64 (p0 : (List Int)) : Option ((List Int)) :=
  bnd (app ([] : List Int) p0) fun z3 => some z3

noncomputable def F_impl_keyOf_L1 (p0 : (List Int)) (s4 : (List (Ik .u8)) × Int) : Option (((List (Ik .u8)) × Int) ⊕ Out ((List (Ik .u8)) × Int) ByteArray) :=
  (cond (decide (s4.2 < (p0.length : Int))) (bnd (idx p0 s4.2) fun y7 => bnd (idx s4.1 s4.2) fun y11 => some (.inl ((s4.1.set s4.2.toNat (⟨(wk .u8 y7)⟩ : Ik .u8)), (w64 (s4.2 + 1))))) (some (.inr (.brk (s4.1, s4.2)))))

noncomputable def F_impl_keyOf (p0 : (List Int)) : Option (ByteArray) :=
  bnd (mke (p0.length : Int) (⟨0⟩ : Ik .u8)) fun z1 => bnd (run (F_impl_keyOf_L1 p0) (z1, 0)) (Out.elim (fun (s4 : (List (Ik .u8)) × Int) => some (strOf s4.1)) (fun (r : ByteArray) => some r))

noncomputable def F_slices_Equal_Sint64_int64_L1 (p0 : (List Int)) (p1 : (List Int)) (s2 : Int) : Option ((Int) ⊕ Out (Int) Bool) :=
  (cond (decide (s2 < (p0.length : Int))) (bnd (idx p0 s2) fun y5 => bnd (idx p1 s2) fun y9 => (cond (decide (y5 ≠ y9)) (some (.inr (.ret false))) (some (.inl (w64 (s2 + 1)))))) (some (.inr (.brk s2))))

noncomputable def F_slices_Equal_Sint64_int64 (p0 : (List Int)) (p1 : (List Int)) : Option (Bool) :=
  (cond (decide ((p0.length : Int) ≠ (p1.length : Int))) (some false) (bnd (run (F_slices_Equal_Sint64_int64_L1 p0 p1) 0) (Out.elim (fun (s2 : Int) => some true) (fun (r : Bool) => some r))))


noncomputable def F_impl_begins (p0 : (List Int)) (p1 : (List Int)) : Option (Bool) :=
  (cond (decide ((p1.length : Int) ≤ (p0.length : Int))) (bnd (slc p0 0 (p1.length : Int)) fun z2 => bnd (F_slices_Equal_Sint64_int64 z2 p1) fun r5 => some r5) (some false))

noncomputable def F_impl_occurrences_L1 (p0 : (List Int)) (p1 : (List Int)) (s2 : (List Int) × Int) : Option (((List Int) × Int) ⊕ Out ((List Int) × Int) (List Int)) :=
  (cond (decide (s2.2 ≤ (p0.length : Int))) (bnd (slc p0 s2.2 (p0.length : Int)) fun z5 => bnd (F_impl_begins z5 p1) fun r8 => (cond r8 (bnd (app s2.1 ([s2.2] : List Int)) fun z12 => some (.inl (z12, (w64 (s2.2 + 1))))) (some (.inl (s2.1, (w64 (s2.2 + 1))))))) (some (.inr (.brk (s2.1, s2.2)))))

noncomputable def F_impl_occurrences (p0 : (List Int)) (p1 : (List Int)) : Option ((List Int)) :=
  bnd (run (F_impl_occurrences_L1 p0 p1) (([] : List Int), 0)) (Out.elim (fun (s2 : (List Int) × Int) => some s2.1) (fun (r : (List Int)) => some r))

noncomputable def F_slices_Concat_Sint64_int64_L1 (p0 : (List (List Int))) (s1 : Int × Int) : Option ((Int × Int) ⊕ Out (Int × Int) (List Int)) :=
  (cond (decide (s1.2 < (p0.length : Int))) (bnd (idx p0 s1.2) fun y4 => (cond (decide ((w64 (s1.1 + (y4.length : Int))) < 0)) none (some (.inl ((w64 (s1.1 + (y4.length : Int))), (w64 (s1.2 + 1))))))) (some (.inr (.brk (s1.1, s1.2)))))

noncomputable def F_slices_Concat_Sint64_int64_L2 (p0 : (List (List Int))) (s20 : (List Int) × Int) : Option (((List Int) × Int) ⊕ Out ((List Int) × Int) (List Int)) :=
  (cond (decide (s20.2 < (p0.length : Int))) (bnd (idx p0 s20.2) fun y23 => bnd (app s20.1 y23) fun z27 => some (.inl (z27, (w64 (s20.2 + 1))))) (some (.inr (.brk (s20.1, s20.2)))))

noncomputable def F_slices_Concat_Sint64_int64_L3 (p0 : (List (List Int))) (s30 : (List Int) × Int) : Option (((List Int) × Int) ⊕ Out ((List Int) × Int) (List Int)) :=
  (cond (decide (s30.2 < (p0.length : Int))) (bnd (idx p0 s30.2) fun y33 => bnd (app s30.1 y33) fun z37 => some (.inl (z37, (w64 (s30.2 + 1))))) (some (.inr (.brk (s30.1, s30.2)))))

noncomputable def F_slices_Concat_Sint64_int64 (p0 : (List (List Int))) : Option ((List Int)) :=
  bnd (run (F_slices_Concat_Sint64_int64_L1 p0) (0, 0)) (Out.elim (fun (s1 : Int × Int) => bnd ((cond (decide (s1.1 < 0)) none (some (.brk ()))) : Option (Out (Unit) (Option ((List Int))))) (Out.elim (fun (s10 : Unit) => (cond (decide (0 < (w64 (s1.1 - (w64 (((0 : Nat) : Int) - ((0 : Nat) : Int))))))) (bnd (mke (w64 (s1.1 - (w64 (((0 : Nat) : Int) - ((0 : Nat) : Int))))) (0 : Int)) fun z14 => bnd (slc z14 0 ((0 : Nat) : Int)) fun z17 => bnd (run (F_slices_Concat_Sint64_int64_L2 p0) (z17, 0)) (Out.elim (fun (s20 : (List Int) × Int) => some s20.1) (fun (r : (List Int)) => some r))) (bnd (run (F_slices_Concat_Sint64_int64_L3 p0) (([] : (List Int)), 0)) (Out.elim (fun (s30 : (List Int) × Int) => some s30.1) (fun (r : (List Int)) => some r))))) (fun (r : Option ((List Int))) => r))) (fun (r : (List Int)) => some r))


noncomputable def F_impl_joined (p0 : (List (List Int))) : Option ((List Int)) :=
  bnd (F_slices_Concat_Sint64_int64 p0) fun r1 => some r1


noncomputable def F_impl_replaced (p0 : (List Int)) (p1 : Int) (p2 : Int) (p3 : (List Int)) : Option ((List Int)) :=
  bnd (slc p0 0 p1) fun z1 => bnd (slc p0 (w64 (p1 + p2)) (p0.length : Int)) fun z4 => bnd (F_impl_joined ([z1, p3, z4] : List (List Int))) fun r11 => some r11


noncomputable def F_impl_fitting (p0 : (List Int)) : Option ((List Int) × Int) :=
  (cond (decide (400 < (p0.length : Int))) (some (([] : (List Int)), 5)) (some (p0, 0)))

noncomputable def F_impl_movesOf_L2 (p1 : (List Int)) (s2 : (List Gmove) × Bool × Int) (y5 : GRewrite) (r10 : (List Int)) (s13 : (List Gmove) × Bool × Int) : Option (((List Gmove) × Bool × Int) ⊕ Out ((List Gmove) × Bool × Int) ((List Gmove) × Bool)) :=
  (cond (decide (s13.2.2 < (r10.length : Int))) (bnd (idx r10 s13.2.2) fun y16 => bnd (F_impl_replaced p1 y16 (y5.From.length : Int) y5.To) fun r21 => bnd (F_impl_fitting r21) fun r24 => (cond (decide (r24.2 ≠ 0)) (some (.inl (s13.1, true, (w64 (s13.2.2 + 1))))) (bnd (app s13.1 ([(⟨s2.2.2, y16, r24.1⟩ : Gmove)] : List Gmove)) fun z29 => some (.inl (z29, s13.2.1, (w64 (s13.2.2 + 1))))))) (some (.inr (.brk (s13.1, s13.2.1, s13.2.2)))))

noncomputable def F_impl_movesOf_L1 (p0 : (List GRewrite)) (p1 : (List Int)) (s2 : (List Gmove) × Bool × Int) : Option (((List Gmove) × Bool × Int) ⊕ Out ((List Gmove) × Bool × Int) ((List Gmove) × Bool)) :=
  (cond (decide (s2.2.2 < (p0.length : Int))) (bnd (idx p0 s2.2.2) fun y5 => bnd (F_impl_occurrences p1 y5.From) fun r10 => bnd (run (F_impl_movesOf_L2 p1 s2 y5 r10) (s2.1, s2.2.1, 0)) (Out.elim (fun (s13 : (List Gmove) × Bool × Int) => some (.inl (s13.1, s13.2.1, (w64 (s2.2.2 + 1))))) (fun (r : (List Gmove) × Bool) => some (.inr (.ret r))))) (some (.inr (.brk (s2.1, s2.2.1, s2.2.2)))))

noncomputable def F_impl_movesOf (p0 : (List GRewrite)) (p1 : (List Int)) : Option ((List Gmove) × Bool) :=
  bnd (run (F_impl_movesOf_L1 p0 p1) (([] : List Gmove), false, 0)) (Out.elim (fun (s2 : (List Gmove) × Bool × Int) => some (s2.1, s2.2.1)) (fun (r : (List Gmove) × Bool) => some r))

noncomputable def F_impl_ReachWords_L3 (z61 : (List Gfound)) (s66 : (List (List Int)) × Int) : Option (((List (List Int)) × Int) ⊕ Out ((List (List Int)) × Int) ((List (List Int)) × Bool × Int)) :=
  (cond (decide (s66.2 < (z61.length : Int))) (bnd (idx z61 s66.2) fun y69 => bnd (app s66.1 ([y69.move_word] : List (List Int))) fun z76 => some (.inl (z76, (w64 (s66.2 + 1))))) (some (.inr (.brk (s66.1, s66.2)))))

noncomputable def F_impl_ReachWords_L4 (s40 : (List Gfound) × List (ByteArray × Int) × Int) (s100 : (List (List Int)) × Int) : Option (((List (List Int)) × Int) ⊕ Out ((List (List Int)) × Int) ((List (List Int)) × Bool × Int)) :=
  (cond (decide (s100.2 < (s40.1.length : Int))) (bnd (idx s40.1 s100.2) fun y103 => bnd (app s100.1 ([y103.move_word] : List (List Int))) fun z110 => some (.inl (z110, (w64 (s100.2 + 1))))) (some (.inr (.brk (s100.1, s100.2)))))

noncomputable def F_impl_ReachWords_L2 (s25 : (List Gfound) × List (ByteArray × Int) × Bool × Int) (r34 : (List Gmove) × Bool) (s40 : (List Gfound) × List (ByteArray × Int) × Int) : Option (((List Gfound) × List (ByteArray × Int) × Int) ⊕ Out ((List Gfound) × List (ByteArray × Int) × Int) (Option ((List (List Int)) × Bool × Int))) :=
  (cond (decide (s40.2.2 < (r34.1.length : Int))) (bnd (idx r34.1 s40.2.2) fun y43 => bnd (F_impl_keyOf y43.word) fun r51 => (cond (!((mget s40.2.1 r51).isSome)) (bnd (app s40.1 ([(⟨y43.rule, y43.at_, y43.word, s25.2.2.2⟩ : Gfound)] : List Gfound)) fun z61 => (cond (decide ((z61.length : Int) = 300)) (some (.inr (.ret (bnd (run (F_impl_ReachWords_L3 z61) (([] : List (List Int)), 0)) (Out.elim (fun (s66 : (List (List Int)) × Int) => some (s66.1, false, 0)) (fun (r : (List (List Int)) × Bool × Int) => some r)))))) (some (.inl (z61, (mput s40.2.1 r51 (s40.1.length : Int)), (w64 (s40.2.2 + 1))))))) (cond (decide ((s40.1.length : Int) = 300)) (some (.inr (.ret (bnd (run (F_impl_ReachWords_L4 s40) (([] : List (List Int)), 0)) (Out.elim (fun (s100 : (List (List Int)) × Int) => some (s100.1, false, 0)) (fun (r : (List (List Int)) × Bool × Int) => some r)))))) (some (.inl (s40.1, s40.2.1, (w64 (s40.2.2 + 1)))))))) (some (.inr (.brk (s40.1, s40.2.1, s40.2.2)))))

noncomputable def F_impl_ReachWords_L1 (p0 : (List GRewrite)) (p2 : Int) (s25 : (List Gfound) × List (ByteArray × Int) × Bool × Int) : Option (((List Gfound) × List (ByteArray × Int) × Bool × Int) ⊕ Out ((List Gfound) × List (ByteArray × Int) × Bool × Int) (Option ((List (List Int)) × Bool × Int))) :=
  (cond (decide (s25.2.2.2 < (s25.1.length : Int))) (cond (decide (s25.2.2.2 = p2)) (some (.inr (.brk (s25.1, s25.2.1, false, s25.2.2.2)))) (bnd (idx s25.1 s25.2.2.2) fun y29 => bnd (F_impl_movesOf p0 ((⟨y29.move_rule, y29.move_at_, y29.move_word⟩ : Gmove).word)) fun r34 => bnd ((cond s25.2.2.1 (some (.brk (!r34.2))) (some (.brk false))) : Option (Out (Bool) (Option ((List (List Int)) × Bool × Int)))) (Out.elim (fun (s37 : Bool) => bnd (run (F_impl_ReachWords_L2 s25 r34) (s25.1, s25.2.1, 0)) (Out.elim (fun (s40 : (List Gfound) × List (ByteArray × Int) × Int) => some (.inl (s40.1, s40.2.1, s37, (w64 (s25.2.2.2 + 1))))) (fun (r : Option ((List (List Int)) × Bool × Int)) => some (.inr (.ret r))))) (fun (r : Option ((List (List Int)) × Bool × Int)) => some (.inr (.ret r)))))) (some (.inr (.brk (s25.1, s25.2.1, s25.2.2.1, s25.2.2.2)))))

noncomputable def F_impl_ReachWords_L5 (s25 : (List Gfound) × List (ByteArray × Int) × Bool × Int) (s114 : (List (List Int)) × Int) : Option (((List (List Int)) × Int) ⊕ Out ((List (List Int)) × Int) ((List (List Int)) × Bool × Int)) :=
  (cond (decide (s114.2 < (s25.1.length : Int))) (bnd (idx s25.1 s114.2) fun y117 => bnd (app s114.1 ([y117.move_word] : List (List Int))) fun z124 => some (.inl (z124, (w64 (s114.2 + 1))))) (some (.inr (.brk (s114.1, s114.2)))))

noncomputable def F_impl_ReachWords (p0 : (List GRewrite)) (p1 : (List Int)) (p2 : Int) : Option ((List (List Int)) × Bool × Int) :=
  bnd (F_impl_searchCode p0 p2 ([p1] : List (List Int))) fun r2 => (cond (decide (r2 ≠ 0)) (some (([] : (List (List Int))), false, r2)) (bnd (F_slices_Clone_Sint64_int64 p1) fun r8 => bnd (F_impl_keyOf r8) fun r13 => bnd (app ([] : (List Gfound)) ([(⟨0, 0, r8, (-1)⟩ : Gfound)] : List Gfound)) fun z22 => bnd (run (F_impl_ReachWords_L1 p0 p2) (z22, (mput ([] : List (ByteArray × Int)) r13 ((0 : Nat) : Int)), true, 0)) (Out.elim (fun (s25 : (List Gfound) × List (ByteArray × Int) × Bool × Int) => bnd (run (F_impl_ReachWords_L5 s25) (([] : List (List Int)), 0)) (Out.elim (fun (s114 : (List (List Int)) × Int) => some (s114.1, s25.2.2.1, 0)) (fun (r : (List (List Int)) × Bool × Int) => some r))) (fun (r : Option ((List (List Int)) × Bool × Int)) => r))))

noncomputable def F_laws_b10Nums_L1 (p0 : (List Int)) (p1 : (List Int)) (s2 : Int) : Option ((Int) ⊕ Out (Int) Bool) :=
  (cond (decide (s2 < (p0.length : Int))) (bnd (idx p0 s2) fun y5 => bnd (idx p1 s2) fun y9 => (cond (decide (y5 ≠ y9)) (some (.inr (.ret false))) (some (.inl (w64 (s2 + 1)))))) (some (.inr (.brk s2))))

noncomputable def F_laws_b10Nums (p0 : (List Int)) (p1 : (List Int)) : Option (Bool) :=
  (cond (decide ((p0.length : Int) ≠ (p1.length : Int))) (some false) (bnd (run (F_laws_b10Nums_L1 p0 p1) 0) (Out.elim (fun (s2 : Int) => some true) (fun (r : Bool) => some r))))


noncomputable def F_laws_b10At (p0 : (List (Ik .u8))) (p1 : Int) (p2 : Int) : Option (Int) :=
  (cond (decide (p2 ≤ 1)) (some 0) (cond (decide (p1 < (p0.length : Int))) (bnd (idx p0 p1) fun y3 => bnd (nz p2) fun u7 => some (Int.tmod (w64 y3.val) p2)) (bnd (nz p2) fun u9 => some (Int.tmod (w64 ((w64 (p1 * 37)) + 11)) p2))))

noncomputable def F_slices_Reverse_SSint64_Sint64_L1 (s1 : (List Vc) × Int × Int) : Option (((List Vc) × Int × Int) ⊕ Out ((List Vc) × Int × Int) (List Vc)) :=
  (cond (decide (s1.2.1 < s1.2.2)) (bnd (idx s1.1 s1.2.2) fun y4 => bnd (idx s1.1 s1.2.1) fun y8 => bnd (idx s1.1 s1.2.1) fun y15 => bnd (idx (s1.1.set s1.2.1.toNat y4) s1.2.2) fun y17 => some (.inl (((s1.1.set s1.2.1.toNat y4).set s1.2.2.toNat y8), (w64 (s1.2.1 + 1)), (w64 (s1.2.2 - 1))))) (some (.inr (.brk (s1.1, s1.2.1, s1.2.2)))))

noncomputable def F_slices_Reverse_SSint64_Sint64 (p0 : List Vc) : Option (List Vc) :=
  bnd (run (F_slices_Reverse_SSint64_Sint64_L1) (p0, 0, (w64 ((p0.length : Int) - 1)))) (Out.elim (fun (s1 : (List Vc) × Int × Int) => some s1.1) (fun (r : List Vc) => some r))

noncomputable def F_impl_DerivationOf_L3 (z61 : (List Gfound)) (s74 : Int × (List (List Int))) : Option ((Int × (List (List Int))) ⊕ Out (Int × (List (List Int))) ((List (List Int)) × Int)) :=
  bnd (idx z61 s74.1) fun y76 => (cond (decide (0 ≤ y76.parent)) (bnd (idx z61 s74.1) fun y81 => bnd (idx z61 s74.1) fun y83 => bnd (app s74.2 ([([(⟨y81.move_rule, y81.move_at_, y81.move_word⟩ : Gmove).rule, (⟨y83.move_rule, y83.move_at_, y83.move_word⟩ : Gmove).at_] : List Int)] : List (List Int))) fun z90 => bnd (idx z61 s74.1) fun y93 => some (.inl (y93.parent, z90))) (some (.inr (.brk (s74.1, s74.2)))))

noncomputable def F_impl_DerivationOf_L4 (s40 : (List Gfound) × List (ByteArray × Int) × Int) (s146 : Int × (List (List Int))) : Option ((Int × (List (List Int))) ⊕ Out (Int × (List (List Int))) ((List (List Int)) × Int)) :=
  bnd (idx s40.1 s146.1) fun y148 => (cond (decide (0 ≤ y148.parent)) (bnd (idx s40.1 s146.1) fun y153 => bnd (idx s40.1 s146.1) fun y155 => bnd (app s146.2 ([([(⟨y153.move_rule, y153.move_at_, y153.move_word⟩ : Gmove).rule, (⟨y155.move_rule, y155.move_at_, y155.move_word⟩ : Gmove).at_] : List Int)] : List (List Int))) fun z162 => bnd (idx s40.1 s146.1) fun y165 => some (.inl (y165.parent, z162))) (some (.inr (.brk (s146.1, s146.2)))))

noncomputable def F_impl_DerivationOf_L2 (p2 : (List Int)) (s25 : (List Gfound) × List (ByteArray × Int) × Bool × Int) (r34 : (List Gmove) × Bool) (s40 : (List Gfound) × List (ByteArray × Int) × Int) : Option (((List Gfound) × List (ByteArray × Int) × Int) ⊕ Out ((List Gfound) × List (ByteArray × Int) × Int) (Option ((List (List Int)) × Int))) :=
  (cond (decide (s40.2.2 < (r34.1.length : Int))) (bnd (idx r34.1 s40.2.2) fun y43 => bnd (F_impl_keyOf y43.word) fun r51 => (cond (!((mget s40.2.1 r51).isSome)) (bnd (app s40.1 ([(⟨y43.rule, y43.at_, y43.word, s25.2.2.2⟩ : Gfound)] : List Gfound)) fun z61 => (cond (decide ((z61.length : Int) = 300)) (some (.inr (.ret (bnd (F_impl_keyOf p2) fun r68 => bnd ((cond (!((mget (mput s40.2.1 r51 (s40.1.length : Int)) r68).isSome)) (some (.ret (([] : (List (List Int))), 5))) (some (.brk ()))) : Option (Out (Unit) ((List (List Int)) × Int))) (Out.elim (fun (s70 : Unit) => bnd (run (F_impl_DerivationOf_L3 z61) (((mget (mput s40.2.1 r51 (s40.1.length : Int)) r68).getD 0), ([] : List (List Int)))) (Out.elim (fun (s74 : Int × (List (List Int))) => (cond (decide (100 < (s74.2.length : Int))) (some (([] : (List (List Int))), 5)) (bnd (rev s74.2) fun z96 => some (z96, 0)))) (fun (r : (List (List Int)) × Int) => some r))) (fun (r : (List (List Int)) × Int) => some r)))))) (some (.inl (z61, (mput s40.2.1 r51 (s40.1.length : Int)), (w64 (s40.2.2 + 1))))))) (cond (decide ((s40.1.length : Int) = 300)) (some (.inr (.ret (bnd (F_impl_keyOf p2) fun r140 => bnd ((cond (!((mget s40.2.1 r140).isSome)) (some (.ret (([] : (List (List Int))), 5))) (some (.brk ()))) : Option (Out (Unit) ((List (List Int)) × Int))) (Out.elim (fun (s142 : Unit) => bnd (run (F_impl_DerivationOf_L4 s40) (((mget s40.2.1 r140).getD 0), ([] : List (List Int)))) (Out.elim (fun (s146 : Int × (List (List Int))) => (cond (decide (100 < (s146.2.length : Int))) (some (([] : (List (List Int))), 5)) (bnd (rev s146.2) fun z168 => some (z168, 0)))) (fun (r : (List (List Int)) × Int) => some r))) (fun (r : (List (List Int)) × Int) => some r)))))) (some (.inl (s40.1, s40.2.1, (w64 (s40.2.2 + 1)))))))) (some (.inr (.brk (s40.1, s40.2.1, s40.2.2)))))

noncomputable def F_impl_DerivationOf_L1 (p0 : (List GRewrite)) (p2 : (List Int)) (p3 : Int) (s25 : (List Gfound) × List (ByteArray × Int) × Bool × Int) : Option (((List Gfound) × List (ByteArray × Int) × Bool × Int) ⊕ Out ((List Gfound) × List (ByteArray × Int) × Bool × Int) (Option ((List (List Int)) × Int))) :=
  (cond (decide (s25.2.2.2 < (s25.1.length : Int))) (cond (decide (s25.2.2.2 = p3)) (some (.inr (.brk (s25.1, s25.2.1, false, s25.2.2.2)))) (bnd (idx s25.1 s25.2.2.2) fun y29 => bnd (F_impl_movesOf p0 ((⟨y29.move_rule, y29.move_at_, y29.move_word⟩ : Gmove).word)) fun r34 => bnd ((cond s25.2.2.1 (some (.brk (!r34.2))) (some (.brk false))) : Option (Out (Bool) (Option ((List (List Int)) × Int)))) (Out.elim (fun (s37 : Bool) => bnd (run (F_impl_DerivationOf_L2 p2 s25 r34) (s25.1, s25.2.1, 0)) (Out.elim (fun (s40 : (List Gfound) × List (ByteArray × Int) × Int) => some (.inl (s40.1, s40.2.1, s37, (w64 (s25.2.2.2 + 1))))) (fun (r : Option ((List (List Int)) × Int)) => some (.inr (.ret r))))) (fun (r : Option ((List (List Int)) × Int)) => some (.inr (.ret r)))))) (some (.inr (.brk (s25.1, s25.2.1, s25.2.2.1, s25.2.2.2)))))

noncomputable def F_impl_DerivationOf_L5 (s25 : (List Gfound) × List (ByteArray × Int) × Bool × Int) (s180 : Int × (List (List Int))) : Option ((Int × (List (List Int))) ⊕ Out (Int × (List (List Int))) ((List (List Int)) × Int)) :=
  bnd (idx s25.1 s180.1) fun y182 => (cond (decide (0 ≤ y182.parent)) (bnd (idx s25.1 s180.1) fun y187 => bnd (idx s25.1 s180.1) fun y189 => bnd (app s180.2 ([([(⟨y187.move_rule, y187.move_at_, y187.move_word⟩ : Gmove).rule, (⟨y189.move_rule, y189.move_at_, y189.move_word⟩ : Gmove).at_] : List Int)] : List (List Int))) fun z196 => bnd (idx s25.1 s180.1) fun y199 => some (.inl (y199.parent, z196))) (some (.inr (.brk (s180.1, s180.2)))))

noncomputable def F_impl_DerivationOf (p0 : (List GRewrite)) (p1 : (List Int)) (p2 : (List Int)) (p3 : Int) : Option ((List (List Int)) × Int) :=
  bnd (F_impl_searchCode p0 p3 ([p1, p2] : List (List Int))) fun r2 => (cond (decide (r2 ≠ 0)) (some (([] : (List (List Int))), r2)) (bnd (F_slices_Clone_Sint64_int64 p1) fun r8 => bnd (F_impl_keyOf r8) fun r13 => bnd (app ([] : (List Gfound)) ([(⟨0, 0, r8, (-1)⟩ : Gfound)] : List Gfound)) fun z22 => bnd (run (F_impl_DerivationOf_L1 p0 p2 p3) (z22, (mput ([] : List (ByteArray × Int)) r13 ((0 : Nat) : Int)), true, 0)) (Out.elim (fun (s25 : (List Gfound) × List (ByteArray × Int) × Bool × Int) => bnd (F_impl_keyOf p2) fun r173 => bnd ((cond (!((mget s25.2.1 r173).isSome)) (cond s25.2.2.1 (some (.ret (([] : (List (List Int))), 3))) (some (.ret (([] : (List (List Int))), 5)))) (some (.brk ()))) : Option (Out (Unit) ((List (List Int)) × Int))) (Out.elim (fun (s175 : Unit) => bnd (run (F_impl_DerivationOf_L5 s25) (((mget s25.2.1 r173).getD 0), ([] : List (List Int)))) (Out.elim (fun (s180 : Int × (List (List Int))) => (cond (decide (100 < (s180.2.length : Int))) (some (([] : (List (List Int))), 5)) (bnd (rev s180.2) fun z202 => some (z202, 0)))) (fun (r : (List (List Int)) × Int) => some r))) (fun (r : (List (List Int)) × Int) => some r))) (fun (r : Option ((List (List Int)) × Int)) => r))))


noncomputable def F_impl_applyRewrite (p0 : (List GRewrite)) (p1 : (List Int)) (p2 : Int) (p3 : Int) : Option ((List Int) × Int) :=
  bnd (bnd (F_impl_size_impl_Rewrite p0) fun r3 => bnd (F_impl_within p2 0 (w64 (r3 - 1))) fun r5 => (cond (!r5) (some (.ret (([] : (List Int)), 2))) (bnd (F_impl_size_int64 p1) fun r8 => bnd (F_impl_within p3 0 r8) fun r10 => (cond (!r10) (some (.ret (([] : (List Int)), 2))) (some (.brk ()))))) : Option (Out (Unit) ((List Int) × Int))) (Out.elim (fun (s1 : Unit) => bnd (idx p0 p2) fun y13 => bnd (slc p1 p3 (p1.length : Int)) fun z18 => bnd (F_impl_begins z18 y13.From) fun r24 => (cond (!r24) (some (([] : (List Int)), 3)) (bnd (F_impl_replaced p1 p3 (y13.From.length : Int) y13.To) fun r27 => bnd (F_impl_fitting r27) fun r30 => some (r30.1, r30.2)))) (fun (r : (List Int) × Int) => some r))

noncomputable def F_impl_derived_L1 (p0 : (List GRewrite)) (p2 : (List (List Int))) (s5 : (List Int) × Int) : Option (((List Int) × Int) ⊕ Out ((List Int) × Int) ((List Int) × Int)) :=
  (cond (decide (s5.2 < (p2.length : Int))) (bnd (idx p2 s5.2) fun y8 => (cond (decide ((y8.length : Int) ≠ 2)) (some (.inr (.ret (([] : (List Int)), 7)))) (bnd (idx y8 0) fun y13 => bnd (idx y8 1) fun y17 => bnd (F_impl_applyRewrite p0 s5.1 y13 y17) fun r24 => (cond (decide (r24.2 ≠ 0)) (some (.inr (.ret (([] : (List Int)), 7)))) (some (.inl (r24.1, (w64 (s5.2 + 1))))))))) (some (.inr (.brk (s5.1, s5.2)))))

noncomputable def F_impl_derived (p0 : (List GRewrite)) (p1 : (List Int)) (p2 : (List (List Int))) : Option ((List Int) × Int) :=
  (cond (decide (100 < (p2.length : Int))) (some (([] : (List Int)), 2)) (bnd (F_slices_Clone_Sint64_int64 p1) fun r2 => bnd (run (F_impl_derived_L1 p0 p2) (r2, 0)) (Out.elim (fun (s5 : (List Int) × Int) => some (s5.1, 0)) (fun (r : (List Int) × Int) => some r))))


noncomputable def F_impl_CheckDerivation (p0 : (List GRewrite)) (p1 : (List Int)) (p2 : (List (List Int))) : Option ((List Int) × Int) :=
  bnd (F_impl_ValidRewrites p0) fun r1 => (cond (!r1) (some (([] : (List Int)), 1)) (bnd (F_impl_IsWord p1) fun r4 => (cond (!r4) (some (([] : (List Int)), 1)) (bnd (F_impl_derived p0 p1 p2) fun r7 => some (r7.1, r7.2)))))

noncomputable def F_impl_SuccessorsOf_L1 (r9 : (List Gmove) × Bool) (s14 : List (ByteArray × Bool) × (List (List Int)) × Int) : Option ((List (ByteArray × Bool) × (List (List Int)) × Int) ⊕ Out (List (ByteArray × Bool) × (List (List Int)) × Int) ((List (List Int)) × Int)) :=
  (cond (decide (s14.2.2 < (r9.1.length : Int))) (bnd (idx r9.1 s14.2.2) fun y17 => bnd (F_impl_keyOf y17.word) fun r23 => (cond (!((mget s14.1 r23).getD false)) (bnd (app s14.2.1 ([y17.word] : List (List Int))) fun z27 => some (.inl ((mput s14.1 r23 true), z27, (w64 (s14.2.2 + 1))))) (some (.inl (s14.1, s14.2.1, (w64 (s14.2.2 + 1))))))) (some (.inr (.brk (s14.1, s14.2.1, s14.2.2)))))

noncomputable def F_impl_SuccessorsOf (p0 : (List GRewrite)) (p1 : (List Int)) : Option ((List (List Int)) × Int) :=
  bnd (bnd (F_impl_ValidRewrites p0) fun r3 => (cond (!r3) (some (.ret (([] : (List (List Int))), 1))) (bnd (F_impl_IsWord p1) fun r6 => (cond (!r6) (some (.ret (([] : (List (List Int))), 1))) (some (.brk ()))))) : Option (Out (Unit) ((List (List Int)) × Int))) (Out.elim (fun (s1 : Unit) => bnd (F_impl_movesOf p0 p1) fun r9 => bnd (run (F_impl_SuccessorsOf_L1 r9) (([] : List (ByteArray × Bool)), ([] : List (List Int)), 0)) (Out.elim (fun (s14 : List (ByteArray × Bool) × (List (List Int)) × Int) => some (s14.2.1, 0)) (fun (r : (List (List Int)) × Int) => some r))) (fun (r : (List (List Int)) × Int) => some r))


noncomputable def F_impl_isNormalWord_1 (p0 : GRewrite) (p1 : (List Int)) : Option (Bool) :=
  bnd (F_impl_occurrences p1 p0.From) fun r3 => some (decide (0 < (r3.length : Int)))


noncomputable def F_impl_isNormalWord (p0 : (List GRewrite)) (p1 : (List Int)) : Option (Bool) :=
  bnd (F_slices_ContainsFunc_Simpl_Rewrite_impl_Rewrite p0 (fun x_ => F_impl_isNormalWord_1 x_ p1)) fun r2 => some (!r2)


noncomputable def F_impl_IsNormalWord (p0 : (List GRewrite)) (p1 : (List Int)) : Option (Bool) :=
  bnd (F_impl_ValidRewrites p0) fun r1 => (cond r1 (bnd (F_impl_IsWord p1) fun r4 => (cond r4 (bnd (F_impl_isNormalWord p0 p1) fun r7 => some r7) (some false))) (some false))

noncomputable def F_laws_b10Row_L1 (p0 : (List (List Int))) (p1 : (List Int)) (s1 : Int) : Option ((Int) ⊕ Out (Int) Bool) :=
  (cond (decide (s1 < (p0.length : Int))) (bnd (idx p0 s1) fun y4 => bnd (F_laws_b10Nums y4 p1) fun r8 => (cond r8 (some (.inr (.ret true))) (some (.inl (w64 (s1 + 1)))))) (some (.inr (.brk s1))))

noncomputable def F_laws_b10Row (p0 : (List (List Int))) (p1 : (List Int)) : Option (Bool) :=
  bnd (run (F_laws_b10Row_L1 p0 p1) 0) (Out.elim (fun (s1 : Int) => some false) (fun (r : Bool) => some r))

noncomputable def F_laws_FnDerivations_L1 (r12 : (List (List Int)) × Bool × Int) (r47 : (List (List Int)) × Int) (s66 : Int) : Option ((Int) ⊕ Out (Int) Bool) :=
  (cond r12.2.1 (cond (decide (s66 < (r47.1.length : Int))) (bnd (idx r47.1 s66) fun y70 => bnd (F_laws_b10Row r12.1 y70) fun r75 => (cond (!r75) (some (.inr (.ret false))) (some (.inl (w64 (s66 + 1)))))) (some (.inr (.brk s66)))) (some (.inr (.brk s66))))

noncomputable def F_laws_FnDerivations (p0 : (List (Ik .u8))) (p1 : (List (Ik .u8))) : Option (Bool) :=
  bnd (bnd (F_laws_b10Long p0) fun r3 => (cond r3 (some (.ret true)) (bnd (F_laws_b10Long p1) fun r6 => (cond r6 (some (.ret true)) (some (.brk ()))))) : Option (Out (Unit) Bool)) (Out.elim (fun (s1 : Unit) => bnd (F_spec_B10Rules p0) fun r9 => bnd (F_impl_ReachWords r9.1 r9.2 12) fun r12 => bnd ((cond (decide (r12.2.2 ≠ 0)) (some (.ret false)) (cond (decide ((r12.1.length : Int) = 0)) (some (.ret false)) (bnd (idx r12.1 0) fun y19 => bnd (F_laws_b10Nums y19 r9.2) fun r24 => (cond (!r24) (some (.ret false)) (some (.brk ())))))) : Option (Out (Unit) Bool)) (Out.elim (fun (s15 : Unit) => bnd (F_laws_b10At p1 0 (r12.1.length : Int)) fun r27 => bnd (idx r12.1 r27) fun y29 => bnd (F_impl_DerivationOf r9.1 r9.2 y29 12) fun r34 => (cond (decide (r34.2 ≠ 0)) (bnd ((cond (decide (r34.2 = 5)) (some (.brk (decide (100 < (r12.1.length : Int))))) (some (.brk false))) : Option (Out (Bool) Bool)) (Out.elim (fun (s38 : Bool) => some s38) (fun (r : Bool) => some r))) (bnd (F_impl_CheckDerivation r9.1 r9.2 r34.1) fun r41 => bnd (idx r12.1 r27) fun y44 => bnd (F_impl_SuccessorsOf r9.1 y44) fun r47 => bnd ((cond (decide (r41.2 ≠ 0)) (some (.ret false)) (cond (decide (r47.2 ≠ 0)) (some (.ret false)) (bnd (idx r12.1 r27) fun y54 => bnd (F_laws_b10Nums r41.1 y54) fun r57 => (cond (!r57) (some (.ret false)) (bnd (idx r12.1 r27) fun y60 => bnd (F_impl_IsNormalWord r9.1 y60) fun r63 => (cond (r63 != (decide ((r47.1.length : Int) = 0))) (some (.ret false)) (some (.brk ())))))))) : Option (Out (Unit) Bool)) (Out.elim (fun (s50 : Unit) => bnd (run (F_laws_FnDerivations_L1 r12 r47) 0) (Out.elim (fun (s66 : Int) => some true) (fun (r : Bool) => some r))) (fun (r : Bool) => some r))))) (fun (r : Bool) => some r))) (fun (r : Bool) => some r))

end Go.Fn
