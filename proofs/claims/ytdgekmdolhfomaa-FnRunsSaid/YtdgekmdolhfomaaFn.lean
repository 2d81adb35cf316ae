/-
  What each function of the program computes, as a plain Lean function: printed by program off the translation. No condition.
-/
import Derived.Test.YtdgekmdolhfomaaTy
namespace Go.Fn
open Go Go.Tc
set_option linter.unusedVariables false

noncomputable def F_laws_szTileS (p0 : (List GTile)) (p1 : Int) : Option (Int) :=
  (cond (decide ((w64 (p1 - (p0.length : Int))) < 0)) (some (-1)) (some (w64 (p1 - (p0.length : Int)))))


noncomputable def F_laws_toTile (p0 : GTile) : Option (GTile) :=
  some p0

noncomputable def F_laws_toTileS_L1 (p0 : (List GTile)) (s4 : (List GTile) × Int) : Option (((List GTile) × Int) ⊕ Out ((List GTile) × Int) (List GTile)) :=
  (cond (decide (s4.2 < (p0.length : Int))) (bnd (idx p0 s4.2) fun y7 => bnd (F_laws_toTile y7) fun r11 => bnd (idx s4.1 s4.2) fun y13 => some (.inl ((s4.1.set s4.2.toNat r11), (w64 (s4.2 + 1))))) (some (.inr (.brk (s4.1, s4.2)))))

noncomputable def F_laws_toTileS (p0 : (List GTile)) : Option ((List GTile)) :=
  bnd (mke (p0.length : Int) (⟨(0 : Int), (0 : Int), (0 : Int), (0 : Int)⟩ : GTile)) fun z1 => bnd (run (F_laws_toTileS_L1 p0) (z1, 0)) (Out.elim (fun (s4 : (List GTile) × Int) => some s4.1) (fun (r : (List GTile)) => some r))

noncomputable def F_laws_toInt64S_L1 (p0 : (List Int)) (s4 : (List Int) × Int) : Option (((List Int) × Int) ⊕ Out ((List Int) × Int) (List Int)) :=
  (cond (decide (s4.2 < (p0.length : Int))) (bnd (idx p0 s4.2) fun y7 => bnd (idx s4.1 s4.2) fun y11 => some (.inl ((s4.1.set s4.2.toNat y7), (w64 (s4.2 + 1))))) (some (.inr (.brk (s4.1, s4.2)))))

noncomputable def F_laws_toInt64S (p0 : (List Int)) : Option ((List Int)) :=
  bnd (mke (p0.length : Int) (0 : Int)) fun z1 => bnd (run (F_laws_toInt64S_L1 p0) (z1, 0)) (Out.elim (fun (s4 : (List Int) × Int) => some s4.1) (fun (r : (List Int)) => some r))


noncomputable def F_spec_l00In (p0 : Int) (p1 : Int) (p2 : Int) : Option (Bool) :=
  (cond (decide (p1 ≤ p0)) (some (decide (p0 ≤ p2))) (some false))


noncomputable def F_spec_l33Color (p0 : Int) : Option (Bool) :=
  bnd (F_spec_l00In p0 0 9999) fun r1 => some r1

noncomputable def F_spec_l33Is_L2 (p0 : (List GTile)) (s1 : Int) (y4 : GTile) (s23 : Int) : Option ((Int) ⊕ Out (Int) Bool) :=
  (cond (decide (s23 < s1)) (cond (decide (s1 < 300)) (bnd (idx p0 s23) fun y27 => (cond (decide (y27 = y4)) (some (.inr (.ret false))) (some (.inl (w64 (s23 + 1)))))) (some (.inr (.brk s23)))) (some (.inr (.brk s23))))

noncomputable def F_spec_l33Is_L1 (p0 : (List GTile)) (s1 : Int) : Option ((Int) ⊕ Out (Int) Bool) :=
  (cond (decide (s1 < (p0.length : Int))) (bnd (idx p0 s1) fun y4 => bnd (bnd (F_spec_l33Color y4.Left) fun r11 => (cond (!r11) (some (.ret false)) (bnd (F_spec_l33Color y4.Bottom) fun r14 => (cond (!r14) (some (.ret false)) (bnd (F_spec_l33Color y4.Right) fun r17 => (cond (!r17) (some (.ret false)) (bnd (F_spec_l33Color y4.Top) fun r20 => (cond (!r20) (some (.ret false)) (some (.brk ()))))))))) : Option (Out (Unit) Bool)) (Out.elim (fun (s9 : Unit) => bnd (run (F_spec_l33Is_L2 p0 s1 y4) 0) (Out.elim (fun (s23 : Int) => some (.inl (w64 (s1 + 1)))) (fun (r : Bool) => some (.inr (.ret r))))) (fun (r : Bool) => some (.inr (.ret r))))) (some (.inr (.brk s1))))

noncomputable def F_spec_l33Is (p0 : (List GTile)) : Option (Bool) :=
  bnd (run (F_spec_l33Is_L1 p0) 0) (Out.elim (fun (s1 : Int) => (cond (decide (0 < (p0.length : Int))) (some (decide ((p0.length : Int) ≤ 300))) (some false))) (fun (r : Bool) => some r))

noncomputable def F_spec_l33Frame_L1 (p0 : (List Int)) (s1 : Int) : Option ((Int) ⊕ Out (Int) Bool) :=
  (cond (decide (s1 < (p0.length : Int))) (bnd (idx p0 s1) fun y4 => bnd (F_spec_l33Color y4) fun r8 => (cond (!r8) (some (.inr (.ret false))) (some (.inl (w64 (s1 + 1)))))) (some (.inr (.brk s1))))

noncomputable def F_spec_l33Frame (p0 : (List Int)) : Option (Bool) :=
  bnd (run (F_spec_l33Frame_L1 p0) 0) (Out.elim (fun (s1 : Int) => (cond (decide (0 < (p0.length : Int))) (some (decide ((p0.length : Int) ≤ 30))) (some false))) (fun (r : Bool) => some r))


noncomputable def F_spec_l05Budget (p0 : Int) : Option (Bool) :=
  bnd (F_spec_l00In p0 1 20000) fun r1 => some r1


noncomputable def F_spec_l33Ask (p0 : (List GTile)) (p1 : (List Int)) (p2 : Int) (p3 : Int) : Option (Int) :=
  bnd (F_spec_l33Is p0) fun r1 => (cond (!r1) (some 1) (bnd (F_spec_l33Frame p1) fun r4 => (cond (!r4) (some 2) (bnd (F_spec_l00In p2 1 40) fun r7 => (cond (!r7) (some 2) (bnd (F_spec_l05Budget p3) fun r10 => (cond (!r10) (some 2) (some 0))))))))

noncomputable def F_spec_l33Search_fill_L1 (p0 : Gl33Search) (rec_ : Gl33Search → Option ((Bool) × (Int × Int × Bool × (List Int)))) (s2 : Int) (s29 : Int) (s48 : Int × Int × Bool × (List Int) × Int) : Option ((Int × Int × Bool × (List Int) × Int) ⊕ Out (Int × Int × Bool × (List Int) × Int) ((Bool) × (Int × Int × Bool × (List Int)))) :=
  (cond (decide (s48.2.2.2.2 < (p0.list.length : Int))) (bnd (idx p0.list s48.2.2.2.2) fun y51 => bnd ((cond (decide (y51.Left ≠ s2)) (some (.brk true)) (cond (decide (y51.Bottom ≠ s29)) (some (.brk true)) (bnd (nz (p0.bottom.length : Int)) fun u60 => (cond (decide ((Int.tmod (p0.tiles.length : Int) (p0.bottom.length : Int)) = (w64 ((p0.bottom.length : Int) - 1)))) (some (.brk (decide (y51.Right ≠ 0)))) (some (.brk false)))))) : Option (Out (Bool) ((Bool) × (Int × Int × Bool × (List Int))))) (Out.elim (fun (s56 : Bool) => (cond s56 (some (.inl (s48.1, s48.2.1, s48.2.2.1, s48.2.2.2.1, (w64 (s48.2.2.2.2 + 1))))) (cond (decide (s48.1 = p0.budget)) (some (.inr (.ret (true, (s48.1, s48.2.1, true, s48.2.2.2.1))))) (bnd (app s48.2.2.2.1 ([s48.2.2.2.2] : List Int)) fun z66 => bnd (rec_ (⟨p0.list, p0.bottom, p0.size, p0.budget, p0.all, (w64 (s48.1 + 1)), s48.2.1, s48.2.2.1, z66⟩ : Gl33Search)) fun r69 => (cond r69.1 (some (.inr (.ret (true, (r69.2.1, r69.2.2.1, r69.2.2.2.1, r69.2.2.2.2))))) (bnd (slc r69.2.2.2.2 0 (p0.tiles.length : Int)) fun z73 => some (.inl (r69.2.1, r69.2.2.1, r69.2.2.2.1, z73, (w64 (s48.2.2.2.2 + 1)))))))))) (fun (r : (Bool) × (Int × Int × Bool × (List Int))) => some (.inr (.ret r))))) (some (.inr (.brk (s48.1, s48.2.1, s48.2.2.1, s48.2.2.2.1, s48.2.2.2.2)))))

noncomputable def F_spec_l33Search_fill_step (rec_ : Gl33Search → Option ((Bool) × (Int × Int × Bool × (List Int)))) (p0 : Gl33Search) : Option ((Bool) × (Int × Int × Bool × (List Int))) :=
  (cond (decide ((p0.tiles.length : Int) = p0.size)) (some ((!p0.all), (p0.steps, (w64 (p0.count + 1)), p0.full, p0.tiles))) (bnd (bnd (nz (p0.bottom.length : Int)) fun u4 => (cond (decide (0 < (Int.tmod (p0.tiles.length : Int) (p0.bottom.length : Int)))) (bnd (idx p0.tiles (w64 ((p0.tiles.length : Int) - 1))) fun y7 => bnd (idx p0.list y7) fun y15 => some (.brk y15.Right)) (some (.brk 0))) : Option (Out (Int) ((Bool) × (Int × Int × Bool × (List Int))))) (Out.elim (fun (s2 : Int) => bnd (nz (p0.bottom.length : Int)) fun u23 => bnd (idx p0.bottom (Int.tmod (p0.tiles.length : Int) (p0.bottom.length : Int))) fun y25 => bnd ((cond (decide ((p0.bottom.length : Int) ≤ (p0.tiles.length : Int))) (bnd (idx p0.tiles (w64 ((p0.tiles.length : Int) - (p0.bottom.length : Int)))) fun y32 => bnd (idx p0.list y32) fun y40 => some (.brk y40.Top)) (some (.brk y25))) : Option (Out (Int) ((Bool) × (Int × Int × Bool × (List Int))))) (Out.elim (fun (s29 : Int) => bnd (run (F_spec_l33Search_fill_L1 p0 rec_ s2 s29) (p0.steps, p0.count, p0.full, p0.tiles, 0)) (Out.elim (fun (s48 : Int × Int × Bool × (List Int) × Int) => some (false, (s48.1, s48.2.1, s48.2.2.1, s48.2.2.2.1))) (fun (r : (Bool) × (Int × Int × Bool × (List Int))) => some r))) (fun (r : (Bool) × (Int × Int × Bool × (List Int))) => some r))) (fun (r : (Bool) × (Int × Int × Bool × (List Int))) => some r))))
noncomputable def F_spec_l33Search_fill (p0 : Gl33Search) : Option ((Bool) × (Int × Int × Bool × (List Int))) := fixR (fun (rec_ : Gl33Search → Option ((Bool) × (Int × Int × Bool × (List Int)))) (a_ : Gl33Search) => F_spec_l33Search_fill_step (fun p0 => rec_ p0) a_) p0


noncomputable def F_spec_l00Own (p0 : (List Int)) : Option ((List Int)) :=
  bnd (app ([] : List Int) p0) fun z2 => some z2

noncomputable def F_spec_SolveTiling_L1 (p1 : (List Int)) (r5 : (Bool) × (Int × Int × Bool × (List Int))) (s11 : (List (List Int)) × Int) : Option (((List (List Int)) × Int) ⊕ Out ((List (List Int)) × Int) ((List (List Int)) × Int)) :=
  (cond (decide (s11.2 < (r5.2.2.2.2.length : Int))) (bnd (slc r5.2.2.2.2 s11.2 (w64 (s11.2 + (p1.length : Int)))) fun z14 => bnd (F_spec_l00Own z14) fun r17 => bnd (app s11.1 ([r17] : List (List Int))) fun z21 => some (.inl (z21, (w64 (s11.2 + (p1.length : Int)))))) (some (.inr (.brk (s11.1, s11.2)))))

noncomputable def F_spec_SolveTiling (p0 : (List GTile)) (p1 : (List Int)) (p2 : Int) (p3 : Int) : Option ((List (List Int)) × Int) :=
  bnd (F_spec_l33Ask p0 p1 p2 p3) fun r1 => (cond (decide (r1 ≠ 0)) (some (([] : (List (List Int))), r1)) (bnd (F_spec_l33Search_fill (⟨p0, p1, (w64 ((p1.length : Int) * p2)), p3, false, 0, 0, false, ([] : (List Int))⟩ : Gl33Search)) fun r5 => (cond r5.2.2.2.1 (some (([] : (List (List Int))), 5)) (cond (decide (r5.2.2.1 = 0)) (some (([] : (List (List Int))), 3)) (bnd (run (F_spec_SolveTiling_L1 p1 r5) (([] : List (List Int)), 0)) (Out.elim (fun (s11 : (List (List Int)) × Int) => some (s11.1, 0)) (fun (r : (List (List Int)) × Int) => some r)))))))


noncomputable def F_impl_size_impl_Tile (p0 : (List GTile)) : Option (Int) :=
  some (p0.length : Int)


noncomputable def F_impl_within (p0 : Int) (p1 : Int) (p2 : Int) : Option (Bool) :=
  (cond (decide (p1 ≤ p0)) (some (decide (p0 ≤ p2))) (some false))

noncomputable def F_impl_allWithin_L1 (p0 : (List Int)) (p1 : Int) (p2 : Int) (s1 : Int) : Option ((Int) ⊕ Out (Int) Bool) :=
  (cond (decide (s1 < (p0.length : Int))) (bnd (idx p0 s1) fun y4 => bnd (F_impl_within y4 p1 p2) fun r8 => (cond (!r8) (some (.inr (.ret false))) (some (.inl (w64 (s1 + 1)))))) (some (.inr (.brk s1))))

noncomputable def F_impl_allWithin (p0 : (List Int)) (p1 : Int) (p2 : Int) : Option (Bool) :=
  bnd (run (F_impl_allWithin_L1 p0 p1 p2) 0) (Out.elim (fun (s1 : Int) => some true) (fun (r : Bool) => some r))


noncomputable def F_impl_colorsOk (p0 : (List Int)) : Option (Bool) :=
  bnd (F_impl_allWithin p0 0 9999) fun r1 => some r1

noncomputable def F_slices_Index_Simpl_Tile_impl_Tile_L1 (p0 : (List GTile)) (p1 : GTile) (s2 : Int) : Option ((Int) ⊕ Out (Int) Int) :=
  (cond (decide (s2 < (p0.length : Int))) (bnd (idx p0 s2) fun y5 => (cond (decide (p1 = y5)) (some (.inr (.ret s2))) (some (.inl (w64 (s2 + 1)))))) (some (.inr (.brk s2))))

noncomputable def F_slices_Index_Simpl_Tile_impl_Tile (p0 : (List GTile)) (p1 : GTile) : Option (Int) :=
  bnd (run (F_slices_Index_Simpl_Tile_impl_Tile_L1 p0 p1) 0) (Out.elim (fun (s2 : Int) => some (-1)) (fun (r : Int) => some r))

noncomputable def F_impl_ValidTiles_L1 (p0 : (List GTile)) (s6 : Int) : Option ((Int) ⊕ Out (Int) Bool) :=
  (cond (decide (s6 < (p0.length : Int))) (bnd (idx p0 s6) fun y9 => bnd (F_impl_colorsOk ([y9.Left, y9.Bottom, y9.Right, y9.Top] : List Int)) fun r15 => (cond (!r15) (some (.inr (.ret false))) (bnd (F_slices_Index_Simpl_Tile_impl_Tile p0 y9) fun r18 => (cond (decide (r18 ≠ s6)) (some (.inr (.ret false))) (some (.inl (w64 (s6 + 1)))))))) (some (.inr (.brk s6))))

noncomputable def F_impl_ValidTiles (p0 : (List GTile)) : Option (Bool) :=
  bnd (F_impl_size_impl_Tile p0) fun r1 => bnd (F_impl_within r1 1 300) fun r3 => (cond (!r3) (some false) (bnd (run (F_impl_ValidTiles_L1 p0) 0) (Out.elim (fun (s6 : Int) => some true) (fun (r : Bool) => some r))))


noncomputable def F_impl_size_int64 (p0 : (List Int)) : Option (Int) :=
  some (p0.length : Int)


noncomputable def F_impl_isFrame (p0 : (List Int)) : Option (Bool) :=
  bnd (F_impl_size_int64 p0) fun r1 => bnd (F_impl_within r1 1 30) fun r3 => (cond r3 (bnd (F_impl_colorsOk p0) fun r6 => some r6) (some false))


noncomputable def F_impl_budgetOk (p0 : Int) : Option (Bool) :=
  bnd (F_impl_within p0 1 20000) fun r1 => some r1


noncomputable def F_impl_fitsAt (p0 : GTile) (p1 : Int) (p2 : Int) (p3 : Bool) : Option (Bool) :=
  (cond (decide (p0.Left = p1)) (cond (decide (p0.Bottom = p2)) (cond (!p3) (some true) (some (decide (p0.Right = 0)))) (some false)) (some false))

noncomputable def F_slices_Chunk_Sint64_int64_1_L1 (p0 : ((List Int) → Option Bool)) (p1 : (List Int)) (p2 : Int) (s1 : Int) : Option ((Int) ⊕ Out (Int) Unit) :=
  (cond (decide (s1 < (p1.length : Int))) (bnd (slc p1 s1 (p1.length : Int)) fun z7 => bnd (slc p1 s1 (w64 (s1 + (if (z7.length : Int) < p2 then (z7.length : Int) else p2)))) fun z14 => bnd (p0 z14) fun r17 => (cond (!r17) (some (.inr (.ret ()))) (some (.inl (w64 (s1 + p2)))))) (some (.inr (.brk s1))))

noncomputable def F_slices_Chunk_Sint64_int64_1 (p0 : ((List Int) → Option Bool)) (p1 : (List Int)) (p2 : Int) : Option (Unit) :=
  bnd (run (F_slices_Chunk_Sint64_int64_1_L1 p0 p1 p2) 0) (Out.elim (fun (s1 : Int) => some ()) (fun (r : Unit) => some r))


noncomputable def F_slices_Clone_Sint64_int64 (p0 : (List Int)) : Option ((List Int)) :=
  bnd (app ([] : List Int) p0) fun z3 => some z3

noncomputable def F_impl_tiler_fill_impl_SolveTiling_1_L1 (p0 : Gtiler) (p1 : Int) (rec_ : Gtiler → Int → Bool → Option ((Bool × Bool) × ((List Int) × Int × Bool))) (s9 : Int) (s30 : Int) (s49 : (List Int) × Int × Bool × Int) : Option (((List Int) × Int × Bool × Int) ⊕ Out ((List Int) × Int × Bool × Int) ((Bool × Bool) × ((List Int) × Int × Bool))) :=
  (cond (decide (s49.2.2.2 < (p0.list.length : Int))) (bnd (idx p0.list s49.2.2.2) fun y52 => bnd (nz (p0.bottom.length : Int)) fun u57 => bnd (F_impl_fitsAt y52 s9 s30 (decide ((Int.tmod p1 (p0.bottom.length : Int)) = (w64 ((p0.bottom.length : Int) - 1))))) fun r62 => (cond (!r62) (some (.inl (s49.1, s49.2.1, s49.2.2.1, (w64 (s49.2.2.2 + 1))))) (cond (decide (s49.2.1 = 0)) (some (.inr (.ret ((false, false), (s49.1, s49.2.1, s49.2.2.1))))) (bnd (idx s49.1 p1) fun y66 => bnd (rec_ (⟨p0.list, p0.bottom, (s49.1.set p1.toNat s49.2.2.2), (w64 (s49.2.1 - 1))⟩ : Gtiler) (w64 (p1 + 1)) s49.2.2.1) fun r70 => (cond (!r70.1.1) (some (.inr (.ret ((false, r70.1.2), (r70.2.1, r70.2.2.1, r70.2.2.2))))) (some (.inl (r70.2.1, r70.2.2.1, r70.2.2.2, (w64 (s49.2.2.2 + 1)))))))))) (some (.inr (.brk (s49.1, s49.2.1, s49.2.2.1, s49.2.2.2)))))

noncomputable def F_impl_tiler_fill_impl_SolveTiling_1_step (rec_ : Gtiler → Int → Bool → Option ((Bool × Bool) × ((List Int) × Int × Bool))) (p0 : Gtiler) (p1 : Int) (p3 : Bool) : Option ((Bool × Bool) × ((List Int) × Int × Bool)) :=
  (cond (decide (p1 = (p0.places.length : Int))) (some ((false, true), (p0.places, p0.left, true))) (bnd (nz (p0.bottom.length : Int)) fun u3 => bnd (idx p0.bottom (Int.tmod p1 (p0.bottom.length : Int))) fun y5 => bnd (bnd (nz (p0.bottom.length : Int)) fun u11 => (cond (decide (0 < (Int.tmod p1 (p0.bottom.length : Int)))) (bnd (idx p0.places (w64 (p1 - 1))) fun y14 => bnd (idx p0.list y14) fun y22 => some (.brk y22.Right)) (some (.brk 0))) : Option (Out (Int) ((Bool × Bool) × ((List Int) × Int × Bool)))) (Out.elim (fun (s9 : Int) => bnd ((cond (decide ((p0.bottom.length : Int) ≤ p1)) (bnd (idx p0.places (w64 (p1 - (p0.bottom.length : Int)))) fun y33 => bnd (idx p0.list y33) fun y41 => some (.brk y41.Top)) (some (.brk y5))) : Option (Out (Int) ((Bool × Bool) × ((List Int) × Int × Bool)))) (Out.elim (fun (s30 : Int) => bnd (run (F_impl_tiler_fill_impl_SolveTiling_1_L1 p0 p1 rec_ s9 s30) (p0.places, p0.left, p3, 0)) (Out.elim (fun (s49 : (List Int) × Int × Bool × Int) => some ((true, true), (s49.1, s49.2.1, s49.2.2.1))) (fun (r : (Bool × Bool) × ((List Int) × Int × Bool)) => some r))) (fun (r : (Bool × Bool) × ((List Int) × Int × Bool)) => some r))) (fun (r : (Bool × Bool) × ((List Int) × Int × Bool)) => some r))))
noncomputable def F_impl_tiler_fill_impl_SolveTiling_1 (p0 : Gtiler) (p1 : Int) (p3 : Bool) : Option ((Bool × Bool) × ((List Int) × Int × Bool)) := fixR (fun (rec_ : (Gtiler × Int × Bool) → Option ((Bool × Bool) × ((List Int) × Int × Bool))) (a_ : Gtiler × Int × Bool) => F_impl_tiler_fill_impl_SolveTiling_1_step (fun p0 p1 p3 => rec_ (p0, p1, p3)) a_.1 a_.2.1 a_.2.2) (p0, p1, p3)

noncomputable def F_impl_SolveTiling_L1 (p1 : (List Int)) (r21 : (Bool × Bool) × ((List Int) × Int × Bool)) (s38 : Int × (List (List Int))) : Option ((Int × (List (List Int))) ⊕ Out (Int × (List (List Int))) (Option ((List (List Int)) × Int))) :=
  (cond (decide (s38.1 < (r21.2.1.length : Int))) (bnd (slc r21.2.1 s38.1 (r21.2.1.length : Int)) fun z41 => bnd (slc r21.2.1 s38.1 (w64 (s38.1 + (if (z41.length : Int) < (p1.length : Int) then (z41.length : Int) else (p1.length : Int))))) fun z47 => bnd (F_slices_Clone_Sint64_int64 z47) fun r55 => bnd (app s38.2 ([r55] : List (List Int))) fun z59 => some (.inl ((w64 (s38.1 + (p1.length : Int))), z59))) (some (.inr (.brk (s38.1, s38.2)))))

noncomputable def F_impl_SolveTiling (p0 : (List GTile)) (p1 : (List Int)) (p2 : Int) (p3 : Int) : Option ((List (List Int)) × Int) :=
  bnd (F_impl_ValidTiles p0) fun r2 => (cond (!r2) (some (([] : (List (List Int))), 1)) (bnd (F_impl_isFrame p1) fun r5 => (cond (!r5) (some (([] : (List (List Int))), 2)) (bnd (F_impl_within p2 1 40) fun r8 => (cond (!r8) (some (([] : (List (List Int))), 2)) (bnd (F_impl_budgetOk p3) fun r11 => (cond (!r11) (some (([] : (List (List Int))), 2)) (bnd (F_impl_size_int64 p1) fun r14 => bnd (mke (w64 (r14 * p2)) (0 : Int)) fun z16 => bnd (F_impl_tiler_fill_impl_SolveTiling_1 (⟨p0, p1, z16, p3⟩ : Gtiler) 0 false) fun r21 => (cond (!r21.1.2) (some (([] : (List (List Int))), 5)) (cond (!r21.2.2.2) (some (([] : (List (List Int))), 3)) (cond (decide ((p1.length : Int) < 1)) none (bnd (run (F_impl_SolveTiling_L1 p1 r21) (0, ([] : List (List Int)))) (Out.elim (fun (s38 : Int × (List (List Int))) => some (s38.2, 0)) (fun (r : Option ((List (List Int)) × Int)) => r))))))))))))))

noncomputable def F_laws_eqInt64S_L1 (p0 : (List Int)) (p1 : (List Int)) (s2 : Int) : Option ((Int) ⊕ Out (Int) Bool) :=
  (cond (decide (s2 < (p0.length : Int))) (bnd (idx p0 s2) fun y5 => bnd (idx p1 s2) fun y9 => (cond (decide (y5 ≠ y9)) (some (.inr (.ret false))) (some (.inl (w64 (s2 + 1)))))) (some (.inr (.brk s2))))

noncomputable def F_laws_eqInt64S (p0 : (List Int)) (p1 : (List Int)) : Option (Bool) :=
  (cond (decide ((p0.length : Int) ≠ (p1.length : Int))) (some false) (bnd (run (F_laws_eqInt64S_L1 p0 p1) 0) (Out.elim (fun (s2 : Int) => some true) (fun (r : Bool) => some r))))

noncomputable def F_laws_eqInt64SS_L1 (p0 : (List (List Int))) (p1 : (List (List Int))) (s2 : Int) : Option ((Int) ⊕ Out (Int) Bool) :=
  (cond (decide (s2 < (p0.length : Int))) (bnd (idx p0 s2) fun y5 => bnd (idx p1 s2) fun y9 => bnd (F_laws_eqInt64S y5 y9) fun r16 => (cond (!r16) (some (.inr (.ret false))) (some (.inl (w64 (s2 + 1)))))) (some (.inr (.brk s2))))

noncomputable def F_laws_eqInt64SS (p0 : (List (List Int))) (p1 : (List (List Int))) : Option (Bool) :=
  (cond (decide ((p0.length : Int) ≠ (p1.length : Int))) (some false) (bnd (run (F_laws_eqInt64SS_L1 p0 p1) 0) (Out.elim (fun (s2 : Int) => some true) (fun (r : Bool) => some r))))


noncomputable def F_laws_eqTile (p0 : GTile) (p1 : GTile) : Option (Bool) :=
  (cond (decide (p0.Left ≠ p1.Left)) (some false) (cond (decide (p0.Bottom ≠ p1.Bottom)) (some false) (cond (decide (p0.Right ≠ p1.Right)) (some false) (cond (decide (p0.Top ≠ p1.Top)) (some false) (some true)))))

noncomputable def F_laws_eqTileS_L1 (p0 : (List GTile)) (p1 : (List GTile)) (s2 : Int) : Option ((Int) ⊕ Out (Int) Bool) :=
  (cond (decide (s2 < (p0.length : Int))) (bnd (idx p0 s2) fun y5 => bnd (idx p1 s2) fun y9 => bnd (F_laws_eqTile y5 y9) fun r16 => (cond (!r16) (some (.inr (.ret false))) (some (.inl (w64 (s2 + 1)))))) (some (.inr (.brk s2))))

noncomputable def F_laws_eqTileS (p0 : (List GTile)) (p1 : (List GTile)) : Option (Bool) :=
  (cond (decide ((p0.length : Int) ≠ (p1.length : Int))) (some false) (bnd (run (F_laws_eqTileS_L1 p0 p1) 0) (Out.elim (fun (s2 : Int) => some true) (fun (r : Bool) => some r))))

noncomputable def F_laws_markTileS_L1 (s1 : (List GTile) × Int × Int) : Option (((List GTile) × Int × Int) ⊕ Out ((List GTile) × Int × Int) (Int × (List GTile))) :=
  (cond (decide (s1.2.2 < (s1.1.length : Int))) (bnd (idx s1.1 s1.2.2) fun y4 => bnd (idx (s1.1.set s1.2.2.toNat (⟨s1.2.1, y4.Bottom, y4.Right, y4.Top⟩ : GTile)) s1.2.2) fun y9 => bnd (idx ((s1.1.set s1.2.2.toNat (⟨s1.2.1, y4.Bottom, y4.Right, y4.Top⟩ : GTile)).set s1.2.2.toNat (⟨y9.Left, (w64 (s1.2.1 + 1)), y9.Right, y9.Top⟩ : GTile)) s1.2.2) fun y11 => bnd (idx (((s1.1.set s1.2.2.toNat (⟨s1.2.1, y4.Bottom, y4.Right, y4.Top⟩ : GTile)).set s1.2.2.toNat (⟨y9.Left, (w64 (s1.2.1 + 1)), y9.Right, y9.Top⟩ : GTile)).set s1.2.2.toNat (⟨y11.Left, y11.Bottom, (w64 ((w64 (s1.2.1 + 1)) + 1)), y11.Top⟩ : GTile)) s1.2.2) fun y13 => some (.inl (((((s1.1.set s1.2.2.toNat (⟨s1.2.1, y4.Bottom, y4.Right, y4.Top⟩ : GTile)).set s1.2.2.toNat (⟨y9.Left, (w64 (s1.2.1 + 1)), y9.Right, y9.Top⟩ : GTile)).set s1.2.2.toNat (⟨y11.Left, y11.Bottom, (w64 ((w64 (s1.2.1 + 1)) + 1)), y11.Top⟩ : GTile)).set s1.2.2.toNat (⟨y13.Left, y13.Bottom, y13.Right, (w64 ((w64 ((w64 (s1.2.1 + 1)) + 1)) + 1))⟩ : GTile)), (w64 ((w64 ((w64 ((w64 (s1.2.1 + 1)) + 1)) + 1)) + 1)), (w64 (s1.2.2 + 1))))) (some (.inr (.brk (s1.1, s1.2.1, s1.2.2)))))

noncomputable def F_laws_markTileS (p0 : (List GTile)) (p1 : Int) : Option (Int × (List GTile)) :=
  bnd (run (F_laws_markTileS_L1) (p0, p1, 0)) (Out.elim (fun (s1 : (List GTile) × Int × Int) => some (s1.2.1, s1.1)) (fun (r : Int × (List GTile)) => some r))

noncomputable def F_laws_markInt64S_L1 (s1 : (List Int) × Int × Int) : Option (((List Int) × Int × Int) ⊕ Out ((List Int) × Int × Int) (Int × (List Int))) :=
  (cond (decide (s1.2.2 < (s1.1.length : Int))) (bnd (idx s1.1 s1.2.2) fun y4 => some (.inl ((s1.1.set s1.2.2.toNat s1.2.1), (w64 (s1.2.1 + 1)), (w64 (s1.2.2 + 1))))) (some (.inr (.brk (s1.1, s1.2.1, s1.2.2)))))

noncomputable def F_laws_markInt64S (p0 : (List Int)) (p1 : Int) : Option (Int × (List Int)) :=
  bnd (run (F_laws_markInt64S_L1) (p0, p1, 0)) (Out.elim (fun (s1 : (List Int) × Int × Int) => some (s1.2.1, s1.1)) (fun (r : Int × (List Int)) => some r))

noncomputable def F_laws_markInt64SS_L1 (s1 : (List (List Int)) × Int × Int) : Option (((List (List Int)) × Int × Int) ⊕ Out ((List (List Int)) × Int × Int) (Int × (List (List Int)))) :=
  (cond (decide (s1.2.2 < (s1.1.length : Int))) (bnd (idx s1.1 s1.2.2) fun y4 => bnd (F_laws_markInt64S y4 s1.2.1) fun r10 => some (.inl ((s1.1.set s1.2.2.toNat r10.2), r10.1, (w64 (s1.2.2 + 1))))) (some (.inr (.brk (s1.1, s1.2.1, s1.2.2)))))

noncomputable def F_laws_markInt64SS (p0 : (List (List Int))) (p1 : Int) : Option (Int × (List (List Int))) :=
  bnd (run (F_laws_markInt64SS_L1) (p0, p1, 0)) (Out.elim (fun (s1 : (List (List Int)) × Int × Int) => some (s1.2.1, s1.1)) (fun (r : Int × (List (List Int))) => some r))

noncomputable def F_laws_heldInt64S_L1 (p0 : (List Int)) (s1 : Int × Int) : Option ((Int × Int) ⊕ Out (Int × Int) Int) :=
  (cond (decide (s1.2 < (p0.length : Int))) (bnd (idx p0 s1.2) fun y4 => (cond (decide (y4 ≠ s1.1)) (some (.inr (.ret (-1)))) (some (.inl ((w64 (s1.1 + 1)), (w64 (s1.2 + 1))))))) (some (.inr (.brk (s1.1, s1.2)))))

noncomputable def F_laws_heldInt64S (p0 : (List Int)) (p1 : Int) : Option (Int) :=
  bnd (run (F_laws_heldInt64S_L1 p0) (p1, 0)) (Out.elim (fun (s1 : Int × Int) => some s1.1) (fun (r : Int) => some r))

noncomputable def F_laws_heldInt64SS_L1 (p0 : (List (List Int))) (s1 : Int × Int) : Option ((Int × Int) ⊕ Out (Int × Int) Int) :=
  (cond (decide (s1.2 < (p0.length : Int))) (bnd (idx p0 s1.2) fun y4 => bnd (F_laws_heldInt64S y4 s1.1) fun r8 => (cond (decide (r8 < 0)) (some (.inr (.ret (-1)))) (some (.inl (r8, (w64 (s1.2 + 1))))))) (some (.inr (.brk (s1.1, s1.2)))))

noncomputable def F_laws_heldInt64SS (p0 : (List (List Int))) (p1 : Int) : Option (Int) :=
  bnd (run (F_laws_heldInt64SS_L1 p0) (p1, 0)) (Out.elim (fun (s1 : Int × Int) => some s1.1) (fun (r : Int) => some r))


noncomputable def F_laws_FnExactSolveTiling (p0 : (List GTile)) (p1 : (List Int)) (p2 : Int) (p3 : Int) : Option (Bool) :=
  (cond (decide (1048576 < (p1.length : Int))) (some true) (bnd (F_laws_szTileS p0 1048576) fun r2 => (cond (decide (r2 < 0)) (some true) (bnd (F_laws_toTileS p0) fun r5 => bnd (F_laws_toInt64S p1) fun r8 => bnd (F_spec_SolveTiling r5 r8 p2 p3) fun r11 => bnd (F_laws_toTileS p0) fun r14 => bnd (F_laws_toInt64S p1) fun r17 => bnd (F_impl_SolveTiling r14 r17 p2 p3) fun r20 => bnd (bnd (F_laws_eqInt64SS r20.1 r11.1) fun r25 => (cond (!r25) (some (.ret false)) (cond (decide (r20.2 ≠ r11.2)) (some (.ret false)) (some (.brk ())))) : Option (Out (Unit) Bool)) (Out.elim (fun (s23 : Unit) => bnd (F_laws_toTileS p0) fun r29 => bnd (F_laws_eqTileS r14 r29) fun r32 => (cond (!r32) (some false) (bnd (F_laws_toInt64S p1) fun r35 => bnd (F_laws_eqInt64S r17 r35) fun r38 => (cond (!r38) (some false) (bnd (F_laws_markTileS r14 1) fun r41 => bnd (F_laws_markInt64S r17 r41.1) fun r43 => bnd ((cond (decide (r43.1 < 0)) (some (.ret false)) (bnd (F_laws_eqInt64SS r20.1 r11.1) fun r48 => (cond (!r48) (some (.ret false)) (cond (decide (r20.2 ≠ r11.2)) (some (.ret false)) (some (.brk ())))))) : Option (Out (Unit) Bool)) (Out.elim (fun (s45 : Unit) => bnd (F_laws_markInt64SS r20.1 1) fun r52 => bnd (F_laws_heldInt64SS r52.2 1) fun r54 => (cond (decide (r54 < 0)) (some false) (cond (decide (r54 ≠ r52.1)) (some false) (bnd (F_laws_toTileS p0) fun r58 => bnd (F_laws_toInt64S p1) fun r61 => bnd (F_impl_SolveTiling r58 r61 p2 p3) fun r64 => bnd (F_laws_eqInt64SS r64.1 r11.1) fun r67 => (cond (!r67) (some false) (cond (decide (r64.2 ≠ r11.2)) (some false) (bnd (F_laws_heldInt64SS r52.2 1) fun r71 => (cond (decide (r71 < 0)) (some false) (cond (decide (r71 ≠ r52.1)) (some false) (some true)))))))))) (fun (r : Bool) => some r))))))) (fun (r : Bool) => some r))))))


noncomputable def F_laws_r8Long (p0 : (List (Ik .u8))) (p1 : (List (Ik .u8))) : Option (Bool) :=
  (cond (decide (1048576 < (p0.length : Int))) (some true) (some (decide (1048576 < (p1.length : Int)))))


noncomputable def F_spec_l00From (p0 : (List (Ik .u8))) : Option (((List (Ik .u8)) × Int × (Ik .u64))) :=
  some (p0, 0, (⟨0⟩ : Ik .u64))


noncomputable def F_spec_l00Src_next (p0 : Gl00Src) : Option ((Int) × (Int × (Ik .u64))) :=
  bnd ((cond (decide (p0.at_ < (p0.code.length : Int))) (bnd (idx p0.code p0.at_) fun y4 => some (.brk (w64 y4.val))) (some (.brk 0))) : Option (Out (Int) ((Int) × (Int × (Ik .u64))))) (Out.elim (fun (s1 : Int) => (cond (decide ((w64 (p0.at_ + 1)) ≤ (p0.code.length : Int))) (some (s1, ((w64 (p0.at_ + 1)), (⟨(wk .u64 ((wk .u64 ((wk .u64 (p0.seed.val * 6364136223846793005)) + (wk .u64 s1))) + 1442695040888963407))⟩ : Ik .u64)))) (some ((w64 (kand .u64 (Int.fdiv (wk .u64 ((wk .u64 ((wk .u64 (p0.seed.val * 6364136223846793005)) + (wk .u64 s1))) + 1442695040888963407)) (2 ^ min (40 : Int).toNat (IntKind.bits .u64))) 255)), ((w64 (p0.at_ + 1)), (⟨(wk .u64 ((wk .u64 ((wk .u64 (p0.seed.val * 6364136223846793005)) + (wk .u64 s1))) + 1442695040888963407))⟩ : Ik .u64)))))) (fun (r : (Int) × (Int × (Ik .u64))) => some r))


noncomputable def F_spec_l00Src_pick (p0 : Gl00Src) (p1 : Int) : Option ((Int) × (Int × (Ik .u64))) :=
  (cond (decide (p1 ≤ 1)) (some (0, (p0.at_, p0.seed))) (bnd (F_spec_l00Src_next p0) fun r2 => (cond (decide (200 < p1)) (bnd (F_spec_l00Src_next (⟨p0.code, r2.2.1, r2.2.2⟩ : Gl00Src)) fun r5 => bnd (nz p1) fun u7 => some ((Int.tmod (w64 ((w64 (r2.1 * 256)) + r5.1)) p1), (r5.2.1, r5.2.2))) (bnd (nz p1) fun u9 => some ((Int.tmod r2.1 p1), (r2.2.1, r2.2.2))))))


noncomputable def F_spec_l00Src_one (p0 : Gl00Src) (p1 : Int) : Option ((Bool) × (Int × (Ik .u64))) :=
  bnd (F_spec_l00Src_pick p0 p1) fun r1 => some ((decide (r1.1 = 0)), (r1.2.1, r1.2.2))


noncomputable def F_spec_l00Src_text (p0 : Gl00Src) (p1 : (List ByteArray)) : Option ((ByteArray) × (Int × (Ik .u64))) :=
  bnd (F_spec_l00Src_pick p0 (p1.length : Int)) fun r1 => bnd (idx p1 r1.1) fun y3 => some (y3, (r1.2.1, r1.2.2))

noncomputable def F_spec_l01Split_L1 (p0 : ByteArray) (p1 : (Ik .u8)) (s2 : (List ByteArray) × Int × Int) : Option (((List ByteArray) × Int × Int) ⊕ Out ((List ByteArray) × Int × Int) (List ByteArray)) :=
  (cond (decide (s2.2.2 < (p0.size : Int))) (bnd (bidx p0 s2.2.2) fun y5 => (cond (decide (y5 = p1.val)) (bnd (bslc p0 s2.2.1 s2.2.2) fun z8 => bnd (app s2.1 ([z8] : List ByteArray)) fun z11 => some (.inl (z11, (w64 (s2.2.2 + 1)), (w64 (s2.2.2 + 1))))) (some (.inl (s2.1, s2.2.1, (w64 (s2.2.2 + 1))))))) (some (.inr (.brk (s2.1, s2.2.1, s2.2.2)))))

noncomputable def F_spec_l01Split (p0 : ByteArray) (p1 : (Ik .u8)) : Option ((List ByteArray)) :=
  bnd (run (F_spec_l01Split_L1 p0 p1) (([] : List ByteArray), 0, 0)) (Out.elim (fun (s2 : (List ByteArray) × Int × Int) => bnd (bslc p0 s2.2.1 (p0.size : Int)) fun z14 => bnd (app s2.1 ([z14] : List ByteArray)) fun z17 => some z17) (fun (r : (List ByteArray)) => some r))


noncomputable def F_spec_l05None : Option (GRule) :=
  some (⟨0, 0, (-1)⟩ : GRule)


noncomputable def F_spec_l01Digit (p0 : (Ik .u8)) : Option (Bool) :=
  (cond (decide (48 ≤ p0.val)) (some (decide (p0.val ≤ 57))) (some false))

noncomputable def F_spec_l01Number_L1 (p0 : ByteArray) (s15 : Int × Int) : Option ((Int × Int) ⊕ Out (Int × Int) (Int × Bool)) :=
  (cond (decide (s15.2 < (p0.size : Int))) (bnd (bidx p0 s15.2) fun y18 => bnd (F_spec_l01Digit (⟨y18⟩ : Ik .u8)) fun r20 => (cond (!r20) (some (.inr (.ret (0, false)))) (bnd (bidx p0 s15.2) fun y23 => some (.inl ((w64 ((w64 (10 * s15.1)) + (w64 (wk .u8 (y23 - 48))))), (w64 (s15.2 + 1))))))) (some (.inr (.brk (s15.1, s15.2)))))

noncomputable def F_spec_l01Number (p0 : ByteArray) : Option (Int × Bool) :=
  bnd ((cond (decide (0 < (p0.size : Int))) (bnd (bidx p0 0) fun y4 => (cond (decide (y4 = 45)) (some (.brk 1)) (some (.brk 0)))) (some (.brk 0))) : Option (Out (Int) (Int × Bool))) (Out.elim (fun (s1 : Int) => bnd ((cond (decide ((p0.size : Int) = s1)) (some (.ret (0, false))) (cond (decide (18 < (w64 ((p0.size : Int) - s1)))) (some (.ret (0, false))) (bnd (bidx p0 s1) fun y11 => (cond (decide (y11 = 48)) (cond (decide (1 < (p0.size : Int))) (some (.ret (0, false))) (some (.brk ()))) (some (.brk ())))))) : Option (Out (Unit) (Int × Bool))) (Out.elim (fun (s7 : Unit) => bnd (run (F_spec_l01Number_L1 p0) (0, s1)) (Out.elim (fun (s15 : Int × Int) => (cond (decide (s1 = 1)) (some ((w64 (0 - s15.1)), true)) (some (s15.1, true)))) (fun (r : Int × Bool) => some r))) (fun (r : Int × Bool) => some r))) (fun (r : Int × Bool) => some r))


noncomputable def F_spec_l05ReadRule (p0 : ByteArray) : Option (GRule × Bool) :=
  (cond (p0.toList == (⟨#[45, 45, 45]⟩ : ByteArray).toList) (bnd F_spec_l05None fun r3 => some (r3, true)) (bnd ((cond (decide ((p0.size : Int) < 3)) (some (.ret ((⟨0, 0, 0⟩ : GRule), false))) (bnd (bidx p0 0) fun y8 => bnd (F_spec_l01Digit (⟨y8⟩ : Ik .u8)) fun r10 => (cond (!r10) (some (.ret ((⟨0, 0, 0⟩ : GRule), false))) (bnd (bidx p0 1) fun y13 => (cond (decide (y13 ≠ 76)) (bnd (bidx p0 1) fun y16 => (cond (decide (y16 ≠ 82)) (some (.ret ((⟨0, 0, 0⟩ : GRule), false))) (some (.brk ())))) (some (.brk ()))))))) : Option (Out (Unit) (GRule × Bool))) (Out.elim (fun (s5 : Unit) => bnd (bslc p0 2 (p0.size : Int)) fun z19 => bnd (F_spec_l01Number z19) fun r21 => bnd (bidx p0 0) fun y23 => bnd (bidx p0 1) fun y26 => (cond (decide (y26 = 76)) (cond r21.2 (some ((⟨(w64 (wk .u8 (y23 - 48))), (-1), r21.1⟩ : GRule), (decide (0 ≤ r21.1)))) (some ((⟨(w64 (wk .u8 (y23 - 48))), (-1), r21.1⟩ : GRule), false))) (cond r21.2 (some ((⟨(w64 (wk .u8 (y23 - 48))), 1, r21.1⟩ : GRule), (decide (0 ≤ r21.1)))) (some ((⟨(w64 (wk .u8 (y23 - 48))), 1, r21.1⟩ : GRule), false))))) (fun (r : GRule × Bool) => some r))))


noncomputable def F_spec_l05Rule (p0 : GRule) (p1 : Int) (p2 : Int) : Option (Bool) :=
  bnd F_spec_l05None fun r5 => (cond (decide (p0 = r5)) (some true) (bnd (F_spec_l00In p0.Write 0 (w64 (p1 - 1))) fun r8 => (cond r8 (cond (decide (p0.Move = 1)) (bnd (F_spec_l00In p0.Next 0 (w64 (p2 - 1))) fun r12 => some r12) (cond (decide (p0.Move = (-1))) (bnd (F_spec_l00In p0.Next 0 (w64 (p2 - 1))) fun r15 => some r15) (some false))) (some false))))

noncomputable def F_spec_l05Is_L1 (p0 : GMachine) (s31 : Int) : Option ((Int) ⊕ Out (Int) Bool) :=
  (cond (decide (s31 < (p0.Rules.length : Int))) (bnd (idx p0.Rules s31) fun y38 => bnd (F_spec_l05Rule y38 p0.Symbols p0.States) fun r49 => (cond (!r49) (some (.inr (.ret false))) (some (.inl (w64 (s31 + 1)))))) (some (.inr (.brk s31))))

noncomputable def F_spec_l05Is (p0 : GMachine) : Option (Bool) :=
  bnd (bnd (F_spec_l00In p0.Symbols 2 6) fun r8 => (cond (!r8) (some (.ret false)) (bnd (F_spec_l00In p0.States 1 1000) fun r15 => (cond (!r15) (some (.ret false)) (cond (decide ((p0.Rules.length : Int) ≠ (w64 (p0.Symbols * p0.States)))) (some (.ret false)) (some (.brk ())))))) : Option (Out (Unit) Bool)) (Out.elim (fun (s1 : Unit) => bnd (run (F_spec_l05Is_L1 p0) 0) (Out.elim (fun (s31 : Int) => some true) (fun (r : Bool) => some r))) (fun (r : Bool) => some r))

noncomputable def F_spec_l05Read_L2 (r21 : (List ByteArray)) (s28 : (List GRule) × Int) : Option (((List GRule) × Int) ⊕ Out ((List GRule) × Int) (GMachine × Bool)) :=
  (cond (decide (s28.2 < (r21.length : Int))) (bnd (idx r21 s28.2) fun y31 => bnd (F_spec_l05ReadRule y31) fun r36 => (cond (!r36.2) (some (.inr (.ret ((⟨0, 0, ([] : (List GRule))⟩ : GMachine), false)))) (bnd (app s28.1 ([r36.1] : List GRule)) fun z41 => some (.inl (z41, (w64 (s28.2 + 1))))))) (some (.inr (.brk (s28.1, s28.2)))))

noncomputable def F_spec_l05Read_L1 (r2 : (List ByteArray)) (r11 : (List ByteArray)) (s15 : (List GRule) × Int) : Option (((List GRule) × Int) ⊕ Out ((List GRule) × Int) (GMachine × Bool)) :=
  (cond (decide (s15.2 < (r2.length : Int))) (bnd (idx r2 s15.2) fun y18 => bnd (F_spec_l01Split y18 (⟨44⟩ : Ik .u8)) fun r21 => bnd ((cond (decide ((r21.length : Int) ≠ (r11.length : Int))) (some (.ret ((⟨0, 0, ([] : (List GRule))⟩ : GMachine), false))) (cond (decide (6 < (r11.length : Int))) (some (.ret ((⟨0, 0, ([] : (List GRule))⟩ : GMachine), false))) (some (.brk ())))) : Option (Out (Unit) (GMachine × Bool))) (Out.elim (fun (s24 : Unit) => bnd (run (F_spec_l05Read_L2 r21) (s15.1, 0)) (Out.elim (fun (s28 : (List GRule) × Int) => some (.inl (s28.1, (w64 (s15.2 + 1))))) (fun (r : GMachine × Bool) => some (.inr (.ret r))))) (fun (r : GMachine × Bool) => some (.inr (.ret r))))) (some (.inr (.brk (s15.1, s15.2)))))

noncomputable def F_spec_l05Read (p0 : ByteArray) : Option (GMachine × Bool) :=
  bnd (F_spec_l01Split p0 (⟨59⟩ : Ik .u8)) fun r2 => (cond (decide (1000 < (r2.length : Int))) (some ((⟨0, 0, ([] : (List GRule))⟩ : GMachine), false)) (bnd (idx r2 0) fun y6 => bnd (F_spec_l01Split y6 (⟨44⟩ : Ik .u8)) fun r11 => bnd (run (F_spec_l05Read_L1 r2 r11) (([] : (List GRule)), 0)) (Out.elim (fun (s15 : (List GRule) × Int) => bnd (F_spec_l05Is (⟨(r11.length : Int), (r2.length : Int), s15.1⟩ : GMachine)) fun r44 => (cond (!r44) (some ((⟨0, 0, ([] : (List GRule))⟩ : GMachine), false)) (some ((⟨(r11.length : Int), (r2.length : Int), s15.1⟩ : GMachine), true)))) (fun (r : GMachine × Bool) => some r))))


noncomputable def F_spec_l05Known (p0 : Gl00Src) : Option ((GMachine) × (Int × (Ik .u64))) :=
  bnd (F_spec_l00Src_text p0 ([(⟨#[49, 82, 49, 44, 49, 76, 49, 59, 49, 76, 48, 44, 45, 45, 45]⟩ : ByteArray), (⟨#[49, 82, 49, 44, 45, 45, 45, 59, 49, 76, 49, 44, 48, 82, 50, 59, 49, 76, 50, 44, 49, 76, 48]⟩ : ByteArray), (⟨#[49, 82, 49, 44, 49, 76, 49, 59, 49, 76, 48, 44, 48, 76, 50, 59, 45, 45, 45, 44, 49, 76, 51, 59, 49, 82, 51, 44, 48, 82, 48]⟩ : ByteArray), (⟨#[49, 82, 48, 44, 45, 45, 45]⟩ : ByteArray), (⟨#[49, 82, 49, 44, 48, 82, 48, 59, 49, 76, 48, 44, 49, 82, 49]⟩ : ByteArray), (⟨#[49, 82, 49, 44, 50, 76, 49, 44, 45, 45, 45, 59, 50, 76, 48, 44, 50, 82, 49, 44, 49, 76, 49]⟩ : ByteArray), (⟨#[49, 76, 48, 44, 49, 82, 49, 59, 49, 82, 48, 44, 48, 76, 49]⟩ : ByteArray), (⟨#[49, 82, 49, 44, 49, 82, 48, 59, 49, 76, 48, 44, 49, 76, 49]⟩ : ByteArray)] : List ByteArray)) fun r3 => bnd (F_spec_l05Read r3.1) fun r5 => some (r5.1, (r3.2.1, r3.2.2))

noncomputable def F_spec_l05DrawSize_L1 (p0 : Gl00Src) (p1 : Int) (p2 : Int) (s3 : Int × (Ik .u64) × (List GRule) × Int) : Option ((Int × (Ik .u64) × (List GRule) × Int) ⊕ Out (Int × (Ik .u64) × (List GRule) × Int) ((GMachine) × (Int × (Ik .u64)))) :=
  (cond (decide (0 < s3.2.2.2)) (bnd (F_spec_l00Src_pick (⟨p0.code, s3.1, s3.2.1⟩ : Gl00Src) p1) fun r6 => bnd (F_spec_l00Src_pick (⟨p0.code, r6.2.1, r6.2.2⟩ : Gl00Src) 2) fun r8 => bnd (F_spec_l00Src_pick (⟨p0.code, r8.2.1, r8.2.2⟩ : Gl00Src) p2) fun r10 => bnd (F_spec_l00Src_one (⟨p0.code, r10.2.1, r10.2.2⟩ : Gl00Src) 7) fun r13 => (cond r13.1 (bnd F_spec_l05None fun r16 => bnd (app s3.2.2.1 ([r16] : List GRule)) fun z19 => some (.inl (r13.2.1, r13.2.2, z19, (w64 (s3.2.2.2 - 1))))) (bnd (app s3.2.2.1 ([(⟨r6.1, (w64 ((w64 (2 * r8.1)) - 1)), r10.1⟩ : GRule)] : List GRule)) fun z23 => some (.inl (r13.2.1, r13.2.2, z23, (w64 (s3.2.2.2 - 1))))))) (some (.inr (.brk (s3.1, s3.2.1, s3.2.2.1, s3.2.2.2)))))

noncomputable def F_spec_l05DrawSize (p0 : Gl00Src) (p1 : Int) (p2 : Int) : Option ((GMachine) × (Int × (Ik .u64))) :=
  bnd (run (F_spec_l05DrawSize_L1 p0 p1 p2) (p0.at_, p0.seed, ([] : (List GRule)), (w64 (p1 * p2)))) (Out.elim (fun (s3 : Int × (Ik .u64) × (List GRule) × Int) => some ((⟨p1, p2, s3.2.2.1⟩ : GMachine), (s3.1, s3.2.1))) (fun (r : (GMachine) × (Int × (Ik .u64))) => some r))


noncomputable def F_spec_l05DrawOk (p0 : Gl00Src) : Option ((GMachine) × (Int × (Ik .u64))) :=
  bnd (F_spec_l00Src_one p0 4) fun r2 => (cond r2.1 (bnd (F_spec_l05Known (⟨p0.code, r2.2.1, r2.2.2⟩ : Gl00Src)) fun r5 => some (r5.1, (r5.2.1, r5.2.2))) (bnd (F_spec_l00Src_one (⟨p0.code, r2.2.1, r2.2.2⟩ : Gl00Src) 4) fun r8 => (cond r8.1 (bnd (F_spec_l00Src_pick (⟨p0.code, r8.2.1, r8.2.2⟩ : Gl00Src) 3) fun r11 => bnd (F_spec_l00Src_pick (⟨p0.code, r11.2.1, r11.2.2⟩ : Gl00Src) 4) fun r13 => bnd (F_spec_l05DrawSize (⟨p0.code, r13.2.1, r13.2.2⟩ : Gl00Src) (w64 (2 + r11.1)) (w64 (1 + r13.1))) fun r15 => some (r15.1, (r15.2.1, r15.2.2))) (bnd (F_spec_l00Src_pick (⟨p0.code, r8.2.1, r8.2.2⟩ : Gl00Src) 4) fun r18 => bnd (F_spec_l05DrawSize (⟨p0.code, r18.2.1, r18.2.2⟩ : Gl00Src) 2 (w64 (1 + r18.1))) fun r20 => some (r20.1, (r20.2.1, r20.2.2))))))

noncomputable def F_spec_l05Trim_L1 (p0 : (List Int)) (s1 : Int) : Option ((Int) ⊕ Out (Int) (List Int)) :=
  (cond (decide (0 < s1)) (bnd (idx p0 (w64 (s1 - 1))) fun y4 => (cond (decide (y4 = 0)) (some (.inl (w64 (s1 - 1)))) (some (.inr (.brk s1))))) (some (.inr (.brk s1))))

noncomputable def F_spec_l05Trim (p0 : (List Int)) : Option ((List Int)) :=
  bnd (run (F_spec_l05Trim_L1 p0) (p0.length : Int)) (Out.elim (fun (s1 : Int) => bnd (slc p0 0 s1) fun z9 => bnd (F_spec_l00Own z9) fun r12 => some r12) (fun (r : (List Int)) => some r))

noncomputable def F_spec_l05DrawCells_L1 (p0 : Gl00Src) (p1 : GMachine) (s4 : Int × (Ik .u64) × (List Int) × Int) : Option ((Int × (Ik .u64) × (List Int) × Int) ⊕ Out (Int × (Ik .u64) × (List Int) × Int) (((List Int)) × (Int × (Ik .u64)))) :=
  (cond (decide (0 < s4.2.2.2)) (bnd (F_spec_l00Src_pick (⟨p0.code, s4.1, s4.2.1⟩ : Gl00Src) p1.Symbols) fun r7 => bnd (app s4.2.2.1 ([r7.1] : List Int)) fun z10 => some (.inl (r7.2.1, r7.2.2, z10, (w64 (s4.2.2.2 - 1))))) (some (.inr (.brk (s4.1, s4.2.1, s4.2.2.1, s4.2.2.2)))))

noncomputable def F_spec_l05DrawCells_L2 (p0 : Gl00Src) (s18 : Int × (Ik .u64) × (List Int) × Int) : Option ((Int × (Ik .u64) × (List Int) × Int) ⊕ Out (Int × (Ik .u64) × (List Int) × Int) (((List Int)) × (Int × (Ik .u64)))) :=
  (cond (decide (0 < s18.2.2.2)) (bnd (F_spec_l00Src_pick (⟨p0.code, s18.1, s18.2.1⟩ : Gl00Src) 2) fun r21 => bnd (app s18.2.2.1 ([r21.1] : List Int)) fun z24 => some (.inl (r21.2.1, r21.2.2, z24, (w64 (s18.2.2.2 - 1))))) (some (.inr (.brk (s18.1, s18.2.1, s18.2.2.1, s18.2.2.2)))))

noncomputable def F_spec_l05DrawCells (p0 : Gl00Src) (p1 : GMachine) : Option (((List Int)) × (Int × (Ik .u64))) :=
  bnd (F_spec_l00Src_pick p0 5) fun r2 => bnd (run (F_spec_l05DrawCells_L1 p0 p1) (r2.2.1, r2.2.2, ([] : List Int), r2.1)) (Out.elim (fun (s4 : Int × (Ik .u64) × (List Int) × Int) => bnd (F_spec_l00Src_one (⟨p0.code, s4.1, s4.2.1⟩ : Gl00Src) 40) fun r13 => (cond r13.1 (bnd (F_spec_l00Src_pick (⟨p0.code, r13.2.1, r13.2.2⟩ : Gl00Src) 2) fun r16 => bnd (run (F_spec_l05DrawCells_L2 p0) (r16.2.1, r16.2.2, s4.2.2.1, (w64 (199 + r16.1)))) (Out.elim (fun (s18 : Int × (Ik .u64) × (List Int) × Int) => bnd (slc s18.2.2.1 0 199) fun z27 => bnd (app z27 ([1] : List Int)) fun z31 => bnd (F_spec_l05Trim z31) fun r34 => some (r34, (s18.1, s18.2.1))) (fun (r : ((List Int)) × (Int × (Ik .u64))) => some r))) (bnd (F_spec_l05Trim s4.2.2.1) fun r37 => some (r37, (r13.2.1, r13.2.2))))) (fun (r : ((List Int)) × (Int × (Ik .u64))) => some r))


noncomputable def F_spec_l25Blank : Option (GConfig) :=
  some (⟨0, ([] : List Int), ([] : List Int)⟩ : GConfig)


noncomputable def F_spec_R8Machine (p0 : (List (Ik .u8))) : Option (GMachine × GConfig) :=
  bnd (F_spec_l00From p0) fun r3 => bnd (F_spec_l05DrawOk (⟨r3.1, r3.2.1, r3.2.2⟩ : Gl00Src)) fun r6 => bnd (F_spec_l00Src_pick (⟨r3.1, r6.2.1, r6.2.2⟩ : Gl00Src) r6.1.States) fun r10 => bnd (F_spec_l05DrawCells (⟨r3.1, r10.2.1, r10.2.2⟩ : Gl00Src) r6.1) fun r12 => bnd (F_spec_l05DrawCells (⟨r3.1, r12.2.1, r12.2.2⟩ : Gl00Src) r6.1) fun r15 => bnd (F_spec_l00Src_one (⟨r3.1, r15.2.1, r15.2.2⟩ : Gl00Src) 3) fun r19 => (cond r19.1 (bnd F_spec_l25Blank fun r22 => some (r6.1, r22)) (some (r6.1, (⟨r10.1, r12.1, r15.1⟩ : GConfig))))


noncomputable def F_laws_r8At (p0 : (List (Ik .u8))) (p1 : Int) (p2 : Int) : Option (Int) :=
  (cond (decide (p2 ≤ 1)) (some 0) (cond (decide ((p0.length : Int) ≤ p1)) (some 0) (bnd (idx p0 p1) fun y3 => bnd (nz p2) fun u7 => some (Int.tmod (w64 y3.val) p2))))


noncomputable def F_impl_size_impl_Rule (p0 : (List GRule)) : Option (Int) :=
  some (p0.length : Int)


noncomputable def F_impl_noRule : Option (GRule) :=
  some (⟨0, 0, (-1)⟩ : GRule)


noncomputable def F_impl_isRule (p0 : GRule) : Option (Bool) :=
  bnd F_impl_noRule fun r5 => some (!(decide (p0 = r5)))


noncomputable def F_impl_validRule (p0 : GMachine) (p1 : GRule) : Option (Bool) :=
  bnd (F_impl_isRule p1) fun r3 => (cond (!r3) (some true) (bnd (F_impl_within p1.Write 0 (w64 (p0.Symbols - 1))) fun r6 => (cond r6 (cond (decide (p1.Move = (-1))) (bnd (F_impl_within p1.Next 0 (w64 (p0.States - 1))) fun r10 => some r10) (cond (decide (p1.Move = 1)) (bnd (F_impl_within p1.Next 0 (w64 (p0.States - 1))) fun r13 => some r13) (some false))) (some false))))


noncomputable def F_impl_ValidMachine_1 (p0 : GRule) (p1 : GMachine) : Option (Bool) :=
  bnd (F_impl_validRule p1 p0) fun r3 => some (!r3)

noncomputable def F_slices_IndexFunc_Simpl_Rule_impl_Rule_L1 (p0 : (List GRule)) (p1 : (GRule → Option Bool)) (s1 : Int) : Option ((Int) ⊕ Out (Int) Int) :=
  (cond (decide (s1 < (p0.length : Int))) (bnd (idx p0 s1) fun y4 => bnd (p1 y4) fun r8 => (cond r8 (some (.inr (.ret s1))) (some (.inl (w64 (s1 + 1)))))) (some (.inr (.brk s1))))

noncomputable def F_slices_IndexFunc_Simpl_Rule_impl_Rule (p0 : (List GRule)) (p1 : (GRule → Option Bool)) : Option (Int) :=
  bnd (run (F_slices_IndexFunc_Simpl_Rule_impl_Rule_L1 p0 p1) 0) (Out.elim (fun (s1 : Int) => some (-1)) (fun (r : Int) => some r))


noncomputable def F_slices_ContainsFunc_Simpl_Rule_impl_Rule (p0 : (List GRule)) (p1 : (GRule → Option Bool)) : Option (Bool) :=
  bnd (F_slices_IndexFunc_Simpl_Rule_impl_Rule p0 p1) fun r1 => some (decide (0 ≤ r1))


noncomputable def F_impl_ValidMachine (p0 : GMachine) : Option (Bool) :=
  bnd (F_impl_within p0.Symbols 2 6) fun r5 => (cond (!r5) (some false) (bnd (F_impl_within p0.States 1 1000) fun r8 => (cond (!r8) (some false) (bnd (F_impl_size_impl_Rule p0.Rules) fun r11 => (cond (decide (r11 ≠ (w64 (p0.States * p0.Symbols)))) (some false) (bnd (F_slices_ContainsFunc_Simpl_Rule_impl_Rule p0.Rules (fun x_ => F_impl_ValidMachine_1 x_ p0)) fun r14 => some (!r14)))))))


noncomputable def F_impl_validSide (p0 : (List Int)) (p1 : Int) (p2 : Int) : Option (Bool) :=
  bnd (F_impl_size_int64 p0) fun r1 => (cond (decide (r1 ≤ p2)) (bnd (F_impl_allWithin p0 0 (w64 (p1 - 1))) fun r4 => (cond r4 (cond (decide ((p0.length : Int) = 0)) (some true) (bnd (idx p0 (w64 ((p0.length : Int) - 1))) fun y8 => some (decide (y8 ≠ 0)))) (some false))) (some false))


noncomputable def F_impl_configOf (p0 : GMachine) (p1 : GConfig) : Option (Bool) :=
  bnd (F_impl_within p1.State 0 (w64 (p0.States - 1))) fun r3 => (cond r3 (bnd (F_impl_validSide p1.Left p0.Symbols 200) fun r6 => (cond r6 (bnd (F_impl_validSide p1.Right p0.Symbols 200) fun r9 => some r9) (some false))) (some false))


noncomputable def F_impl_ValidConfig (p0 : GMachine) (p1 : GConfig) : Option (Bool) :=
  bnd (F_impl_ValidMachine p0) fun r3 => (cond r3 (bnd (F_impl_configOf p0 p1) fun r6 => some r6) (some false))

noncomputable def F_impl_reversed_L1 (s5 : (List Int) × Int × Int) : Option (((List Int) × Int × Int) ⊕ Out ((List Int) × Int × Int) (Option ((List Int)))) :=
  (cond (decide (s5.2.1 < s5.2.2)) (bnd (idx s5.1 s5.2.2) fun y8 => bnd (idx s5.1 s5.2.1) fun y12 => bnd (idx s5.1 s5.2.1) fun y19 => bnd (idx (s5.1.set s5.2.1.toNat y8) s5.2.2) fun y21 => some (.inl (((s5.1.set s5.2.1.toNat y8).set s5.2.2.toNat y12), (w64 (s5.2.1 + 1)), (w64 (s5.2.2 - 1))))) (some (.inr (.brk (s5.1, s5.2.1, s5.2.2)))))

noncomputable def F_impl_reversed (p0 : (List Int)) : Option ((List Int)) :=
  bnd (F_slices_Clone_Sint64_int64 p0) fun r1 => bnd (run (F_impl_reversed_L1) (r1, 0, (w64 ((r1.length : Int) - 1)))) (Out.elim (fun (s5 : (List Int) × Int × Int) => some s5.1) (fun (r : Option ((List Int))) => r))


noncomputable def F_impl_runnerOf (p0 : GMachine) (p1 : GConfig) : Option ((Int × Int × (List GRule) × Int × (List Int) × (List Int))) :=
  bnd (F_impl_reversed p1.Left) fun r6 => bnd (F_impl_reversed p1.Right) fun r9 => some (p0.Symbols, p0.States, p0.Rules, p1.State, r6, r9)


noncomputable def F_impl_nearest (p0 : (List Int)) : Option (Int) :=
  (cond (decide ((p0.length : Int) = 0)) (some 0) (bnd (idx p0 (w64 ((p0.length : Int) - 1))) fun y2 => some y2))


noncomputable def F_impl_runner_symbol (p0 : Grunner) : Option (Int) :=
  bnd (F_impl_nearest p0.right) fun r3 => some r3


noncomputable def F_impl_runner_at (p0 : Grunner) : Option (Int) :=
  bnd (F_impl_runner_symbol p0) fun r9 => some (w64 ((w64 (p0.state * (⟨p0.m_Symbols, p0.m_States, p0.m_Rules⟩ : GMachine).Symbols)) + r9))


noncomputable def F_impl_runner_rule (p0 : Grunner) : Option (GRule) :=
  bnd (F_impl_runner_at p0) fun r8 => bnd (idx ((⟨p0.m_Symbols, p0.m_States, p0.m_Rules⟩ : GMachine).Rules) r8) fun y10 => some y10


noncomputable def F_impl_runner_halts (p0 : Grunner) : Option (Bool) :=
  bnd (F_impl_runner_rule p0) fun r1 => bnd (F_impl_isRule r1) fun r3 => some (!r3)


noncomputable def F_impl_pop (p0 : (List Int)) : Option ((List Int)) :=
  bnd (slc p0 0 (if (w64 ((p0.length : Int) - 1)) > 0 then (w64 ((p0.length : Int) - 1)) else 0)) fun z1 => some z1


noncomputable def F_impl_runner_step (p0 : Grunner) : Option ((Bool) × (Int × (List Int) × (List Int))) :=
  bnd (F_impl_runner_rule p0) fun r1 => bnd (slc p0.right 0 (if (w64 ((p0.right.length : Int) - 1)) > 0 then (w64 ((p0.right.length : Int) - 1)) else 0)) fun z5 => bnd ((cond (decide (0 < r1.Move)) (cond (decide (r1.Write = 0)) (cond (decide ((p0.left.length : Int) = 0)) (some (.brk (p0.left, z5))) (bnd (app p0.left ([r1.Write] : List Int)) fun z19 => some (.brk (z19, z5)))) (bnd (app p0.left ([r1.Write] : List Int)) fun z23 => some (.brk (z23, z5)))) (bnd ((cond (decide (r1.Write = 0)) (cond (decide ((z5.length : Int) = 0)) (bnd (F_impl_nearest p0.left) fun r35 => (cond (decide (r35 = 0)) (some (.brk z5)) (bnd (app z5 ([r35] : List Int)) fun z41 => some (.brk z41)))) (bnd (app z5 ([r1.Write] : List Int)) fun z45 => bnd (F_impl_nearest p0.left) fun r48 => (cond (decide (r48 = 0)) (cond (decide ((z45.length : Int) = 0)) (some (.brk z45)) (bnd (app z45 ([r48] : List Int)) fun z55 => some (.brk z55))) (bnd (app z45 ([r48] : List Int)) fun z59 => some (.brk z59))))) (bnd (app z5 ([r1.Write] : List Int)) fun z63 => bnd (F_impl_nearest p0.left) fun r66 => (cond (decide (r66 = 0)) (cond (decide ((z63.length : Int) = 0)) (some (.brk z63)) (bnd (app z63 ([r66] : List Int)) fun z73 => some (.brk z73))) (bnd (app z63 ([r66] : List Int)) fun z77 => some (.brk z77))))) : Option (Out ((List Int)) ((Bool) × (Int × (List Int) × (List Int))))) (Out.elim (fun (s26 : (List Int)) => bnd (slc p0.left 0 (if (w64 ((p0.left.length : Int) - 1)) > 0 then (w64 ((p0.left.length : Int) - 1)) else 0)) fun z179 => some (.brk (z179, s26))) (fun (r : (Bool) × (Int × (List Int) × (List Int))) => some (.ret r))))) : Option (Out ((List Int) × (List Int)) ((Bool) × (Int × (List Int) × (List Int))))) (Out.elim (fun (s8 : (List Int) × (List Int)) => (cond (decide ((s8.1.length : Int) ≤ 200)) (some ((decide ((s8.2.length : Int) ≤ 200)), (r1.Next, s8.1, s8.2))) (some (false, (r1.Next, s8.1, s8.2))))) (fun (r : (Bool) × (Int × (List Int) × (List Int))) => some r))


noncomputable def F_impl_runner_config (p0 : Grunner) : Option (GConfig) :=
  bnd (F_impl_reversed p0.left) fun r11 => bnd (F_impl_reversed p0.right) fun r14 => some (⟨p0.state, r11, r14⟩ : GConfig)

noncomputable def F_impl_traceOf_L1 (p2 : Int) (r5 : (Int × Int × (List GRule) × Int × (List Int) × (List Int))) (s20 : Int × (List Int) × (List Int) × Int × (List GConfig)) : Option ((Int × (List Int) × (List Int) × Int × (List GConfig)) ⊕ Out (Int × (List Int) × (List Int) × Int × (List GConfig)) (Option ((List GConfig) × Int))) :=
  bnd (F_impl_runner_config (⟨r5.1, r5.2.1, r5.2.2.1, s20.1, s20.2.1, s20.2.2.1⟩ : Grunner)) fun r27 => bnd (app s20.2.2.2.2 ([r27] : List GConfig)) fun z31 => (cond (decide (s20.2.2.2.1 < p2)) (bnd (F_impl_runner_halts (⟨r5.1, r5.2.1, r5.2.2.1, s20.1, s20.2.1, s20.2.2.1⟩ : Grunner)) fun r35 => (cond (!r35) (bnd (F_impl_runner_step (⟨r5.1, r5.2.1, r5.2.2.1, s20.1, s20.2.1, s20.2.2.1⟩ : Grunner)) fun r38 => (cond (!r38.1) (some (.inr (.ret (some (([] : (List GConfig)), 5))))) (some (.inl (r38.2.1, r38.2.2.1, r38.2.2.2, (w64 (s20.2.2.2.1 + 1)), z31))))) (some (.inr (.brk (s20.1, s20.2.1, s20.2.2.1, s20.2.2.2.1, z31)))))) (some (.inr (.brk (s20.1, s20.2.1, s20.2.2.1, s20.2.2.2.1, z31)))))

noncomputable def F_impl_traceOf (p0 : GMachine) (p1 : GConfig) (p2 : Int) : Option ((List GConfig) × Int) :=
  bnd (F_impl_runnerOf p0 p1) fun r5 => bnd (run (F_impl_traceOf_L1 p2 r5) (r5.2.2.2.1, r5.2.2.2.2.1, r5.2.2.2.2.2, 0, ([] : List GConfig))) (Out.elim (fun (s20 : Int × (List Int) × (List Int) × Int × (List GConfig)) => some (s20.2.2.2.2, 0)) (fun (r : Option ((List GConfig) × Int)) => r))


noncomputable def F_impl_TraceMachine (p0 : GMachine) (p1 : GConfig) (p2 : Int) : Option ((List GConfig) × Int) :=
  bnd (F_impl_ValidConfig p0 p1) fun r3 => (cond (!r3) (some (([] : (List GConfig)), 1)) (bnd (F_impl_within p2 0 60) fun r6 => (cond (!r6) (some (([] : (List GConfig)), 2)) (bnd (F_impl_traceOf p0 p1 p2) fun r9 => some (r9.1, r9.2)))))

noncomputable def F_impl_runner_run_L1 (p0 : Grunner) (p1 : Int) (s14 : Int × (List Int) × (List Int) × Int × Int) : Option ((Int × (List Int) × (List Int) × Int × Int) ⊕ Out (Int × (List Int) × (List Int) × Int × Int) (Option ((Int × Bool × Int) × (Int × (List Int) × (List Int))))) :=
  (cond (decide (s14.2.2.2.1 < p1)) (bnd (F_impl_runner_halts (⟨p0.m_Symbols, p0.m_States, p0.m_Rules, s14.1, s14.2.1, s14.2.2.1⟩ : Grunner)) fun r19 => (cond (!r19) (bnd (F_impl_runner_step (⟨p0.m_Symbols, p0.m_States, p0.m_Rules, s14.1, s14.2.1, s14.2.2.1⟩ : Grunner)) fun r22 => (cond (!r22.1) (some (.inr (.ret (some ((0, false, 5), (r22.2.1, r22.2.2.1, r22.2.2.2)))))) (some (.inl (r22.2.1, r22.2.2.1, r22.2.2.2, (w64 (s14.2.2.2.1 + 1)), s14.2.2.2.1))))) (some (.inr (.brk (s14.1, s14.2.1, s14.2.2.1, s14.2.2.2.1, s14.2.2.2.1)))))) (some (.inr (.brk (s14.1, s14.2.1, s14.2.2.1, s14.2.2.2.1, s14.2.2.2.1)))))

noncomputable def F_impl_runner_run (p0 : Grunner) (p1 : Int) : Option ((Int × Bool × Int) × (Int × (List Int) × (List Int))) :=
  bnd (run (F_impl_runner_run_L1 p0 p1) (p0.state, p0.left, p0.right, 0, 0)) (Out.elim (fun (s14 : Int × (List Int) × (List Int) × Int × Int) => bnd (F_impl_runner_halts (⟨p0.m_Symbols, p0.m_States, p0.m_Rules, s14.1, s14.2.1, s14.2.2.1⟩ : Grunner)) fun r31 => some ((s14.2.2.2.2, r31, 0), (s14.1, s14.2.1, s14.2.2.1))) (fun (r : Option ((Int × Bool × Int) × (Int × (List Int) × (List Int)))) => r))


noncomputable def F_impl_RunMachine (p0 : GMachine) (p1 : GConfig) (p2 : Int) : Option (GConfig × Int × Bool × Int) :=
  bnd (F_impl_ValidConfig p0 p1) fun r4 => (cond (!r4) (some ((⟨0, ([] : (List Int)), ([] : (List Int))⟩ : GConfig), 0, false, 1)) (bnd (F_impl_budgetOk p2) fun r7 => (cond (!r7) (some ((⟨0, ([] : (List Int)), ([] : (List Int))⟩ : GConfig), 0, false, 2)) (bnd (F_impl_runnerOf p0 p1) fun r10 => bnd (F_impl_runner_run (⟨r10.1, r10.2.1, r10.2.2.1, r10.2.2.2.1, r10.2.2.2.2.1, r10.2.2.2.2.2⟩ : Grunner) p2) fun r13 => (cond (decide (r13.1.2.2 ≠ 0)) (some ((⟨0, ([] : (List Int)), ([] : (List Int))⟩ : GConfig), 0, false, r13.1.2.2)) (bnd (F_impl_runner_config (⟨r10.1, r10.2.1, r10.2.2.1, r13.2.1, r13.2.2.1, r13.2.2.2⟩ : Grunner)) fun r17 => some (r17, r13.1.1, r13.1.2.1, 0)))))))

noncomputable def F_laws_r8Same_L1 (p0 : (List Int)) (p1 : (List Int)) (s2 : Int) : Option ((Int) ⊕ Out (Int) Bool) :=
  (cond (decide (s2 < (p0.length : Int))) (bnd (idx p0 s2) fun y5 => bnd (idx p1 s2) fun y9 => (cond (decide (y5 ≠ y9)) (some (.inr (.ret false))) (some (.inl (w64 (s2 + 1)))))) (some (.inr (.brk s2))))

noncomputable def F_laws_r8Same (p0 : (List Int)) (p1 : (List Int)) : Option (Bool) :=
  (cond (decide ((p0.length : Int) ≠ (p1.length : Int))) (some false) (bnd (run (F_laws_r8Same_L1 p0 p1) 0) (Out.elim (fun (s2 : Int) => some true) (fun (r : Bool) => some r))))


noncomputable def F_laws_r8Config (p0 : GConfig) (p1 : GConfig) : Option (Bool) :=
  (cond (decide (p0.State = p1.State)) (bnd (F_laws_r8Same p0.Left p1.Left) fun r4 => (cond r4 (bnd (F_laws_r8Same p0.Right p1.Right) fun r7 => some r7) (some false))) (some false))


noncomputable def F_laws_FnRuns (p0 : (List (Ik .u8))) (p1 : (List (Ik .u8))) : Option (Bool) :=
  bnd (F_laws_r8Long p0 p1) fun r1 => (cond r1 (some true) (bnd (F_spec_R8Machine p0) fun r4 => bnd (F_laws_r8At p1 0 30) fun r9 => bnd (F_laws_r8At p1 1 30) fun r11 => bnd (F_impl_TraceMachine r4.1 r4.2 (w64 (1 + r9))) fun r13 => bnd (F_impl_RunMachine r4.1 r4.2 (w64 (1 + r9))) fun r16 => bnd ((cond (decide (r13.2 = 5)) (cond (decide (r16.2.2.2 = 5)) (some (.ret true)) (some (.brk ()))) (some (.brk ()))) : Option (Out (Unit) Bool)) (Out.elim (fun (s20 : Unit) => bnd ((cond (decide (r13.2 ≠ 0)) (some (.ret false)) (cond (decide (r16.2.2.2 ≠ 0)) (some (.ret false)) (cond (decide ((r13.1.length : Int) = 0)) (some (.ret false)) (cond (decide ((r13.1.length : Int) ≠ (w64 (r16.2.1 + 1)))) (some (.ret false)) (bnd (idx r13.1 0) fun y33 => bnd (F_laws_r8Config y33 r4.2) fun r38 => (cond (!r38) (some (.ret false)) (bnd (idx r13.1 r16.2.1) fun y41 => bnd (F_laws_r8Config y41 r16.1) fun r44 => (cond (!r44) (some (.ret false)) (some (.brk ())))))))))) : Option (Out (Unit) Bool)) (Out.elim (fun (s24 : Unit) => bnd (F_impl_RunMachine r4.1 r16.1 (w64 (1 + r11))) fun r47 => bnd (F_impl_RunMachine r4.1 r4.2 (w64 ((w64 (1 + r9)) + (w64 (1 + r11))))) fun r51 => bnd ((cond (decide (r47.2.2.2 = 5)) (cond (decide (r51.2.2.2 = 5)) (some (.ret true)) (some (.brk ()))) (some (.brk ()))) : Option (Out (Unit) Bool)) (Out.elim (fun (s55 : Unit) => (cond (decide (r47.2.2.2 = 0)) (cond (decide (r51.2.2.2 = 0)) (cond (decide ((w64 (r16.2.1 + r47.2.1)) = r51.2.1)) (cond (r47.2.2.1 == r51.2.2.1) (bnd (F_laws_r8Config r47.1 r51.1) fun r63 => some r63) (some false)) (some false)) (some false)) (some false))) (fun (r : Bool) => some r))) (fun (r : Bool) => some r))) (fun (r : Bool) => some r))))

end Go.Fn
