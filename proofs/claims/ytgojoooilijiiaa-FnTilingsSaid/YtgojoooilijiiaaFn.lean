/-
  What each function of the program computes, as a plain Lean function: printed by program off the translation. No condition.
-/
import Derived.Test.YtgojoooilijiiaaTy
namespace Go.Fn
open Go Go.Tc
set_option linter.unusedVariables false

noncomputable def F_laws_r8Long (p0 : (List (Ik .u8))) (p1 : (List (Ik .u8))) : Option (Bool) :=
  (cond (decide (1048576 < (p0.length : Int))) (some true) (some (decide (1048576 < (p1.length : Int)))))


noncomputable def F_spec_l00From (p0 : (List (Ik .u8))) : Option (((List (Ik .u8)) × Int × (Ik .u64))) :=
  some (p0, 0, (⟨0⟩ : Ik .u64))


noncomputable def F_spec_l00Src_next (p0 : Gl00Src) : Option ((Int) × (Int × (Ik .u64))) :=
  bnd ((cond (decide (p0.at_ < (p0.code.length : Int))) (bnd (idx p0.code p0.at_) fun y4 => some (.brk (w64 y4.val))) (some (.brk 0))) : Option (Out (Int) ((Int) × (Int × (Ik .u64))))) (Out.elim (fun (s1 : Int) => (cond (decide ((w64 (p0.at_ + 1)) ≤ (p0.code.length : Int))) (some (s1, ((w64 (p0.at_ + 1)), (⟨(wk .u64 ((wk .u64 ((wk .u64 (p0.seed.val * 6364136223846793005)) + (wk .u64 s1))) + 1442695040888963407))⟩ : Ik .u64)))) (some ((w64 (kand .u64 (Int.fdiv (wk .u64 ((wk .u64 ((wk .u64 (p0.seed.val * 6364136223846793005)) + (wk .u64 s1))) + 1442695040888963407)) (2 ^ min (40 : Int).toNat (IntKind.bits .u64))) 255)), ((w64 (p0.at_ + 1)), (⟨(wk .u64 ((wk .u64 ((wk .u64 (p0.seed.val * 6364136223846793005)) + (wk .u64 s1))) + 1442695040888963407))⟩ : Ik .u64)))))) (fun (r : (Int) × (Int × (Ik .u64))) => some r))


noncomputable def F_spec_l00Src_pick (p0 : Gl00Src) (p1 : Int) : Option ((Int) × (Int × (Ik .u64))) :=
  (cond (decide (p1 ≤ 1)) (some (0, (p0.at_, p0.seed))) (bnd (F_spec_l00Src_next p0) fun r2 => (cond (decide (200 < p1)) (bnd (F_spec_l00Src_next (⟨p0.code, r2.2.1, r2.2.2⟩ : Gl00Src)) fun r5 => bnd (nz p1) fun u7 => some ((Int.tmod (w64 ((w64 (r2.1 * 256)) + r5.1)) p1), (r5.2.1, r5.2.2))) (bnd (nz p1) fun u9 => some ((Int.tmod r2.1 p1), (r2.2.1, r2.2.2))))))


noncomputable def F_spec_l00Src_one (p0 : Gl00Src) (p1 : Int) : Option ((Bool) × (Int × (Ik .u64))) :=
  bnd (F_spec_l00Src_pick p0 p1) fun r1 => some ((decide (r1.1 = 0)), (r1.2.1, r1.2.2))


noncomputable def F_spec_l05None : Option (GRule) :=
  some (⟨0, 0, (-1)⟩ : GRule)

noncomputable def F_spec_l05DrawSize_L1 (p0 : Gl00Src) (p1 : Int) (p2 : Int) (s3 : Int × (Ik .u64) × (List GRule) × Int) : Option ((Int × (Ik .u64) × (List GRule) × Int) ⊕ Out (Int × (Ik .u64) × (List GRule) × Int) ((GMachine) × (Int × (Ik .u64)))) :=
  (cond (decide (0 < s3.2.2.2)) (bnd (F_spec_l00Src_pick (⟨p0.code, s3.1, s3.2.1⟩ : Gl00Src) p1) fun r6 => bnd (F_spec_l00Src_pick (⟨p0.code, r6.2.1, r6.2.2⟩ : Gl00Src) 2) fun r8 => bnd (F_spec_l00Src_pick (⟨p0.code, r8.2.1, r8.2.2⟩ : Gl00Src) p2) fun r10 => bnd (F_spec_l00Src_one (⟨p0.code, r10.2.1, r10.2.2⟩ : Gl00Src) 7) fun r13 => (cond r13.1 (bnd F_spec_l05None fun r16 => bnd (app s3.2.2.1 ([r16] : List GRule)) fun z19 => some (.inl (r13.2.1, r13.2.2, z19, (w64 (s3.2.2.2 - 1))))) (bnd (app s3.2.2.1 ([(⟨r6.1, (w64 ((w64 (2 * r8.1)) - 1)), r10.1⟩ : GRule)] : List GRule)) fun z23 => some (.inl (r13.2.1, r13.2.2, z23, (w64 (s3.2.2.2 - 1))))))) (some (.inr (.brk (s3.1, s3.2.1, s3.2.2.1, s3.2.2.2)))))

noncomputable def F_spec_l05DrawSize (p0 : Gl00Src) (p1 : Int) (p2 : Int) : Option ((GMachine) × (Int × (Ik .u64))) :=
  bnd (run (F_spec_l05DrawSize_L1 p0 p1 p2) (p0.at_, p0.seed, ([] : (List GRule)), (w64 (p1 * p2)))) (Out.elim (fun (s3 : Int × (Ik .u64) × (List GRule) × Int) => some ((⟨p1, p2, s3.2.2.1⟩ : GMachine), (s3.1, s3.2.1))) (fun (r : (GMachine) × (Int × (Ik .u64))) => some r))


noncomputable def F_spec_l00Own (p0 : (List Int)) : Option ((List Int)) :=
  bnd (app ([] : List Int) p0) fun z2 => some z2

noncomputable def F_spec_l05Trim_L1 (p0 : (List Int)) (s1 : Int) : Option ((Int) ⊕ Out (Int) (List Int)) :=
  (cond (decide (0 < s1)) (bnd (idx p0 (w64 (s1 - 1))) fun y4 => (cond (decide (y4 = 0)) (some (.inl (w64 (s1 - 1)))) (some (.inr (.brk s1))))) (some (.inr (.brk s1))))

noncomputable def F_spec_l05Trim (p0 : (List Int)) : Option ((List Int)) :=
  bnd (run (F_spec_l05Trim_L1 p0) (p0.length : Int)) (Out.elim (fun (s1 : Int) => bnd (slc p0 0 s1) fun z9 => bnd (F_spec_l00Own z9) fun r12 => some r12) (fun (r : (List Int)) => some r))

noncomputable def F_spec_R8Row_L1 (r3 : ((List (Ik .u8)) × Int × (Ik .u64))) (s17 : Int × (Ik .u64) × (List Int) × Int) : Option ((Int × (Ik .u64) × (List Int) × Int) ⊕ Out (Int × (Ik .u64) × (List Int) × Int) (GMachine × GConfig × Int × Int)) :=
  (cond (decide (0 < s17.2.2.2)) (bnd (F_spec_l00Src_pick (⟨r3.1, s17.1, s17.2.1⟩ : Gl00Src) 2) fun r23 => bnd (app s17.2.2.1 ([r23.1] : List Int)) fun z26 => some (.inl (r23.2.1, r23.2.2, z26, (w64 (s17.2.2.2 - 1))))) (some (.inr (.brk (s17.1, s17.2.1, s17.2.2.1, s17.2.2.2)))))

noncomputable def F_spec_R8Row_L2 (r3 : ((List (Ik .u8)) × Int × (Ik .u64))) (s39 : Int × (Ik .u64) × (List Int) × Int) : Option ((Int × (Ik .u64) × (List Int) × Int) ⊕ Out (Int × (Ik .u64) × (List Int) × Int) (GMachine × GConfig × Int × Int)) :=
  (cond (decide (0 < s39.2.2.2)) (bnd (F_spec_l00Src_pick (⟨r3.1, s39.1, s39.2.1⟩ : Gl00Src) 2) fun r45 => bnd (app s39.2.2.1 ([r45.1] : List Int)) fun z48 => some (.inl (r45.2.1, r45.2.2, z48, (w64 (s39.2.2.2 - 1))))) (some (.inr (.brk (s39.1, s39.2.1, s39.2.2.1, s39.2.2.2)))))

noncomputable def F_spec_R8Row (p0 : (List (Ik .u8))) : Option (GMachine × GConfig × Int × Int) :=
  bnd (F_spec_l00From p0) fun r3 => bnd (F_spec_l00Src_pick (⟨r3.1, r3.2.1, r3.2.2⟩ : Gl00Src) 3) fun r6 => bnd (F_spec_l05DrawSize (⟨r3.1, r6.2.1, r6.2.2⟩ : Gl00Src) 2 (w64 (1 + r6.1))) fun r8 => bnd (F_spec_l00Src_pick (⟨r3.1, r8.2.1, r8.2.2⟩ : Gl00Src) r8.1.States) fun r12 => bnd (F_spec_l00Src_pick (⟨r3.1, r12.2.1, r12.2.2⟩ : Gl00Src) 3) fun r15 => bnd (run (F_spec_R8Row_L1 r3) (r15.2.1, r15.2.2, ([] : (List Int)), r15.1)) (Out.elim (fun (s17 : Int × (Ik .u64) × (List Int) × Int) => bnd (F_spec_l00Src_pick (⟨r3.1, s17.1, s17.2.1⟩ : Gl00Src) 3) fun r37 => bnd (run (F_spec_R8Row_L2 r3) (r37.2.1, r37.2.2, ([] : (List Int)), r37.1)) (Out.elim (fun (s39 : Int × (Ik .u64) × (List Int) × Int) => bnd (F_spec_l05Trim s17.2.2.1) fun r59 => bnd (F_spec_l05Trim s39.2.2.1) fun r62 => bnd (F_spec_l00Src_pick (⟨r3.1, s39.1, s39.2.1⟩ : Gl00Src) 5) fun r68 => bnd (F_spec_l00Src_pick (⟨r3.1, r68.2.1, r68.2.2⟩ : Gl00Src) 2) fun r70 => some (r8.1, (⟨r12.1, r59, r62⟩ : GConfig), (w64 (5 + r68.1)), (w64 (2 + r70.1)))) (fun (r : GMachine × GConfig × Int × Int) => some r))) (fun (r : GMachine × GConfig × Int × Int) => some r))


noncomputable def F_laws_r8At (p0 : (List (Ik .u8))) (p1 : Int) (p2 : Int) : Option (Int) :=
  (cond (decide (p2 ≤ 1)) (some 0) (cond (decide ((p0.length : Int) ≤ p1)) (some 0) (bnd (idx p0 p1) fun y3 => bnd (nz p2) fun u7 => some (Int.tmod (w64 y3.val) p2))))


noncomputable def F_impl_within (p0 : Int) (p1 : Int) (p2 : Int) : Option (Bool) :=
  (cond (decide (p1 ≤ p0)) (some (decide (p0 ≤ p2))) (some false))


noncomputable def F_impl_size_impl_Rule (p0 : (List GRule)) : Option (Int) :=
  some (p0.length : Int)


noncomputable def F_impl_noRule : Option (GRule) :=
  some (⟨0, 0, (-1)⟩ : GRule)


noncomputable def F_impl_isRule (p0 : GRule) : Option (Bool) :=
  bnd F_impl_noRule fun r5 => some (!(decide (p0 = r5)))


noncomputable def F_impl_validRule (p0 : GMachine) (p1 : GRule) : Option (Bool) :=
  bnd (F_impl_isRule p1) fun r3 => (cond (!r3) (some true) (bnd (F_impl_within p1.Write 0 (w64 (p0.Symbols - 1))) fun r6 => (cond r6 (cond (decide (p1.Move = (-1))) (bnd (F_impl_within p1.Next 0 (w64 (p0.States - 1))) fun r10 => some r10) (cond (decide (p1.Move = 1)) (bnd (F_impl_within p1.Next 0 (w64 (p0.States - 1))) fun r13 => some r13) (some false))) (some false))))


noncomputable def F_impl_ValidMachine_1 (p0 : GRule) (p1 : GMachine) : Option (Bool) :=
  bnd (F_impl_validRule p1 p0) fun r3 => some (!r3)

noncomputable def F_slices_IndexFunc_Simpl_Rule_impl_Rule_L1 (p0 : (List GRule)) (p1 : (GRule → Option Bool)) (s1 : Int) : Option ((Int) ⊕ Out (Int) Int) :=
  (cond (decide (s1 < (p0.length : Int))) (bnd (idx p0 s1) fun y4 => bnd (p1 y4) fun r8 => (cond r8 (some (.inr (.ret s1))) (some (.inl (w64 (s1 + 1)))))) (some (.inr (.brk s1))))

noncomputable def F_slices_IndexFunc_Simpl_Rule_impl_Rule (p0 : (List GRule)) (p1 : (GRule → Option Bool)) : Option (Int) :=
  bnd (run (F_slices_IndexFunc_Simpl_Rule_impl_Rule_L1 p0 p1) 0) (Out.elim (fun (s1 : Int) => some (-1)) (fun (r : Int) => some r))


noncomputable def F_slices_ContainsFunc_Simpl_Rule_impl_Rule (p0 : (List GRule)) (p1 : (GRule → Option Bool)) : Option (Bool) :=
  bnd (F_slices_IndexFunc_Simpl_Rule_impl_Rule p0 p1) fun r1 => some (decide (0 ≤ r1))


noncomputable def F_impl_ValidMachine (p0 : GMachine) : Option (Bool) :=
  bnd (F_impl_within p0.Symbols 2 6) fun r5 => (cond (!r5) (some false) (bnd (F_impl_within p0.States 1 1000) fun r8 => (cond (!r8) (some false) (bnd (F_impl_size_impl_Rule p0.Rules) fun r11 => (cond (decide (r11 ≠ (w64 (p0.States * p0.Symbols)))) (some false) (bnd (F_slices_ContainsFunc_Simpl_Rule_impl_Rule p0.Rules (fun x_ => F_impl_ValidMachine_1 x_ p0)) fun r14 => some (!r14)))))))


noncomputable def F_impl_resting (p0 : Int) : Option (GTile) :=
  some (⟨0, p0, 0, p0⟩ : GTile)


noncomputable def F_impl_headColor (p0 : GMachine) (p1 : Int) (p2 : Int) : Option (Int) :=
  some (w64 ((w64 (p0.Symbols * (w64 (p1 + 1)))) + p2))


noncomputable def F_impl_passes (p0 : Int) (p1 : Int) : Option (Int) :=
  (cond (decide (p0 = 1)) (some (w64 (1 + (w64 (2 * p1))))) (some (w64 (2 + (w64 (2 * p1))))))


noncomputable def F_impl_leaving (p0 : GMachine) (p1 : Int) (p2 : Int) (p3 : GRule) : Option (GTile) :=
  bnd (F_impl_headColor p0 p1 p2) fun r7 => (cond (decide (p3.Move = 1)) (bnd (F_impl_passes 1 p3.Next) fun r11 => some (⟨0, r7, r11, p3.Write⟩ : GTile)) (bnd (F_impl_passes (-1) p3.Next) fun r13 => some (⟨r13, r7, 0, p3.Write⟩ : GTile)))


noncomputable def F_impl_coming (p0 : GMachine) (p1 : Int) (p2 : Int) (p3 : Int) : Option (GTile) :=
  bnd (F_impl_headColor p0 p2 p3) fun r3 => (cond (decide (p1 = 1)) (bnd (F_impl_passes 1 p2) fun r7 => some (⟨r7, p3, 0, r3⟩ : GTile)) (bnd (F_impl_passes (-1) p2) fun r9 => some (⟨0, p3, r9, r3⟩ : GTile)))

noncomputable def F_impl_tilesOfMachine_L1 (p0 : GMachine) (s3 : (List GTile) × Int) : Option (((List GTile) × Int) ⊕ Out ((List GTile) × Int) ((List GTile) × Int)) :=
  (cond (decide (s3.2 < p0.Symbols)) (bnd (F_impl_resting s3.2) fun r6 => bnd (app s3.1 ([r6] : List GTile)) fun z9 => some (.inl (z9, (w64 (s3.2 + 1))))) (some (.inr (.brk (s3.1, s3.2)))))

noncomputable def F_impl_tilesOfMachine_L2 (p0 : GMachine) (s12 : (List GTile) × Int) : Option (((List GTile) × Int) ⊕ Out ((List GTile) × Int) ((List GTile) × Int)) :=
  (cond (decide (s12.2 < (p0.Rules.length : Int))) (bnd (idx p0.Rules s12.2) fun y15 => bnd (F_impl_isRule y15) fun r20 => (cond r20 (bnd (nz p0.Symbols) fun u23 => bnd (nz p0.Symbols) fun u25 => bnd (F_impl_leaving p0 (w64 (Int.tdiv s12.2 p0.Symbols)) (Int.tmod s12.2 p0.Symbols) y15) fun r30 => bnd (app s12.1 ([r30] : List GTile)) fun z33 => some (.inl (z33, (w64 (s12.2 + 1))))) (some (.inl (s12.1, (w64 (s12.2 + 1))))))) (some (.inr (.brk (s12.1, s12.2)))))

noncomputable def F_impl_tilesOfMachine_L4 (p0 : GMachine) (s36 : (List GTile) × Int) (s39 : (List GTile) × Int) : Option (((List GTile) × Int) ⊕ Out ((List GTile) × Int) ((List GTile) × Int)) :=
  (cond (decide (s39.2 < p0.Symbols)) (bnd (F_impl_coming p0 1 s36.2 s39.2) fun r45 => bnd (F_impl_coming p0 (-1) s36.2 s39.2) fun r47 => bnd (app s39.1 ([r45, r47] : List GTile)) fun z50 => some (.inl (z50, (w64 (s39.2 + 1))))) (some (.inr (.brk (s39.1, s39.2)))))

noncomputable def F_impl_tilesOfMachine_L3 (p0 : GMachine) (s36 : (List GTile) × Int) : Option (((List GTile) × Int) ⊕ Out ((List GTile) × Int) ((List GTile) × Int)) :=
  (cond (decide (s36.2 < p0.States)) (bnd (run (F_impl_tilesOfMachine_L4 p0 s36) (s36.1, 0)) (Out.elim (fun (s39 : (List GTile) × Int) => some (.inl (s39.1, (w64 (s36.2 + 1))))) (fun (r : (List GTile) × Int) => some (.inr (.ret r))))) (some (.inr (.brk (s36.1, s36.2)))))

noncomputable def F_impl_tilesOfMachine (p0 : GMachine) : Option ((List GTile) × Int) :=
  bnd (run (F_impl_tilesOfMachine_L1 p0) (([] : List GTile), 0)) (Out.elim (fun (s3 : (List GTile) × Int) => bnd (run (F_impl_tilesOfMachine_L2 p0) (s3.1, 0)) (Out.elim (fun (s12 : (List GTile) × Int) => bnd (run (F_impl_tilesOfMachine_L3 p0) (s12.1, 0)) (Out.elim (fun (s36 : (List GTile) × Int) => (cond (decide (300 < (s36.1.length : Int))) (some (([] : (List GTile)), 5)) (some (s36.1, 0)))) (fun (r : (List GTile) × Int) => some r))) (fun (r : (List GTile) × Int) => some r))) (fun (r : (List GTile) × Int) => some r))


noncomputable def F_impl_TilesOfMachine (p0 : GMachine) : Option ((List GTile) × Int) :=
  bnd (F_impl_ValidMachine p0) fun r2 => (cond (!r2) (some (([] : (List GTile)), 1)) (bnd (F_impl_tilesOfMachine p0) fun r5 => some (r5.1, r5.2)))


noncomputable def F_impl_size_int64 (p0 : (List Int)) : Option (Int) :=
  some (p0.length : Int)

noncomputable def F_impl_allWithin_L1 (p0 : (List Int)) (p1 : Int) (p2 : Int) (s1 : Int) : Option ((Int) ⊕ Out (Int) Bool) :=
  (cond (decide (s1 < (p0.length : Int))) (bnd (idx p0 s1) fun y4 => bnd (F_impl_within y4 p1 p2) fun r8 => (cond (!r8) (some (.inr (.ret false))) (some (.inl (w64 (s1 + 1)))))) (some (.inr (.brk s1))))

noncomputable def F_impl_allWithin (p0 : (List Int)) (p1 : Int) (p2 : Int) : Option (Bool) :=
  bnd (run (F_impl_allWithin_L1 p0 p1 p2) 0) (Out.elim (fun (s1 : Int) => some true) (fun (r : Bool) => some r))


noncomputable def F_impl_validSide (p0 : (List Int)) (p1 : Int) (p2 : Int) : Option (Bool) :=
  bnd (F_impl_size_int64 p0) fun r1 => (cond (decide (r1 ≤ p2)) (bnd (F_impl_allWithin p0 0 (w64 (p1 - 1))) fun r4 => (cond r4 (cond (decide ((p0.length : Int) = 0)) (some true) (bnd (idx p0 (w64 ((p0.length : Int) - 1))) fun y8 => some (decide (y8 ≠ 0)))) (some false))) (some false))


noncomputable def F_impl_configOf (p0 : GMachine) (p1 : GConfig) : Option (Bool) :=
  bnd (F_impl_within p1.State 0 (w64 (p0.States - 1))) fun r3 => (cond r3 (bnd (F_impl_validSide p1.Left p0.Symbols 200) fun r6 => (cond r6 (bnd (F_impl_validSide p1.Right p0.Symbols 200) fun r9 => some r9) (some false))) (some false))


noncomputable def F_impl_ValidConfig (p0 : GMachine) (p1 : GConfig) : Option (Bool) :=
  bnd (F_impl_ValidMachine p0) fun r3 => (cond r3 (bnd (F_impl_configOf p0 p1) fun r6 => some r6) (some false))


noncomputable def F_impl_rowCode (p0 : Int) (p1 : Int) : Option (Int) :=
  bnd (F_impl_within p0 1 30) fun r1 => (cond (!r1) (some 2) (bnd (F_impl_within p1 0 (w64 (p0 - 1))) fun r4 => (cond (!r4) (some 2) (some 0))))


noncomputable def F_impl_symbolAt (p0 : (List Int)) (p1 : Int) : Option (Int) :=
  (cond (decide ((p0.length : Int) ≤ p1)) (some 0) (bnd (idx p0 p1) fun y2 => some y2))

noncomputable def F_impl_cellsFrom_L1 (p0 : (List Int)) (p1 : Int) (p2 : Int) (s2 : (List Int) × Int) : Option (((List Int) × Int) ⊕ Out ((List Int) × Int) (List Int)) :=
  (cond (decide (s2.2 < p2)) (bnd (F_impl_symbolAt p0 (w64 (p1 + s2.2))) fun r5 => bnd (app s2.1 ([r5] : List Int)) fun z8 => some (.inl (z8, (w64 (s2.2 + 1))))) (some (.inr (.brk (s2.1, s2.2)))))

noncomputable def F_impl_cellsFrom (p0 : (List Int)) (p1 : Int) (p2 : Int) : Option ((List Int)) :=
  bnd (run (F_impl_cellsFrom_L1 p0 p1 p2) (([] : List Int), 0)) (Out.elim (fun (s2 : (List Int) × Int) => some s2.1) (fun (r : (List Int)) => some r))


noncomputable def F_slices_Clone_Sint64_int64 (p0 : (List Int)) : Option ((List Int)) :=
  bnd (app ([] : List Int) p0) fun z3 => some z3

noncomputable def F_impl_reversed_L1 (s5 : (List Int) × Int × Int) : Option (((List Int) × Int × Int) ⊕ Out ((List Int) × Int × Int) (Option ((List Int)))) :=
  (cond (decide (s5.2.1 < s5.2.2)) (bnd (idx s5.1 s5.2.2) fun y8 => bnd (idx s5.1 s5.2.1) fun y12 => bnd (idx s5.1 s5.2.1) fun y19 => bnd (idx (s5.1.set s5.2.1.toNat y8) s5.2.2) fun y21 => some (.inl (((s5.1.set s5.2.1.toNat y8).set s5.2.2.toNat y12), (w64 (s5.2.1 + 1)), (w64 (s5.2.2 - 1))))) (some (.inr (.brk (s5.1, s5.2.1, s5.2.2)))))

noncomputable def F_impl_reversed (p0 : (List Int)) : Option ((List Int)) :=
  bnd (F_slices_Clone_Sint64_int64 p0) fun r1 => bnd (run (F_impl_reversed_L1) (r1, 0, (w64 ((r1.length : Int) - 1)))) (Out.elim (fun (s5 : (List Int) × Int × Int) => some s5.1) (fun (r : Option ((List Int))) => r))

noncomputable def F_slices_Concat_Sint64_int64_L1 (p0 : (List (List Int))) (s1 : Int × Int) : Option ((Int × Int) ⊕ Out (Int × Int) (List Int)) :=
  (cond (decide (s1.2 < (p0.length : Int))) (bnd (idx p0 s1.2) fun y4 => (cond (decide ((w64 (s1.1 + (y4.length : Int))) < 0)) none (some (.inl ((w64 (s1.1 + (y4.length : Int))), (w64 (s1.2 + 1))))))) (some (.inr (.brk (s1.1, s1.2)))))

noncomputable def F_slices_Concat_Sint64_int64_L2 (p0 : (List (List Int))) (s20 : (List Int) × Int) : Option (((List Int) × Int) ⊕ Out ((List Int) × Int) (List Int)) :=
  (cond (decide (s20.2 < (p0.length : Int))) (bnd (idx p0 s20.2) fun y23 => bnd (app s20.1 y23) fun z27 => some (.inl (z27, (w64 (s20.2 + 1))))) (some (.inr (.brk (s20.1, s20.2)))))

noncomputable def F_slices_Concat_Sint64_int64_L3 (p0 : (List (List Int))) (s30 : (List Int) × Int) : Option (((List Int) × Int) ⊕ Out ((List Int) × Int) (List Int)) :=
  (cond (decide (s30.2 < (p0.length : Int))) (bnd (idx p0 s30.2) fun y33 => bnd (app s30.1 y33) fun z37 => some (.inl (z37, (w64 (s30.2 + 1))))) (some (.inr (.brk (s30.1, s30.2)))))

noncomputable def F_slices_Concat_Sint64_int64 (p0 : (List (List Int))) : Option ((List Int)) :=
  bnd (run (F_slices_Concat_Sint64_int64_L1 p0) (0, 0)) (Out.elim (fun (s1 : Int × Int) => bnd ((cond (decide (s1.1 < 0)) none (some (.brk ()))) : Option (Out (Unit) (Option ((List Int))))) (Out.elim (fun (s10 : Unit) => (cond (decide (0 < (w64 (s1.1 - (w64 (((0 : Nat) : Int) - ((0 : Nat) : Int))))))) (bnd (mke (w64 (s1.1 - (w64 (((0 : Nat) : Int) - ((0 : Nat) : Int))))) (0 : Int)) fun z14 => bnd (slc z14 0 ((0 : Nat) : Int)) fun z17 => bnd (run (F_slices_Concat_Sint64_int64_L2 p0) (z17, 0)) (Out.elim (fun (s20 : (List Int) × Int) => some s20.1) (fun (r : (List Int)) => some r))) (bnd (run (F_slices_Concat_Sint64_int64_L3 p0) (([] : (List Int)), 0)) (Out.elim (fun (s30 : (List Int) × Int) => some s30.1) (fun (r : (List Int)) => some r))))) (fun (r : Option ((List Int))) => r))) (fun (r : (List Int)) => some r))


noncomputable def F_impl_joined (p0 : (List (List Int))) : Option ((List Int)) :=
  bnd (F_slices_Concat_Sint64_int64 p0) fun r1 => some r1


noncomputable def F_impl_cellsOfRow (p0 : GConfig) (p1 : Int) (p2 : Int) : Option ((List Int) × Int) :=
  bnd (bnd (F_impl_size_int64 p0.Left) fun r4 => (cond (decide (p2 < r4)) (some (.ret (([] : (List Int)), 5))) (bnd (F_impl_size_int64 p0.Right) fun r7 => (cond (decide ((w64 (p1 - p2)) < r7)) (some (.ret (([] : (List Int)), 5))) (some (.brk ()))))) : Option (Out (Unit) ((List Int) × Int))) (Out.elim (fun (s2 : Unit) => bnd (F_impl_cellsFrom p0.Left 0 p2) fun r13 => bnd (F_impl_reversed r13) fun r16 => bnd (F_impl_cellsFrom p0.Right 0 (w64 (p1 - p2))) fun r19 => bnd (F_impl_joined ([r16, r19] : List (List Int))) fun r23 => some (r23, 0)) (fun (r : (List Int) × Int) => some r))


noncomputable def F_impl_RowOfConfig (p0 : GMachine) (p1 : GConfig) (p2 : Int) (p3 : Int) : Option ((List Int) × Int) :=
  bnd (F_impl_ValidConfig p0 p1) fun r3 => (cond (!r3) (some (([] : (List Int)), 1)) (bnd (F_impl_rowCode p2 p3) fun r6 => (cond (decide (r6 ≠ 0)) (some (([] : (List Int)), r6)) (bnd (F_impl_cellsOfRow p1 p2 p3) fun r9 => (cond (decide (r9.2 ≠ 0)) (some (([] : (List Int)), r9.2)) (bnd (idx r9.1 p3) fun y13 => bnd (F_impl_headColor p0 p1.State y13) fun r21 => bnd (idx r9.1 p3) fun y23 => some ((r9.1.set p3.toNat r21), 0)))))))

noncomputable def F_impl_TilingOfRun_L1 (r14 : (List GTile) × Int) (s23 : List (GTile × Int) × Int) : Option ((List (GTile × Int) × Int) ⊕ Out (List (GTile × Int) × Int) ((List (List Int)) × Int)) :=
  (cond (decide (s23.2 < (r14.1.length : Int))) (bnd (idx r14.1 s23.2) fun y26 => some (.inl ((mput s23.1 y26 s23.2), (w64 (s23.2 + 1))))) (some (.inr (.brk (s23.1, s23.2)))))

noncomputable def F_impl_TilingOfRun_L3 (p0 : GMachine) (s23 : List (GTile × Int) × Int) (s36 : Int × (List Int) × (List (List Int)) × Int × Int) (s39 : Int × Int × Int) (s73 : (List Int) × Int) : Option (((List Int) × Int) ⊕ Out ((List Int) × Int) ((List (List Int)) × Int)) :=
  (cond (decide (s73.2 < (s36.2.1.length : Int))) (bnd (idx s36.2.1 s73.2) fun y76 => bnd (F_impl_resting y76) fun r81 => (cond (decide (s73.2 = s36.1)) (bnd (F_impl_leaving p0 s36.2.2.2.1 y76 (⟨s39.1, s39.2.1, s39.2.2⟩ : GRule)) fun r85 => bnd (app s73.1 ([((mget s23.1 r85).getD 0)] : List Int)) fun z88 => some (.inl (z88, (w64 (s73.2 + 1))))) (cond (decide (s73.2 = (w64 (s36.1 + s39.2.1)))) (bnd (F_impl_coming p0 s39.2.1 s39.2.2 y76) fun r92 => bnd (app s73.1 ([((mget s23.1 r92).getD 0)] : List Int)) fun z95 => some (.inl (z95, (w64 (s73.2 + 1))))) (bnd (app s73.1 ([((mget s23.1 r81).getD 0)] : List Int)) fun z99 => some (.inl (z99, (w64 (s73.2 + 1)))))))) (some (.inr (.brk (s73.1, s73.2)))))

noncomputable def F_impl_TilingOfRun_L2 (p0 : GMachine) (p2 : Int) (p4 : Int) (s23 : List (GTile × Int) × Int) (s36 : Int × (List Int) × (List (List Int)) × Int × Int) : Option ((Int × (List Int) × (List (List Int)) × Int × Int) ⊕ Out (Int × (List Int) × (List (List Int)) × Int × Int) ((List (List Int)) × Int)) :=
  (cond (decide (s36.2.2.2.2 < p4)) (bnd (bnd (idx s36.2.1 s36.1) fun y41 => bnd (idx p0.Rules (w64 ((w64 (s36.2.2.2.1 * p0.Symbols)) + y41))) fun y49 => some (.brk (y49.Write, y49.Move, y49.Next)) : Option (Out (Int × Int × Int) ((List (List Int)) × Int))) (Out.elim (fun (s39 : Int × Int × Int) => bnd (bnd (F_impl_isRule (⟨s39.1, s39.2.1, s39.2.2⟩ : GRule)) fun r66 => (cond (!r66) (some (.ret (([] : (List (List Int))), 6))) (bnd (F_impl_within (w64 (s36.1 + s39.2.1)) 0 (w64 (p2 - 1))) fun r69 => (cond (!r69) (some (.ret (([] : (List (List Int))), 6))) (some (.brk ()))))) : Option (Out (Unit) ((List (List Int)) × Int))) (Out.elim (fun (s64 : Unit) => bnd (run (F_impl_TilingOfRun_L3 p0 s23 s36 s39) (([] : List Int), 0)) (Out.elim (fun (s73 : (List Int) × Int) => bnd (idx s36.2.1 s36.1) fun y102 => bnd (app s36.2.2.1 ([s73.1] : List (List Int))) fun z107 => some (.inl ((w64 (s36.1 + s39.2.1)), (s36.2.1.set s36.1.toNat s39.1), z107, s39.2.2, (w64 (s36.2.2.2.2 + 1))))) (fun (r : (List (List Int)) × Int) => some (.inr (.ret r))))) (fun (r : (List (List Int)) × Int) => some (.inr (.ret r))))) (fun (r : (List (List Int)) × Int) => some (.inr (.ret r))))) (some (.inr (.brk (s36.1, s36.2.1, s36.2.2.1, s36.2.2.2.1, s36.2.2.2.2)))))

noncomputable def F_impl_TilingOfRun (p0 : GMachine) (p1 : GConfig) (p2 : Int) (p3 : Int) (p4 : Int) : Option ((List (List Int)) × Int) :=
  bnd (F_impl_ValidConfig p0 p1) fun r3 => (cond (!r3) (some (([] : (List (List Int))), 1)) (bnd (bnd (F_impl_rowCode p2 p3) fun r8 => (cond (decide (r8 ≠ 0)) (some (.ret (([] : (List (List Int))), 2))) (bnd (F_impl_within p4 1 40) fun r11 => (cond (!r11) (some (.ret (([] : (List (List Int))), 2))) (some (.brk ()))))) : Option (Out (Unit) ((List (List Int)) × Int))) (Out.elim (fun (s6 : Unit) => bnd (F_impl_tilesOfMachine p0) fun r14 => (cond (decide (r14.2 ≠ 0)) (some (([] : (List (List Int))), r14.2)) (bnd (F_impl_cellsOfRow p1 p2 p3) fun r18 => (cond (decide (r18.2 ≠ 0)) (some (([] : (List (List Int))), r18.2)) (bnd (run (F_impl_TilingOfRun_L1 r14) (([] : List (GTile × Int)), 0)) (Out.elim (fun (s23 : List (GTile × Int) × Int) => bnd (run (F_impl_TilingOfRun_L2 p0 p2 p4 s23) (p3, r18.1, ([] : List (List Int)), p1.State, 0)) (Out.elim (fun (s36 : Int × (List Int) × (List (List Int)) × Int × Int) => some (s36.2.2.1, 0)) (fun (r : (List (List Int)) × Int) => some r))) (fun (r : (List (List Int)) × Int) => some r))))))) (fun (r : (List (List Int)) × Int) => some r))))


noncomputable def F_impl_size_impl_Tile (p0 : (List GTile)) : Option (Int) :=
  some (p0.length : Int)


noncomputable def F_impl_colorsOk (p0 : (List Int)) : Option (Bool) :=
  bnd (F_impl_allWithin p0 0 9999) fun r1 => some r1

noncomputable def F_slices_Index_Simpl_Tile_impl_Tile_L1 (p0 : (List GTile)) (p1 : GTile) (s2 : Int) : Option ((Int) ⊕ Out (Int) Int) :=
  (cond (decide (s2 < (p0.length : Int))) (bnd (idx p0 s2) fun y5 => (cond (decide (p1 = y5)) (some (.inr (.ret s2))) (some (.inl (w64 (s2 + 1)))))) (some (.inr (.brk s2))))

noncomputable def F_slices_Index_Simpl_Tile_impl_Tile (p0 : (List GTile)) (p1 : GTile) : Option (Int) :=
  bnd (run (F_slices_Index_Simpl_Tile_impl_Tile_L1 p0 p1) 0) (Out.elim (fun (s2 : Int) => some (-1)) (fun (r : Int) => some r))

noncomputable def F_impl_ValidTiles_L1 (p0 : (List GTile)) (s6 : Int) : Option ((Int) ⊕ Out (Int) Bool) :=
  (cond (decide (s6 < (p0.length : Int))) (bnd (idx p0 s6) fun y9 => bnd (F_impl_colorsOk ([y9.Left, y9.Bottom, y9.Right, y9.Top] : List Int)) fun r15 => (cond (!r15) (some (.inr (.ret false))) (bnd (F_slices_Index_Simpl_Tile_impl_Tile p0 y9) fun r18 => (cond (decide (r18 ≠ s6)) (some (.inr (.ret false))) (some (.inl (w64 (s6 + 1)))))))) (some (.inr (.brk s6))))

noncomputable def F_impl_ValidTiles (p0 : (List GTile)) : Option (Bool) :=
  bnd (F_impl_size_impl_Tile p0) fun r1 => bnd (F_impl_within r1 1 300) fun r3 => (cond (!r3) (some false) (bnd (run (F_impl_ValidTiles_L1 p0) 0) (Out.elim (fun (s6 : Int) => some true) (fun (r : Bool) => some r))))


noncomputable def F_impl_isFrame (p0 : (List Int)) : Option (Bool) :=
  bnd (F_impl_size_int64 p0) fun r1 => bnd (F_impl_within r1 1 30) fun r3 => (cond r3 (bnd (F_impl_colorsOk p0) fun r6 => some r6) (some false))


noncomputable def F_impl_budgetOk (p0 : Int) : Option (Bool) :=
  bnd (F_impl_within p0 1 20000) fun r1 => some r1


noncomputable def F_impl_fitsAt (p0 : GTile) (p1 : Int) (p2 : Int) (p3 : Bool) : Option (Bool) :=
  (cond (decide (p0.Left = p1)) (cond (decide (p0.Bottom = p2)) (cond (!p3) (some true) (some (decide (p0.Right = 0)))) (some false)) (some false))

noncomputable def F_impl_tiler_fill_impl_CountTilings_1_L1 (p0 : Gtiler) (p1 : Int) (rec_ : Gtiler → Int → Int → Option ((Bool × Bool) × ((List Int) × Int × Int))) (s9 : Int) (s30 : Int) (s49 : (List Int) × Int × Int × Int) : Option (((List Int) × Int × Int × Int) ⊕ Out ((List Int) × Int × Int × Int) ((Bool × Bool) × ((List Int) × Int × Int))) :=
  (cond (decide (s49.2.2.2 < (p0.list.length : Int))) (bnd (idx p0.list s49.2.2.2) fun y52 => bnd (nz (p0.bottom.length : Int)) fun u57 => bnd (F_impl_fitsAt y52 s9 s30 (decide ((Int.tmod p1 (p0.bottom.length : Int)) = (w64 ((p0.bottom.length : Int) - 1))))) fun r62 => (cond (!r62) (some (.inl (s49.1, s49.2.1, s49.2.2.1, (w64 (s49.2.2.2 + 1))))) (cond (decide (s49.2.1 = 0)) (some (.inr (.ret ((false, false), (s49.1, s49.2.1, s49.2.2.1))))) (bnd (idx s49.1 p1) fun y66 => bnd (rec_ (⟨p0.list, p0.bottom, (s49.1.set p1.toNat s49.2.2.2), (w64 (s49.2.1 - 1))⟩ : Gtiler) (w64 (p1 + 1)) s49.2.2.1) fun r70 => (cond (!r70.1.1) (some (.inr (.ret ((false, r70.1.2), (r70.2.1, r70.2.2.1, r70.2.2.2))))) (some (.inl (r70.2.1, r70.2.2.1, r70.2.2.2, (w64 (s49.2.2.2 + 1)))))))))) (some (.inr (.brk (s49.1, s49.2.1, s49.2.2.1, s49.2.2.2)))))

noncomputable def F_impl_tiler_fill_impl_CountTilings_1_step (rec_ : Gtiler → Int → Int → Option ((Bool × Bool) × ((List Int) × Int × Int))) (p0 : Gtiler) (p1 : Int) (p3 : Int) : Option ((Bool × Bool) × ((List Int) × Int × Int)) :=
  (cond (decide (p1 = (p0.places.length : Int))) (some ((true, true), (p0.places, p0.left, (w64 (p3 + 1))))) (bnd (nz (p0.bottom.length : Int)) fun u3 => bnd (idx p0.bottom (Int.tmod p1 (p0.bottom.length : Int))) fun y5 => bnd (bnd (nz (p0.bottom.length : Int)) fun u11 => (cond (decide (0 < (Int.tmod p1 (p0.bottom.length : Int)))) (bnd (idx p0.places (w64 (p1 - 1))) fun y14 => bnd (idx p0.list y14) fun y22 => some (.brk y22.Right)) (some (.brk 0))) : Option (Out (Int) ((Bool × Bool) × ((List Int) × Int × Int)))) (Out.elim (fun (s9 : Int) => bnd ((cond (decide ((p0.bottom.length : Int) ≤ p1)) (bnd (idx p0.places (w64 (p1 - (p0.bottom.length : Int)))) fun y33 => bnd (idx p0.list y33) fun y41 => some (.brk y41.Top)) (some (.brk y5))) : Option (Out (Int) ((Bool × Bool) × ((List Int) × Int × Int)))) (Out.elim (fun (s30 : Int) => bnd (run (F_impl_tiler_fill_impl_CountTilings_1_L1 p0 p1 rec_ s9 s30) (p0.places, p0.left, p3, 0)) (Out.elim (fun (s49 : (List Int) × Int × Int × Int) => some ((true, true), (s49.1, s49.2.1, s49.2.2.1))) (fun (r : (Bool × Bool) × ((List Int) × Int × Int)) => some r))) (fun (r : (Bool × Bool) × ((List Int) × Int × Int)) => some r))) (fun (r : (Bool × Bool) × ((List Int) × Int × Int)) => some r))))
noncomputable def F_impl_tiler_fill_impl_CountTilings_1 (p0 : Gtiler) (p1 : Int) (p3 : Int) : Option ((Bool × Bool) × ((List Int) × Int × Int)) := fixR (fun (rec_ : (Gtiler × Int × Int) → Option ((Bool × Bool) × ((List Int) × Int × Int))) (a_ : Gtiler × Int × Int) => F_impl_tiler_fill_impl_CountTilings_1_step (fun p0 p1 p3 => rec_ (p0, p1, p3)) a_.1 a_.2.1 a_.2.2) (p0, p1, p3)


noncomputable def F_impl_CountTilings (p0 : (List GTile)) (p1 : (List Int)) (p2 : Int) (p3 : Int) : Option (Int × Int) :=
  bnd (F_impl_ValidTiles p0) fun r2 => (cond (!r2) (some (0, 1)) (bnd (F_impl_isFrame p1) fun r5 => (cond (!r5) (some (0, 2)) (bnd (F_impl_within p2 1 40) fun r8 => (cond (!r8) (some (0, 2)) (bnd (F_impl_budgetOk p3) fun r11 => (cond (!r11) (some (0, 2)) (bnd (F_impl_size_int64 p1) fun r14 => bnd (mke (w64 (r14 * p2)) (0 : Int)) fun z16 => bnd (F_impl_tiler_fill_impl_CountTilings_1 (⟨p0, p1, z16, p3⟩ : Gtiler) 0 0) fun r21 => (cond (!r21.1.2) (some (0, 5)) (some (r21.2.2.2, 0)))))))))))

noncomputable def F_slices_Chunk_Sint64_int64_1_L1 (p0 : ((List Int) → Option Bool)) (p1 : (List Int)) (p2 : Int) (s1 : Int) : Option ((Int) ⊕ Out (Int) Unit) :=
  (cond (decide (s1 < (p1.length : Int))) (bnd (slc p1 s1 (p1.length : Int)) fun z7 => bnd (slc p1 s1 (w64 (s1 + (if (z7.length : Int) < p2 then (z7.length : Int) else p2)))) fun z14 => bnd (p0 z14) fun r17 => (cond (!r17) (some (.inr (.ret ()))) (some (.inl (w64 (s1 + p2)))))) (some (.inr (.brk s1))))

noncomputable def F_slices_Chunk_Sint64_int64_1 (p0 : ((List Int) → Option Bool)) (p1 : (List Int)) (p2 : Int) : Option (Unit) :=
  bnd (run (F_slices_Chunk_Sint64_int64_1_L1 p0 p1 p2) 0) (Out.elim (fun (s1 : Int) => some ()) (fun (r : Unit) => some r))

noncomputable def F_impl_tiler_fill_impl_SolveTiling_1_L1 (p0 : Gtiler) (p1 : Int) (rec_ : Gtiler → Int → Bool → Option ((Bool × Bool) × ((List Int) × Int × Bool))) (s9 : Int) (s30 : Int) (s49 : (List Int) × Int × Bool × Int) : Option (((List Int) × Int × Bool × Int) ⊕ Out ((List Int) × Int × Bool × Int) ((Bool × Bool) × ((List Int) × Int × Bool))) :=
  (cond (decide (s49.2.2.2 < (p0.list.length : Int))) (bnd (idx p0.list s49.2.2.2) fun y52 => bnd (nz (p0.bottom.length : Int)) fun u57 => bnd (F_impl_fitsAt y52 s9 s30 (decide ((Int.tmod p1 (p0.bottom.length : Int)) = (w64 ((p0.bottom.length : Int) - 1))))) fun r62 => (cond (!r62) (some (.inl (s49.1, s49.2.1, s49.2.2.1, (w64 (s49.2.2.2 + 1))))) (cond (decide (s49.2.1 = 0)) (some (.inr (.ret ((false, false), (s49.1, s49.2.1, s49.2.2.1))))) (bnd (idx s49.1 p1) fun y66 => bnd (rec_ (⟨p0.list, p0.bottom, (s49.1.set p1.toNat s49.2.2.2), (w64 (s49.2.1 - 1))⟩ : Gtiler) (w64 (p1 + 1)) s49.2.2.1) fun r70 => (cond (!r70.1.1) (some (.inr (.ret ((false, r70.1.2), (r70.2.1, r70.2.2.1, r70.2.2.2))))) (some (.inl (r70.2.1, r70.2.2.1, r70.2.2.2, (w64 (s49.2.2.2 + 1)))))))))) (some (.inr (.brk (s49.1, s49.2.1, s49.2.2.1, s49.2.2.2)))))

noncomputable def F_impl_tiler_fill_impl_SolveTiling_1_step (rec_ : Gtiler → Int → Bool → Option ((Bool × Bool) × ((List Int) × Int × Bool))) (p0 : Gtiler) (p1 : Int) (p3 : Bool) : Option ((Bool × Bool) × ((List Int) × Int × Bool)) :=
  (cond (decide (p1 = (p0.places.length : Int))) (some ((false, true), (p0.places, p0.left, true))) (bnd (nz (p0.bottom.length : Int)) fun u3 => bnd (idx p0.bottom (Int.tmod p1 (p0.bottom.length : Int))) fun y5 => bnd (bnd (nz (p0.bottom.length : Int)) fun u11 => (cond (decide (0 < (Int.tmod p1 (p0.bottom.length : Int)))) (bnd (idx p0.places (w64 (p1 - 1))) fun y14 => bnd (idx p0.list y14) fun y22 => some (.brk y22.Right)) (some (.brk 0))) : Option (Out (Int) ((Bool × Bool) × ((List Int) × Int × Bool)))) (Out.elim (fun (s9 : Int) => bnd ((cond (decide ((p0.bottom.length : Int) ≤ p1)) (bnd (idx p0.places (w64 (p1 - (p0.bottom.length : Int)))) fun y33 => bnd (idx p0.list y33) fun y41 => some (.brk y41.Top)) (some (.brk y5))) : Option (Out (Int) ((Bool × Bool) × ((List Int) × Int × Bool)))) (Out.elim (fun (s30 : Int) => bnd (run (F_impl_tiler_fill_impl_SolveTiling_1_L1 p0 p1 rec_ s9 s30) (p0.places, p0.left, p3, 0)) (Out.elim (fun (s49 : (List Int) × Int × Bool × Int) => some ((true, true), (s49.1, s49.2.1, s49.2.2.1))) (fun (r : (Bool × Bool) × ((List Int) × Int × Bool)) => some r))) (fun (r : (Bool × Bool) × ((List Int) × Int × Bool)) => some r))) (fun (r : (Bool × Bool) × ((List Int) × Int × Bool)) => some r))))
noncomputable def F_impl_tiler_fill_impl_SolveTiling_1 (p0 : Gtiler) (p1 : Int) (p3 : Bool) : Option ((Bool × Bool) × ((List Int) × Int × Bool)) := fixR (fun (rec_ : (Gtiler × Int × Bool) → Option ((Bool × Bool) × ((List Int) × Int × Bool))) (a_ : Gtiler × Int × Bool) => F_impl_tiler_fill_impl_SolveTiling_1_step (fun p0 p1 p3 => rec_ (p0, p1, p3)) a_.1 a_.2.1 a_.2.2) (p0, p1, p3)

noncomputable def F_impl_SolveTiling_L1 (p1 : (List Int)) (r21 : (Bool × Bool) × ((List Int) × Int × Bool)) (s38 : Int × (List (List Int))) : Option ((Int × (List (List Int))) ⊕ Out (Int × (List (List Int))) (Option ((List (List Int)) × Int))) :=
  (cond (decide (s38.1 < (r21.2.1.length : Int))) (bnd (slc r21.2.1 s38.1 (r21.2.1.length : Int)) fun z41 => bnd (slc r21.2.1 s38.1 (w64 (s38.1 + (if (z41.length : Int) < (p1.length : Int) then (z41.length : Int) else (p1.length : Int))))) fun z47 => bnd (F_slices_Clone_Sint64_int64 z47) fun r55 => bnd (app s38.2 ([r55] : List (List Int))) fun z59 => some (.inl ((w64 (s38.1 + (p1.length : Int))), z59))) (some (.inr (.brk (s38.1, s38.2)))))

noncomputable def F_impl_SolveTiling (p0 : (List GTile)) (p1 : (List Int)) (p2 : Int) (p3 : Int) : Option ((List (List Int)) × Int) :=
  bnd (F_impl_ValidTiles p0) fun r2 => (cond (!r2) (some (([] : (List (List Int))), 1)) (bnd (F_impl_isFrame p1) fun r5 => (cond (!r5) (some (([] : (List (List Int))), 2)) (bnd (F_impl_within p2 1 40) fun r8 => (cond (!r8) (some (([] : (List (List Int))), 2)) (bnd (F_impl_budgetOk p3) fun r11 => (cond (!r11) (some (([] : (List (List Int))), 2)) (bnd (F_impl_size_int64 p1) fun r14 => bnd (mke (w64 (r14 * p2)) (0 : Int)) fun z16 => bnd (F_impl_tiler_fill_impl_SolveTiling_1 (⟨p0, p1, z16, p3⟩ : Gtiler) 0 false) fun r21 => (cond (!r21.1.2) (some (([] : (List (List Int))), 5)) (cond (!r21.2.2.2) (some (([] : (List (List Int))), 3)) (cond (decide ((p1.length : Int) < 1)) none (bnd (run (F_impl_SolveTiling_L1 p1 r21) (0, ([] : List (List Int)))) (Out.elim (fun (s38 : Int × (List (List Int))) => some (s38.2, 0)) (fun (r : Option ((List (List Int)) × Int)) => r))))))))))))))


noncomputable def F_impl_configOfRow_1 (p0 : Int) (p1 : GMachine) : Option (Bool) :=
  some (decide (p1.Symbols ≤ p0))

noncomputable def F_slices_IndexFunc_Sint64_int64_L1 (p0 : (List Int)) (p1 : (Int → Option Bool)) (s1 : Int) : Option ((Int) ⊕ Out (Int) Int) :=
  (cond (decide (s1 < (p0.length : Int))) (bnd (idx p0 s1) fun y4 => bnd (p1 y4) fun r8 => (cond r8 (some (.inr (.ret s1))) (some (.inl (w64 (s1 + 1)))))) (some (.inr (.brk s1))))

noncomputable def F_slices_IndexFunc_Sint64_int64 (p0 : (List Int)) (p1 : (Int → Option Bool)) : Option (Int) :=
  bnd (run (F_slices_IndexFunc_Sint64_int64_L1 p0 p1) 0) (Out.elim (fun (s1 : Int) => some (-1)) (fun (r : Int) => some r))

noncomputable def F_impl_trimmed_L1 (s1 : (List Int)) : Option (((List Int)) ⊕ Out ((List Int)) (List Int)) :=
  (cond (decide (0 < (s1.length : Int))) (bnd (idx s1 (w64 ((s1.length : Int) - 1))) fun y4 => (cond (decide (y4 = 0)) (bnd (slc s1 0 (w64 ((s1.length : Int) - 1))) fun z9 => some (.inl z9)) (some (.inr (.brk s1))))) (some (.inr (.brk s1))))

noncomputable def F_impl_trimmed (p0 : (List Int)) : Option ((List Int)) :=
  bnd (run (F_impl_trimmed_L1) p0) (Out.elim (fun (s1 : (List Int)) => some s1) (fun (r : (List Int)) => some r))


noncomputable def F_impl_configOfRow (p0 : GMachine) (p1 : (List Int)) : Option (GConfig × Int × Int) :=
  bnd (F_slices_IndexFunc_Sint64_int64 p1 (fun x_ => F_impl_configOfRow_1 x_ p0)) fun r3 => bnd ((cond (decide (r3 < 0)) (some (.ret ((⟨0, ([] : (List Int)), ([] : (List Int))⟩ : GConfig), 0, 9))) (bnd (idx p1 r3) fun y8 => (cond (decide ((w64 (p0.Symbols * (w64 (p0.States + 1)))) ≤ y8)) (some (.ret ((⟨0, ([] : (List Int)), ([] : (List Int))⟩ : GConfig), 0, 9))) (some (.brk ()))))) : Option (Out (Unit) (GConfig × Int × Int))) (Out.elim (fun (s5 : Unit) => bnd (F_slices_Clone_Sint64_int64 p1) fun r13 => bnd (idx p1 r3) fun y16 => bnd (nz p0.Symbols) fun u20 => bnd (idx r13 r3) fun y22 => bnd (F_impl_allWithin (r13.set r3.toNat (Int.tmod y16 p0.Symbols)) 0 (w64 (p0.Symbols - 1))) fun r29 => (cond (!r29) (some ((⟨0, ([] : (List Int)), ([] : (List Int))⟩ : GConfig), 0, 9)) (bnd (idx p1 r3) fun y32 => bnd (nz p0.Symbols) fun u36 => bnd (slc (r13.set r3.toNat (Int.tmod y16 p0.Symbols)) 0 r3) fun z38 => bnd (slc (r13.set r3.toNat (Int.tmod y16 p0.Symbols)) r3 ((r13.set r3.toNat (Int.tmod y16 p0.Symbols)).length : Int)) fun z41 => bnd (F_impl_reversed z38) fun r47 => bnd (F_impl_trimmed r47) fun r50 => bnd (F_slices_Clone_Sint64_int64 z41) fun r53 => bnd (F_impl_trimmed r53) fun r56 => some ((⟨(w64 ((w64 (Int.tdiv y32 p0.Symbols)) - 1)), r50, r56⟩ : GConfig), r3, 0)))) (fun (r : GConfig × Int × Int) => some r))


noncomputable def F_impl_ConfigOfRow (p0 : GMachine) (p1 : (List Int)) : Option (GConfig × Int × Int) :=
  bnd (F_impl_ValidMachine p0) fun r3 => (cond (!r3) (some ((⟨0, ([] : (List Int)), ([] : (List Int))⟩ : GConfig), 0, 1)) (bnd (F_impl_size_int64 p1) fun r6 => bnd (F_impl_within r6 1 30) fun r8 => (cond (!r8) (some ((⟨0, ([] : (List Int)), ([] : (List Int))⟩ : GConfig), 0, 2)) (bnd (F_impl_configOfRow p0 p1) fun r11 => some (r11.1, r11.2.1, r11.2.2)))))


noncomputable def F_impl_size_Sint64 (p0 : (List (List Int))) : Option (Int) :=
  some (p0.length : Int)

noncomputable def F_impl_topsOf_L2 (p0 : (List GTile)) (s7 : (List (List Int)) × (List Int) × Int) (y10 : (List Int)) (s23 : Int × (List Int) × Int) : Option ((Int × (List Int) × Int) ⊕ Out (Int × (List Int) × Int) ((List (List Int)) × Bool)) :=
  (cond (decide (s23.2.2 < (y10.length : Int))) (bnd (idx y10 s23.2.2) fun y26 => bnd (idx p0 y26) fun y30 => bnd (idx s7.2.1 s23.2.2) fun y35 => bnd (F_impl_fitsAt y30 s23.1 y35 (decide (s23.2.2 = (w64 ((y10.length : Int) - 1))))) fun r42 => (cond (!r42) (some (.inr (.ret (([] : (List (List Int))), false)))) (bnd (app s23.2.1 ([y30.Top] : List Int)) fun z49 => some (.inl (y30.Right, z49, (w64 (s23.2.2 + 1))))))) (some (.inr (.brk (s23.1, s23.2.1, s23.2.2)))))

noncomputable def F_impl_topsOf_L1 (p0 : (List GTile)) (p1 : (List Int)) (p2 : (List (List Int))) (s7 : (List (List Int)) × (List Int) × Int) : Option (((List (List Int)) × (List Int) × Int) ⊕ Out ((List (List Int)) × (List Int) × Int) ((List (List Int)) × Bool)) :=
  (cond (decide (s7.2.2 < (p2.length : Int))) (bnd (idx p2 s7.2.2) fun y10 => bnd ((cond (decide ((y10.length : Int) ≠ (p1.length : Int))) (some (.ret (([] : (List (List Int))), false))) (bnd (F_impl_size_impl_Tile p0) fun r17 => bnd (F_impl_allWithin y10 0 (w64 (r17 - 1))) fun r19 => (cond (!r19) (some (.ret (([] : (List (List Int))), false))) (some (.brk ()))))) : Option (Out (Unit) ((List (List Int)) × Bool))) (Out.elim (fun (s14 : Unit) => bnd (run (F_impl_topsOf_L2 p0 s7 y10) (0, ([] : List Int), 0)) (Out.elim (fun (s23 : Int × (List Int) × Int) => bnd (app s7.1 ([s23.2.1] : List (List Int))) fun z53 => some (.inl (z53, s23.2.1, (w64 (s7.2.2 + 1))))) (fun (r : (List (List Int)) × Bool) => some (.inr (.ret r))))) (fun (r : (List (List Int)) × Bool) => some (.inr (.ret r))))) (some (.inr (.brk (s7.1, s7.2.1, s7.2.2)))))

noncomputable def F_impl_topsOf (p0 : (List GTile)) (p1 : (List Int)) (p2 : (List (List Int))) : Option ((List (List Int)) × Bool) :=
  bnd (F_impl_size_Sint64 p2) fun r1 => bnd (F_impl_within r1 1 40) fun r3 => (cond (!r3) (some (([] : (List (List Int))), false)) (bnd (run (F_impl_topsOf_L1 p0 p1 p2) (([] : List (List Int)), p1, 0)) (Out.elim (fun (s7 : (List (List Int)) × (List Int) × Int) => some (s7.1, true)) (fun (r : (List (List Int)) × Bool) => some r))))

noncomputable def F_impl_RunOfTiling_L1 (p0 : GMachine) (r14 : (List (List Int)) × Bool) (s19 : (List GConfig) × Int) : Option (((List GConfig) × Int) ⊕ Out ((List GConfig) × Int) ((List GConfig) × Int)) :=
  (cond (decide (s19.2 < (r14.1.length : Int))) (bnd (idx r14.1 s19.2) fun y22 => bnd (F_impl_configOfRow p0 y22) fun r27 => (cond (decide (r27.2.2 ≠ 0)) (some (.inr (.ret (([] : (List GConfig)), 7)))) (bnd (app s19.1 ([r27.1] : List GConfig)) fun z33 => some (.inl (z33, (w64 (s19.2 + 1))))))) (some (.inr (.brk (s19.1, s19.2)))))

noncomputable def F_impl_RunOfTiling (p0 : GMachine) (p1 : (List Int)) (p2 : (List (List Int))) : Option ((List GConfig) × Int) :=
  bnd (F_impl_ValidMachine p0) fun r2 => (cond (!r2) (some (([] : (List GConfig)), 1)) (bnd (F_impl_tilesOfMachine p0) fun r5 => (cond (decide (r5.2 ≠ 0)) (some (([] : (List GConfig)), r5.2)) (bnd (F_impl_ConfigOfRow p0 p1) fun r9 => (cond (decide (r9.2.2 ≠ 0)) (some (([] : (List GConfig)), r9.2.2)) (bnd (F_impl_topsOf r5.1 p1 p2) fun r14 => (cond (!r14.2) (some (([] : (List GConfig)), 7)) (bnd (run (F_impl_RunOfTiling_L1 p0 r14) (([r9.1] : List GConfig), 0)) (Out.elim (fun (s19 : (List GConfig) × Int) => some (s19.1, 0)) (fun (r : (List GConfig) × Int) => some r))))))))))


noncomputable def F_impl_runnerOf (p0 : GMachine) (p1 : GConfig) : Option ((Int × Int × (List GRule) × Int × (List Int) × (List Int))) :=
  bnd (F_impl_reversed p1.Left) fun r6 => bnd (F_impl_reversed p1.Right) fun r9 => some (p0.Symbols, p0.States, p0.Rules, p1.State, r6, r9)


noncomputable def F_impl_nearest (p0 : (List Int)) : Option (Int) :=
  (cond (decide ((p0.length : Int) = 0)) (some 0) (bnd (idx p0 (w64 ((p0.length : Int) - 1))) fun y2 => some y2))


noncomputable def F_impl_runner_symbol (p0 : Grunner) : Option (Int) :=
  bnd (F_impl_nearest p0.right) fun r3 => some r3


noncomputable def F_impl_runner_at (p0 : Grunner) : Option (Int) :=
  bnd (F_impl_runner_symbol p0) fun r9 => some (w64 ((w64 (p0.state * (⟨p0.m_Symbols, p0.m_States, p0.m_Rules⟩ : GMachine).Symbols)) + r9))


noncomputable def F_impl_runner_rule (p0 : Grunner) : Option (GRule) :=
  bnd (F_impl_runner_at p0) fun r8 => bnd (idx ((⟨p0.m_Symbols, p0.m_States, p0.m_Rules⟩ : GMachine).Rules) r8) fun y10 => some y10


noncomputable def F_impl_runner_halts (p0 : Grunner) : Option (Bool) :=
  bnd (F_impl_runner_rule p0) fun r1 => bnd (F_impl_isRule r1) fun r3 => some (!r3)


noncomputable def F_impl_pop (p0 : (List Int)) : Option ((List Int)) :=
  bnd (slc p0 0 (if (w64 ((p0.length : Int) - 1)) > 0 then (w64 ((p0.length : Int) - 1)) else 0)) fun z1 => some z1


noncomputable def F_impl_runner_step (p0 : Grunner) : Option ((Bool) × (Int × (List Int) × (List Int))) :=
  bnd (F_impl_runner_rule p0) fun r1 => bnd (slc p0.right 0 (if (w64 ((p0.right.length : Int) - 1)) > 0 then (w64 ((p0.right.length : Int) - 1)) else 0)) fun z5 => bnd ((cond (decide (0 < r1.Move)) (cond (decide (r1.Write = 0)) (cond (decide ((p0.left.length : Int) = 0)) (some (.brk (p0.left, z5))) (bnd (app p0.left ([r1.Write] : List Int)) fun z19 => some (.brk (z19, z5)))) (bnd (app p0.left ([r1.Write] : List Int)) fun z23 => some (.brk (z23, z5)))) (bnd ((cond (decide (r1.Write = 0)) (cond (decide ((z5.length : Int) = 0)) (bnd (F_impl_nearest p0.left) fun r35 => (cond (decide (r35 = 0)) (some (.brk z5)) (bnd (app z5 ([r35] : List Int)) fun z41 => some (.brk z41)))) (bnd (app z5 ([r1.Write] : List Int)) fun z45 => bnd (F_impl_nearest p0.left) fun r48 => (cond (decide (r48 = 0)) (cond (decide ((z45.length : Int) = 0)) (some (.brk z45)) (bnd (app z45 ([r48] : List Int)) fun z55 => some (.brk z55))) (bnd (app z45 ([r48] : List Int)) fun z59 => some (.brk z59))))) (bnd (app z5 ([r1.Write] : List Int)) fun z63 => bnd (F_impl_nearest p0.left) fun r66 => (cond (decide (r66 = 0)) (cond (decide ((z63.length : Int) = 0)) (some (.brk z63)) (bnd (app z63 ([r66] : List Int)) fun z73 => some (.brk z73))) (bnd (app z63 ([r66] : List Int)) fun z77 => some (.brk z77))))) : Option (Out ((List Int)) ((Bool) × (Int × (List Int) × (List Int))))) (Out.elim (fun (s26 : (List Int)) => bnd (slc p0.left 0 (if (w64 ((p0.left.length : Int) - 1)) > 0 then (w64 ((p0.left.length : Int) - 1)) else 0)) fun z179 => some (.brk (z179, s26))) (fun (r : (Bool) × (Int × (List Int) × (List Int))) => some (.ret r))))) : Option (Out ((List Int) × (List Int)) ((Bool) × (Int × (List Int) × (List Int))))) (Out.elim (fun (s8 : (List Int) × (List Int)) => (cond (decide ((s8.1.length : Int) ≤ 200)) (some ((decide ((s8.2.length : Int) ≤ 200)), (r1.Next, s8.1, s8.2))) (some (false, (r1.Next, s8.1, s8.2))))) (fun (r : (Bool) × (Int × (List Int) × (List Int))) => some r))


noncomputable def F_impl_runner_config (p0 : Grunner) : Option (GConfig) :=
  bnd (F_impl_reversed p0.left) fun r11 => bnd (F_impl_reversed p0.right) fun r14 => some (⟨p0.state, r11, r14⟩ : GConfig)

noncomputable def F_impl_traceOf_L1 (p2 : Int) (r5 : (Int × Int × (List GRule) × Int × (List Int) × (List Int))) (s20 : Int × (List Int) × (List Int) × Int × (List GConfig)) : Option ((Int × (List Int) × (List Int) × Int × (List GConfig)) ⊕ Out (Int × (List Int) × (List Int) × Int × (List GConfig)) (Option ((List GConfig) × Int))) :=
  bnd (F_impl_runner_config (⟨r5.1, r5.2.1, r5.2.2.1, s20.1, s20.2.1, s20.2.2.1⟩ : Grunner)) fun r27 => bnd (app s20.2.2.2.2 ([r27] : List GConfig)) fun z31 => (cond (decide (s20.2.2.2.1 < p2)) (bnd (F_impl_runner_halts (⟨r5.1, r5.2.1, r5.2.2.1, s20.1, s20.2.1, s20.2.2.1⟩ : Grunner)) fun r35 => (cond (!r35) (bnd (F_impl_runner_step (⟨r5.1, r5.2.1, r5.2.2.1, s20.1, s20.2.1, s20.2.2.1⟩ : Grunner)) fun r38 => (cond (!r38.1) (some (.inr (.ret (some (([] : (List GConfig)), 5))))) (some (.inl (r38.2.1, r38.2.2.1, r38.2.2.2, (w64 (s20.2.2.2.1 + 1)), z31))))) (some (.inr (.brk (s20.1, s20.2.1, s20.2.2.1, s20.2.2.2.1, z31)))))) (some (.inr (.brk (s20.1, s20.2.1, s20.2.2.1, s20.2.2.2.1, z31)))))

noncomputable def F_impl_traceOf (p0 : GMachine) (p1 : GConfig) (p2 : Int) : Option ((List GConfig) × Int) :=
  bnd (F_impl_runnerOf p0 p1) fun r5 => bnd (run (F_impl_traceOf_L1 p2 r5) (r5.2.2.2.1, r5.2.2.2.2.1, r5.2.2.2.2.2, 0, ([] : List GConfig))) (Out.elim (fun (s20 : Int × (List Int) × (List Int) × Int × (List GConfig)) => some (s20.2.2.2.2, 0)) (fun (r : Option ((List GConfig) × Int)) => r))


noncomputable def F_impl_TraceMachine (p0 : GMachine) (p1 : GConfig) (p2 : Int) : Option ((List GConfig) × Int) :=
  bnd (F_impl_ValidConfig p0 p1) fun r3 => (cond (!r3) (some (([] : (List GConfig)), 1)) (bnd (F_impl_within p2 0 60) fun r6 => (cond (!r6) (some (([] : (List GConfig)), 2)) (bnd (F_impl_traceOf p0 p1 p2) fun r9 => some (r9.1, r9.2)))))

noncomputable def F_laws_r8Same_L1 (p0 : (List Int)) (p1 : (List Int)) (s2 : Int) : Option ((Int) ⊕ Out (Int) Bool) :=
  (cond (decide (s2 < (p0.length : Int))) (bnd (idx p0 s2) fun y5 => bnd (idx p1 s2) fun y9 => (cond (decide (y5 ≠ y9)) (some (.inr (.ret false))) (some (.inl (w64 (s2 + 1)))))) (some (.inr (.brk s2))))

noncomputable def F_laws_r8Same (p0 : (List Int)) (p1 : (List Int)) : Option (Bool) :=
  (cond (decide ((p0.length : Int) ≠ (p1.length : Int))) (some false) (bnd (run (F_laws_r8Same_L1 p0 p1) 0) (Out.elim (fun (s2 : Int) => some true) (fun (r : Bool) => some r))))

noncomputable def F_laws_r8Lists_L1 (p0 : (List (List Int))) (p1 : (List (List Int))) (s2 : Int) : Option ((Int) ⊕ Out (Int) Bool) :=
  (cond (decide (s2 < (p0.length : Int))) (bnd (idx p0 s2) fun y5 => bnd (idx p1 s2) fun y9 => bnd (F_laws_r8Same y5 y9) fun r16 => (cond (!r16) (some (.inr (.ret false))) (some (.inl (w64 (s2 + 1)))))) (some (.inr (.brk s2))))

noncomputable def F_laws_r8Lists (p0 : (List (List Int))) (p1 : (List (List Int))) : Option (Bool) :=
  (cond (decide ((p0.length : Int) ≠ (p1.length : Int))) (some false) (bnd (run (F_laws_r8Lists_L1 p0 p1) 0) (Out.elim (fun (s2 : Int) => some true) (fun (r : Bool) => some r))))


noncomputable def F_impl_IsTiling (p0 : (List GTile)) (p1 : (List Int)) (p2 : (List (List Int))) : Option (Bool) :=
  bnd (F_impl_ValidTiles p0) fun r1 => (cond (!r1) (some false) (bnd (F_impl_isFrame p1) fun r4 => (cond (!r4) (some false) (bnd (F_impl_topsOf p0 p1 p2) fun r7 => some r7.2))))


noncomputable def F_laws_r8Config (p0 : GConfig) (p1 : GConfig) : Option (Bool) :=
  (cond (decide (p0.State = p1.State)) (bnd (F_laws_r8Same p0.Left p1.Left) fun r4 => (cond r4 (bnd (F_laws_r8Same p0.Right p1.Right) fun r7 => some r7) (some false))) (some false))


noncomputable def F_impl_TopOf (p0 : (List GTile)) (p1 : (List Int)) (p2 : (List (List Int))) : Option ((List Int) × Int) :=
  bnd (F_impl_ValidTiles p0) fun r1 => (cond (!r1) (some (([] : (List Int)), 1)) (bnd (F_impl_isFrame p1) fun r4 => (cond (!r4) (some (([] : (List Int)), 2)) (bnd (F_impl_topsOf p0 p1 p2) fun r7 => (cond (!r7.2) (some (([] : (List Int)), 7)) (bnd (idx r7.1 (w64 ((r7.1.length : Int) - 1))) fun y11 => some (y11, 0)))))))

noncomputable def F_laws_FnTilings_L1 (r41 : (List GConfig) × Int) (r44 : (List GConfig) × Int) (s61 : Int) : Option ((Int) ⊕ Out (Int) Bool) :=
  (cond (decide (s61 < (r44.1.length : Int))) (bnd (idx r41.1 s61) fun y64 => bnd (idx r44.1 s61) fun y68 => bnd (F_laws_r8Config y64 y68) fun r77 => (cond (!r77) (some (.inr (.ret false))) (some (.inl (w64 (s61 + 1)))))) (some (.inr (.brk s61))))

noncomputable def F_laws_FnTilings (p0 : (List (Ik .u8))) (p1 : (List (Ik .u8))) : Option (Bool) :=
  bnd (F_laws_r8Long p0 p1) fun r1 => (cond r1 (some true) (bnd (F_spec_R8Row p0) fun r4 => bnd (F_laws_r8At p1 0 5) fun r9 => bnd (F_impl_TilesOfMachine r4.1) fun r11 => bnd (F_impl_RowOfConfig r4.1 r4.2.1 r4.2.2.1 r4.2.2.2) fun r14 => bnd (F_impl_TilingOfRun r4.1 r4.2.1 r4.2.2.1 r4.2.2.2 (w64 (1 + r9))) fun r17 => bnd (F_impl_CountTilings r11.1 r14.1 (w64 (1 + r9)) 20000) fun r20 => bnd ((cond (decide (r11.2 ≠ 0)) (some (.ret false)) (cond (decide (r14.2 ≠ 0)) (some (.ret false)) (cond (decide (r20.2 ≠ 0)) (some (.ret false)) (bnd (F_impl_ValidTiles r11.1) fun r27 => (cond (!r27) (some (.ret false)) (some (.brk ()))))))) : Option (Out (Unit) Bool)) (Out.elim (fun (s22 : Unit) => (cond (decide (r17.2 ≠ 0)) (bnd (F_impl_SolveTiling r11.1 r14.1 (w64 (1 + r9)) 20000) fun r31 => bnd ((cond (decide (r17.2 = 6)) (cond (decide (r20.1 = 0)) (some (.brk (decide (r31.2 = 3)))) (some (.brk false))) (some (.brk false))) : Option (Out (Bool) Bool)) (Out.elim (fun (s34 : Bool) => some s34) (fun (r : Bool) => some r))) (bnd (F_impl_SolveTiling r11.1 r14.1 (w64 (1 + r9)) 20000) fun r38 => bnd (F_impl_RunOfTiling r4.1 r14.1 r17.1) fun r41 => bnd (F_impl_TraceMachine r4.1 r4.2.1 (w64 (1 + r9))) fun r44 => bnd ((cond (decide (r38.2 ≠ 0)) (some (.ret false)) (cond (decide (r41.2 ≠ 0)) (some (.ret false)) (cond (decide (r44.2 ≠ 0)) (some (.ret false)) (cond (decide (r20.1 ≠ 1)) (some (.ret false)) (bnd (F_laws_r8Lists r38.1 r17.1) fun r53 => (cond (!r53) (some (.ret false)) (bnd (F_impl_IsTiling r11.1 r14.1 r17.1) fun r56 => (cond (!r56) (some (.ret false)) (cond (decide ((r41.1.length : Int) ≠ (r44.1.length : Int))) (some (.ret false)) (cond (decide ((r44.1.length : Int) ≠ (w64 ((w64 (1 + r9)) + 1)))) (some (.ret false)) (some (.brk ())))))))))))) : Option (Out (Unit) Bool)) (Out.elim (fun (s47 : Unit) => bnd (run (F_laws_FnTilings_L1 r41 r44) 0) (Out.elim (fun (s61 : Int) => bnd (F_impl_TopOf r11.1 r14.1 r17.1) fun r85 => bnd (F_impl_ConfigOfRow r4.1 r85.1) fun r88 => (cond (decide (r85.2 = 0)) (cond (decide (r88.2.2 = 0)) (bnd (idx r44.1 (w64 (1 + r9))) fun y94 => bnd (F_laws_r8Config r88.1 y94) fun r102 => some r102) (some false)) (some false))) (fun (r : Bool) => some r))) (fun (r : Bool) => some r))))) (fun (r : Bool) => some r))))

end Go.Fn
