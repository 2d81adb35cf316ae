/-
  What each function of the program computes, as a plain Lean function: printed by program off the translation. No condition.
-/
import Derived.Test.YtekeopjhihdmkaaTy
namespace Go.Fn
open Go Go.Tc
set_option linter.unusedVariables false

noncomputable def F_laws_b10Long (p0 : (List (Ik .u8))) : Option (Bool) :=
  some (decide (1048576 < (p0.length : Int)))


noncomputable def F_spec_l00Src_next (p0 : Gl00Src) : Option ((Int) × (Int × (Ik .u64))) :=
  bnd ((cond (decide (p0.at_ < (p0.code.length : Int))) (bnd (idx p0.code p0.at_) fun y4 => some (.brk (w64 y4.val))) (some (.brk 0))) : Option (Out (Int) ((Int) × (Int × (Ik .u64))))) (Out.elim (fun (s1 : Int) => (cond (decide ((w64 (p0.at_ + 1)) ≤ (p0.code.length : Int))) (some (s1, ((w64 (p0.at_ + 1)), (⟨(wk .u64 ((wk .u64 ((wk .u64 (p0.seed.val * 6364136223846793005)) + (wk .u64 s1))) + 1442695040888963407))⟩ : Ik .u64)))) (some ((w64 (kand .u64 (Int.fdiv (wk .u64 ((wk .u64 ((wk .u64 (p0.seed.val * 6364136223846793005)) + (wk .u64 s1))) + 1442695040888963407)) (2 ^ min (40 : Int).toNat (IntKind.bits .u64))) 255)), ((w64 (p0.at_ + 1)), (⟨(wk .u64 ((wk .u64 ((wk .u64 (p0.seed.val * 6364136223846793005)) + (wk .u64 s1))) + 1442695040888963407))⟩ : Ik .u64)))))) (fun (r : (Int) × (Int × (Ik .u64))) => some r))


noncomputable def F_spec_l00Src_pick (p0 : Gl00Src) (p1 : Int) : Option ((Int) × (Int × (Ik .u64))) :=
  (cond (decide (p1 ≤ 1)) (some (0, (p0.at_, p0.seed))) (bnd (F_spec_l00Src_next p0) fun r2 => (cond (decide (200 < p1)) (bnd (F_spec_l00Src_next (⟨p0.code, r2.2.1, r2.2.2⟩ : Gl00Src)) fun r5 => bnd (nz p1) fun u7 => some ((Int.tmod (w64 ((w64 (r2.1 * 256)) + r5.1)) p1), (r5.2.1, r5.2.2))) (bnd (nz p1) fun u9 => some ((Int.tmod r2.1 p1), (r2.2.1, r2.2.2))))))

noncomputable def F_spec_l10DrawWord_L1 (p0 : Gl00Src) (p3 : Int) (s4 : Int × (Ik .u64) × (List Int) × Int) : Option ((Int × (Ik .u64) × (List Int) × Int) ⊕ Out (Int × (Ik .u64) × (List Int) × Int) (((List Int)) × (Int × (Ik .u64)))) :=
  (cond (decide (0 < s4.2.2.2)) (bnd (F_spec_l00Src_pick (⟨p0.code, s4.1, s4.2.1⟩ : Gl00Src) p3) fun r7 => bnd (app s4.2.2.1 ([r7.1] : List Int)) fun z10 => some (.inl (r7.2.1, r7.2.2, z10, (w64 (s4.2.2.2 - 1))))) (some (.inr (.brk (s4.1, s4.2.1, s4.2.2.1, s4.2.2.2)))))

noncomputable def F_spec_l10DrawWord (p0 : Gl00Src) (p1 : Int) (p2 : Int) (p3 : Int) : Option (((List Int)) × (Int × (Ik .u64))) :=
  bnd (F_spec_l00Src_pick p0 (w64 ((w64 (p2 - p1)) + 1))) fun r2 => bnd (run (F_spec_l10DrawWord_L1 p0 p3) (r2.2.1, r2.2.2, ([] : List Int), (w64 (p1 + r2.1)))) (Out.elim (fun (s4 : Int × (Ik .u64) × (List Int) × Int) => some (s4.2.2.1, (s4.1, s4.2.1))) (fun (r : ((List Int)) × (Int × (Ik .u64))) => some r))


noncomputable def F_spec_l00Src_one (p0 : Gl00Src) (p1 : Int) : Option ((Bool) × (Int × (Ik .u64))) :=
  bnd (F_spec_l00Src_pick p0 p1) fun r1 => some ((decide (r1.1 = 0)), (r1.2.1, r1.2.2))

noncomputable def F_spec_l10DrawOk_L1 (p0 : Gl00Src) (r1 : (Int) × (Int × (Ik .u64))) (s6 : Int × (Ik .u64) × (List GRewrite) × Int) : Option ((Int × (Ik .u64) × (List GRewrite) × Int) ⊕ Out (Int × (Ik .u64) × (List GRewrite) × Int) (((List GRewrite)) × (Int × (Ik .u64)))) :=
  (cond (decide (0 < s6.2.2.2)) (bnd (F_spec_l10DrawWord (⟨p0.code, s6.1, s6.2.1⟩ : Gl00Src) 1 3 (w64 (2 + r1.1))) fun r9 => bnd (F_spec_l00Src_one (⟨p0.code, r9.2.1, r9.2.2⟩ : Gl00Src) 5) fun r12 => (cond r12.1 (bnd (F_spec_l10DrawWord (⟨p0.code, r12.2.1, r12.2.2⟩ : Gl00Src) 0 (w64 ((r9.1.length : Int) + 1)) (w64 (2 + r1.1))) fun r15 => bnd (app s6.2.2.1 ([(⟨r9.1, r15.1⟩ : GRewrite)] : List GRewrite)) fun z19 => some (.inl (r15.2.1, r15.2.2, z19, (w64 (s6.2.2.2 - 1))))) (bnd (F_spec_l10DrawWord (⟨p0.code, r12.2.1, r12.2.2⟩ : Gl00Src) 0 (r9.1.length : Int) (w64 (2 + r1.1))) fun r22 => bnd (app s6.2.2.1 ([(⟨r9.1, r22.1⟩ : GRewrite)] : List GRewrite)) fun z26 => some (.inl (r22.2.1, r22.2.2, z26, (w64 (s6.2.2.2 - 1))))))) (some (.inr (.brk (s6.1, s6.2.1, s6.2.2.1, s6.2.2.2)))))

noncomputable def F_spec_l10DrawOk (p0 : Gl00Src) : Option (((List GRewrite)) × (Int × (Ik .u64))) :=
  bnd (F_spec_l00Src_pick p0 2) fun r1 => bnd (F_spec_l00Src_pick (⟨p0.code, r1.2.1, r1.2.2⟩ : Gl00Src) 4) fun r4 => bnd (run (F_spec_l10DrawOk_L1 p0 r1) (r4.2.1, r4.2.2, ([] : List GRewrite), (w64 (1 + r4.1)))) (Out.elim (fun (s6 : Int × (Ik .u64) × (List GRewrite) × Int) => some (s6.2.2.1, (s6.1, s6.2.1))) (fun (r : ((List GRewrite)) × (Int × (Ik .u64))) => some r))

noncomputable def F_spec_l00Same_L1 (p0 : (List Int)) (p1 : (List Int)) (s2 : Int) : Option ((Int) ⊕ Out (Int) Bool) :=
  (cond (decide (s2 < (p0.length : Int))) (bnd (idx p0 s2) fun y5 => bnd (idx p1 s2) fun y9 => (cond (decide (y5 ≠ y9)) (some (.inr (.ret false))) (some (.inl (w64 (s2 + 1)))))) (some (.inr (.brk s2))))

noncomputable def F_spec_l00Same (p0 : (List Int)) (p1 : (List Int)) : Option (Bool) :=
  (cond (decide ((p0.length : Int) ≠ (p1.length : Int))) (some false) (bnd (run (F_spec_l00Same_L1 p0 p1) 0) (Out.elim (fun (s2 : Int) => some true) (fun (r : Bool) => some r))))


noncomputable def F_spec_l03At (p0 : (List Int)) (p1 : Int) (p2 : (List Int)) : Option (Bool) :=
  (cond (decide ((w64 (p1 + (p2.length : Int))) ≤ (p0.length : Int))) (bnd (slc p0 p1 (w64 (p1 + (p2.length : Int)))) fun z2 => bnd (F_spec_l00Same z2 p2) fun r5 => some r5) (some false))


noncomputable def F_spec_l00Own (p0 : (List Int)) : Option ((List Int)) :=
  bnd (app ([] : List Int) p0) fun z2 => some z2


noncomputable def F_spec_l03Put (p0 : (List Int)) (p1 : Int) (p2 : Int) (p3 : (List Int)) : Option ((List Int)) :=
  bnd (slc p0 0 p1) fun z1 => bnd (F_spec_l00Own z1) fun r4 => bnd (app r4 p3) fun z7 => bnd (slc p0 (w64 (p1 + p2)) (p0.length : Int)) fun z10 => bnd (app z7 z10) fun z13 => some z13


noncomputable def F_spec_l10Apply (p0 : (List GRewrite)) (p1 : (List Int)) (p2 : Int) (p3 : Int) : Option ((List Int) × Int) :=
  bnd (idx p0 p2) fun y1 => bnd (F_spec_l03At p1 p3 y1.From) fun r6 => (cond (!r6) (some (([] : (List Int)), 3)) (cond (decide (400 < (w64 ((w64 ((p1.length : Int) - (y1.From.length : Int))) + (y1.To.length : Int))))) (some (([] : (List Int)), 5)) (bnd (F_spec_l03Put p1 p3 (y1.From.length : Int) y1.To) fun r21 => some (r21, 0))))

noncomputable def F_spec_l10Key_L1 (p0 : (List Int)) (s4 : (List (Ik .u8)) × Int) : Option (((List (Ik .u8)) × Int) ⊕ Out ((List (Ik .u8)) × Int) ByteArray) :=
  (cond (decide (s4.2 < (p0.length : Int))) (bnd (idx p0 s4.2) fun y7 => bnd (idx s4.1 s4.2) fun y11 => some (.inl ((s4.1.set s4.2.toNat (⟨(wk .u8 y7)⟩ : Ik .u8)), (w64 (s4.2 + 1))))) (some (.inr (.brk (s4.1, s4.2)))))

noncomputable def F_spec_l10Key (p0 : (List Int)) : Option (ByteArray) :=
  bnd (mke (p0.length : Int) (⟨0⟩ : Ik .u8)) fun z1 => bnd (run (F_spec_l10Key_L1 p0) (z1, 0)) (Out.elim (fun (s4 : (List (Ik .u8)) × Int) => some (strOf s4.1)) (fun (r : ByteArray) => some r))

noncomputable def F_spec_l10Next_L3 (s7 : (List (List Int)) × (List (List Int)) × Bool × (List ByteArray) × Int) (r17 : ByteArray) (s20 : Int × Int) : Option ((Int × Int) ⊕ Out (Int × Int) (Option (((List (List Int)) × (List (List Int)) × Bool × (List ByteArray) × Int) ⊕ Out ((List (List Int)) × (List (List Int)) × Bool × (List ByteArray) × Int) ((List (List Int)) × (List (List Int)) × Bool)))) :=
  (cond (decide (s20.1 < s20.2)) (bnd (idx s7.2.2.2.1 (w64 (Int.tdiv (w64 (s20.1 + s20.2)) 2))) fun y23 => (cond (Op.bytesLess y23.toList r17.toList) (some (.inl ((w64 ((w64 (Int.tdiv (w64 (s20.1 + s20.2)) 2)) + 1)), s20.2))) (some (.inl (s20.1, (w64 (Int.tdiv (w64 (s20.1 + s20.2)) 2))))))) (some (.inr (.brk (s20.1, s20.2)))))

noncomputable def F_spec_l10Next_L2 (p0 : (List GRewrite)) (p1 : (List Int)) (s4 : (List (List Int)) × (List (List Int)) × Bool × (List ByteArray) × Int) (s7 : (List (List Int)) × (List (List Int)) × Bool × (List ByteArray) × Int) : Option (((List (List Int)) × (List (List Int)) × Bool × (List ByteArray) × Int) ⊕ Out ((List (List Int)) × (List (List Int)) × Bool × (List ByteArray) × Int) ((List (List Int)) × (List (List Int)) × Bool)) :=
  (cond (decide (s7.2.2.2.2 ≤ (p1.length : Int))) (bnd (F_spec_l10Apply p0 p1 s4.2.2.2.2 s7.2.2.2.2) fun r10 => bnd ((cond (decide (r10.2 = 5)) (some (.brk false)) (some (.brk s7.2.2.1))) : Option (Out (Bool) ((List (List Int)) × (List (List Int)) × Bool))) (Out.elim (fun (s13 : Bool) => (cond (decide (r10.2 ≠ 0)) (some (.inl (s7.1, s7.2.1, s13, s7.2.2.2.1, (w64 (s7.2.2.2.2 + 1))))) (bnd (F_spec_l10Key r10.1) fun r17 => bnd (run (F_spec_l10Next_L3 s7 r17) (0, (s7.2.2.2.1.length : Int))) (Out.elim (fun (s20 : Int × Int) => bnd ((cond (decide (s20.1 < (s7.2.2.2.1.length : Int))) (bnd (idx s7.2.2.2.1 s20.1) fun y32 => (cond (y32.toList == r17.toList) (some (.ret (some (.inl (s7.1, s7.2.1, s13, s7.2.2.2.1, (w64 (s7.2.2.2.2 + 1))))))) (some (.brk ())))) (some (.brk ()))) : Option (Out (Unit) (Option (((List (List Int)) × (List (List Int)) × Bool × (List ByteArray) × Int) ⊕ Out ((List (List Int)) × (List (List Int)) × Bool × (List ByteArray) × Int) ((List (List Int)) × (List (List Int)) × Bool))))) (Out.elim (fun (s29 : Unit) => bnd (app s7.2.2.2.1 ([(⟨#[]⟩ : ByteArray)] : List ByteArray)) fun z39 => bnd (slc z39 (w64 (s20.1 + 1)) (z39.length : Int)) fun z45 => bnd (slc z39 s20.1 (z39.length : Int)) fun z47 => bnd (idx (cpyAt z39 (w64 (s20.1 + 1)) (z39.length : Int) z47) s20.1) fun y49 => bnd (app s7.1 ([r10.1] : List (List Int))) fun z54 => bnd (app s7.2.1 ([([s4.2.2.2.2, s7.2.2.2.2] : List Int)] : List (List Int))) fun z59 => some (.inl (z54, z59, s13, ((cpyAt z39 (w64 (s20.1 + 1)) (z39.length : Int) z47).set s20.1.toNat r17), (w64 (s7.2.2.2.2 + 1))))) (fun (r : Option (((List (List Int)) × (List (List Int)) × Bool × (List ByteArray) × Int) ⊕ Out ((List (List Int)) × (List (List Int)) × Bool × (List ByteArray) × Int) ((List (List Int)) × (List (List Int)) × Bool))) => r))) (fun (r : Option (((List (List Int)) × (List (List Int)) × Bool × (List ByteArray) × Int) ⊕ Out ((List (List Int)) × (List (List Int)) × Bool × (List ByteArray) × Int) ((List (List Int)) × (List (List Int)) × Bool))) => r))))) (fun (r : (List (List Int)) × (List (List Int)) × Bool) => some (.inr (.ret r))))) (some (.inr (.brk (s7.1, s7.2.1, s7.2.2.1, s7.2.2.2.1, s7.2.2.2.2)))))

noncomputable def F_spec_l10Next_L1 (p0 : (List GRewrite)) (p1 : (List Int)) (s4 : (List (List Int)) × (List (List Int)) × Bool × (List ByteArray) × Int) : Option (((List (List Int)) × (List (List Int)) × Bool × (List ByteArray) × Int) ⊕ Out ((List (List Int)) × (List (List Int)) × Bool × (List ByteArray) × Int) ((List (List Int)) × (List (List Int)) × Bool)) :=
  (cond (decide (s4.2.2.2.2 < (p0.length : Int))) (bnd (run (F_spec_l10Next_L2 p0 p1 s4) (s4.1, s4.2.1, s4.2.2.1, s4.2.2.2.1, 0)) (Out.elim (fun (s7 : (List (List Int)) × (List (List Int)) × Bool × (List ByteArray) × Int) => some (.inl (s7.1, s7.2.1, s7.2.2.1, s7.2.2.2.1, (w64 (s4.2.2.2.2 + 1))))) (fun (r : (List (List Int)) × (List (List Int)) × Bool) => some (.inr (.ret r))))) (some (.inr (.brk (s4.1, s4.2.1, s4.2.2.1, s4.2.2.2.1, s4.2.2.2.2)))))

noncomputable def F_spec_l10Next (p0 : (List GRewrite)) (p1 : (List Int)) : Option ((List (List Int)) × (List (List Int)) × Bool) :=
  bnd (run (F_spec_l10Next_L1 p0 p1) (([] : List (List Int)), ([] : List (List Int)), true, ([] : List ByteArray), 0)) (Out.elim (fun (s4 : (List (List Int)) × (List (List Int)) × Bool × (List ByteArray) × Int) => some (s4.1, s4.2.1, s4.2.2.1)) (fun (r : (List (List Int)) × (List (List Int)) × Bool) => some r))

noncomputable def F_spec_B10Derived_L1 (p0 : (List (Ik .u8))) (r3 : ((List GRewrite)) × (Int × (Ik .u64))) (s12 : Int × (Ik .u64) × (List Int) × (List (List Int)) × Int) : Option ((Int × (Ik .u64) × (List Int) × (List (List Int)) × Int) ⊕ Out (Int × (Ik .u64) × (List Int) × (List (List Int)) × Int) ((List GRewrite) × (List Int) × (List Int) × (List (List Int)))) :=
  (cond (decide (0 < s12.2.2.2.2)) (bnd (F_spec_l10Next r3.1 s12.2.2.1) fun r15 => (cond (decide ((r15.1.length : Int) = 0)) (some (.inr (.brk (s12.1, s12.2.1, s12.2.2.1, s12.2.2.2.1, s12.2.2.2.2)))) (bnd (F_spec_l00Src_pick (⟨p0, s12.1, s12.2.1⟩ : Gl00Src) (r15.1.length : Int)) fun r19 => bnd (idx r15.1 r19.1) fun y21 => bnd (idx r15.2.1 r19.1) fun y26 => bnd (app s12.2.2.2.1 ([y26] : List (List Int))) fun z32 => some (.inl (r19.2.1, r19.2.2, y21, z32, (w64 (s12.2.2.2.2 - 1))))))) (some (.inr (.brk (s12.1, s12.2.1, s12.2.2.1, s12.2.2.2.1, s12.2.2.2.2)))))

noncomputable def F_spec_B10Derived (p0 : (List (Ik .u8))) : Option ((List GRewrite) × (List Int) × (List Int) × (List (List Int))) :=
  bnd (F_spec_l10DrawOk (⟨p0, 0, (⟨0⟩ : Ik .u64)⟩ : Gl00Src)) fun r3 => bnd (F_spec_l10DrawWord (⟨p0, r3.2.1, r3.2.2⟩ : Gl00Src) 0 6 3) fun r6 => bnd (F_spec_l00Src_pick (⟨p0, r6.2.1, r6.2.2⟩ : Gl00Src) 5) fun r10 => bnd (run (F_spec_B10Derived_L1 p0 r3) (r10.2.1, r10.2.2, r6.1, ([] : List (List Int)), r10.1)) (Out.elim (fun (s12 : Int × (Ik .u64) × (List Int) × (List (List Int)) × Int) => some (r3.1, r6.1, s12.2.2.1, s12.2.2.2.1)) (fun (r : (List GRewrite) × (List Int) × (List Int) × (List (List Int))) => some r))


noncomputable def F_impl_size_impl_Rewrite (p0 : (List GRewrite)) : Option (Int) :=
  some (p0.length : Int)


noncomputable def F_impl_within (p0 : Int) (p1 : Int) (p2 : Int) : Option (Bool) :=
  (cond (decide (p1 ≤ p0)) (some (decide (p0 ≤ p2))) (some false))

noncomputable def F_slices_IndexFunc_Simpl_Rewrite_impl_Rewrite_L1 (p0 : (List GRewrite)) (p1 : (GRewrite → Option Bool)) (s1 : Int) : Option ((Int) ⊕ Out (Int) Int) :=
  (cond (decide (s1 < (p0.length : Int))) (bnd (idx p0 s1) fun y4 => bnd (p1 y4) fun r8 => (cond r8 (some (.inr (.ret s1))) (some (.inl (w64 (s1 + 1)))))) (some (.inr (.brk s1))))

noncomputable def F_slices_IndexFunc_Simpl_Rewrite_impl_Rewrite (p0 : (List GRewrite)) (p1 : (GRewrite → Option Bool)) : Option (Int) :=
  bnd (run (F_slices_IndexFunc_Simpl_Rewrite_impl_Rewrite_L1 p0 p1) 0) (Out.elim (fun (s1 : Int) => some (-1)) (fun (r : Int) => some r))


noncomputable def F_slices_ContainsFunc_Simpl_Rewrite_impl_Rewrite (p0 : (List GRewrite)) (p1 : (GRewrite → Option Bool)) : Option (Bool) :=
  bnd (F_slices_IndexFunc_Simpl_Rewrite_impl_Rewrite p0 p1) fun r1 => some (decide (0 ≤ r1))

noncomputable def F_slices_IndexFunc_SSint64_Sint64_L1 (p0 : (List (List Int))) (p1 : ((List Int) → Option Bool)) (s1 : Int) : Option ((Int) ⊕ Out (Int) Int) :=
  (cond (decide (s1 < (p0.length : Int))) (bnd (idx p0 s1) fun y4 => bnd (p1 y4) fun r8 => (cond r8 (some (.inr (.ret s1))) (some (.inl (w64 (s1 + 1)))))) (some (.inr (.brk s1))))

noncomputable def F_slices_IndexFunc_SSint64_Sint64 (p0 : (List (List Int))) (p1 : ((List Int) → Option Bool)) : Option (Int) :=
  bnd (run (F_slices_IndexFunc_SSint64_Sint64_L1 p0 p1) 0) (Out.elim (fun (s1 : Int) => some (-1)) (fun (r : Int) => some r))


noncomputable def F_slices_ContainsFunc_SSint64_Sint64 (p0 : (List (List Int))) (p1 : ((List Int) → Option Bool)) : Option (Bool) :=
  bnd (F_slices_IndexFunc_SSint64_Sint64 p0 p1) fun r1 => some (decide (0 ≤ r1))

noncomputable def F_impl_allWithin_L1 (p0 : (List Int)) (p1 : Int) (p2 : Int) (s1 : Int) : Option ((Int) ⊕ Out (Int) Bool) :=
  (cond (decide (s1 < (p0.length : Int))) (bnd (idx p0 s1) fun y4 => bnd (F_impl_within y4 p1 p2) fun r8 => (cond (!r8) (some (.inr (.ret false))) (some (.inl (w64 (s1 + 1)))))) (some (.inr (.brk s1))))

noncomputable def F_impl_allWithin (p0 : (List Int)) (p1 : Int) (p2 : Int) : Option (Bool) :=
  bnd (run (F_impl_allWithin_L1 p0 p1 p2) 0) (Out.elim (fun (s1 : Int) => some true) (fun (r : Bool) => some r))


noncomputable def F_impl_isLetters (p0 : (List Int)) : Option (Bool) :=
  bnd (F_impl_allWithin p0 0 9) fun r1 => some r1


noncomputable def F_impl_IsWord (p0 : (List Int)) : Option (Bool) :=
  (cond (decide ((p0.length : Int) ≤ 400)) (bnd (F_impl_isLetters p0) fun r2 => some r2) (some false))


noncomputable def F_impl_areWords_1 (p0 : (List Int)) : Option (Bool) :=
  bnd (F_impl_IsWord p0) fun r1 => some (!r1)


noncomputable def F_impl_areWords (p0 : (List (List Int))) : Option (Bool) :=
  bnd (F_slices_ContainsFunc_SSint64_Sint64 p0 (fun x_ => F_impl_areWords_1 x_)) fun r1 => some (!r1)


noncomputable def F_impl_ValidRewrites_1 (p0 : GRewrite) : Option (Bool) :=
  bnd (F_impl_areWords ([p0.From, p0.To] : List (List Int))) fun r3 => (cond (!r3) (some true) (some (decide ((p0.From.length : Int) = 0))))


noncomputable def F_impl_ValidRewrites (p0 : (List GRewrite)) : Option (Bool) :=
  bnd (F_impl_size_impl_Rewrite p0) fun r1 => bnd (F_impl_within r1 1 60) fun r3 => (cond r3 (bnd (F_slices_ContainsFunc_Simpl_Rewrite_impl_Rewrite p0 (fun x_ => F_impl_ValidRewrites_1 x_)) fun r6 => some (!r6)) (some false))

noncomputable def F_slices_Concat_Sint64_int64_L1 (p0 : (List (List Int))) (s1 : Int × Int) : Option ((Int × Int) ⊕ Out (Int × Int) (List Int)) :=
  (cond (decide (s1.2 < (p0.length : Int))) (bnd (idx p0 s1.2) fun y4 => (cond (decide ((w64 (s1.1 + (y4.length : Int))) < 0)) none (some (.inl ((w64 (s1.1 + (y4.length : Int))), (w64 (s1.2 + 1))))))) (some (.inr (.brk (s1.1, s1.2)))))

noncomputable def F_slices_Concat_Sint64_int64_L2 (p0 : (List (List Int))) (s20 : (List Int) × Int) : Option (((List Int) × Int) ⊕ Out ((List Int) × Int) (List Int)) :=
  (cond (decide (s20.2 < (p0.length : Int))) (bnd (idx p0 s20.2) fun y23 => bnd (app s20.1 y23) fun z27 => some (.inl (z27, (w64 (s20.2 + 1))))) (some (.inr (.brk (s20.1, s20.2)))))

noncomputable def F_slices_Concat_Sint64_int64_L3 (p0 : (List (List Int))) (s30 : (List Int) × Int) : Option (((List Int) × Int) ⊕ Out ((List Int) × Int) (List Int)) :=
  (cond (decide (s30.2 < (p0.length : Int))) (bnd (idx p0 s30.2) fun y33 => bnd (app s30.1 y33) fun z37 => some (.inl (z37, (w64 (s30.2 + 1))))) (some (.inr (.brk (s30.1, s30.2)))))

noncomputable def F_slices_Concat_Sint64_int64 (p0 : (List (List Int))) : Option ((List Int)) :=
  bnd (run (F_slices_Concat_Sint64_int64_L1 p0) (0, 0)) (Out.elim (fun (s1 : Int × Int) => bnd ((cond (decide (s1.1 < 0)) none (some (.brk ()))) : Option (Out (Unit) (Option ((List Int))))) (Out.elim (fun (s10 : Unit) => (cond (decide (0 < (w64 (s1.1 - (w64 (((0 : Nat) : Int) - ((0 : Nat) : Int))))))) (bnd (mke (w64 (s1.1 - (w64 (((0 : Nat) : Int) - ((0 : Nat) : Int))))) (0 : Int)) fun z14 => bnd (slc z14 0 ((0 : Nat) : Int)) fun z17 => bnd (run (F_slices_Concat_Sint64_int64_L2 p0) (z17, 0)) (Out.elim (fun (s20 : (List Int) × Int) => some s20.1) (fun (r : (List Int)) => some r))) (bnd (run (F_slices_Concat_Sint64_int64_L3 p0) (([] : (List Int)), 0)) (Out.elim (fun (s30 : (List Int) × Int) => some s30.1) (fun (r : (List Int)) => some r))))) (fun (r : Option ((List Int))) => r))) (fun (r : (List Int)) => some r))


noncomputable def F_impl_joined (p0 : (List (List Int))) : Option ((List Int)) :=
  bnd (F_slices_Concat_Sint64_int64 p0) fun r1 => some r1


noncomputable def F_slices_Clone_Sint64_int64 (p0 : (List Int)) : Option ((List Int)) :=
  bnd (app ([] : List Int) p0) fun z3 => some z3


noncomputable def F_impl_size_impl_Domino (p0 : (List GDomino)) : Option (Int) :=
  some (p0.length : Int)

noncomputable def F_slices_IndexFunc_Simpl_Domino_impl_Domino_L1 (p0 : (List GDomino)) (p1 : (GDomino → Option Bool)) (s1 : Int) : Option ((Int) ⊕ Out (Int) Int) :=
  (cond (decide (s1 < (p0.length : Int))) (bnd (idx p0 s1) fun y4 => bnd (p1 y4) fun r8 => (cond r8 (some (.inr (.ret s1))) (some (.inl (w64 (s1 + 1)))))) (some (.inr (.brk s1))))

noncomputable def F_slices_IndexFunc_Simpl_Domino_impl_Domino (p0 : (List GDomino)) (p1 : (GDomino → Option Bool)) : Option (Int) :=
  bnd (run (F_slices_IndexFunc_Simpl_Domino_impl_Domino_L1 p0 p1) 0) (Out.elim (fun (s1 : Int) => some (-1)) (fun (r : Int) => some r))


noncomputable def F_slices_ContainsFunc_Simpl_Domino_impl_Domino (p0 : (List GDomino)) (p1 : (GDomino → Option Bool)) : Option (Bool) :=
  bnd (F_slices_IndexFunc_Simpl_Domino_impl_Domino p0 p1) fun r1 => some (decide (0 ≤ r1))


noncomputable def F_impl_validDomino (p0 : GDomino) : Option (Bool) :=
  bnd (F_impl_areWords ([p0.Top, p0.Bottom] : List (List Int))) fun r3 => (cond r3 (some (decide (0 < (w64 ((p0.Top.length : Int) + (p0.Bottom.length : Int)))))) (some false))


noncomputable def F_impl_ValidDominoes_1 (p0 : GDomino) : Option (Bool) :=
  bnd (F_impl_validDomino p0) fun r2 => some (!r2)


noncomputable def F_impl_ValidDominoes (p0 : (List GDomino)) : Option (Bool) :=
  bnd (F_impl_size_impl_Domino p0) fun r1 => bnd (F_impl_within r1 1 80) fun r3 => (cond r3 (bnd (F_slices_ContainsFunc_Simpl_Domino_impl_Domino p0 (fun x_ => F_impl_ValidDominoes_1 x_)) fun r6 => some (!r6)) (some false))

noncomputable def F_impl_rewritesToDominoes_L1 (s7 : (List GDomino) × Int) : Option (((List GDomino) × Int) ⊕ Out ((List GDomino) × Int) ((List GDomino) × Int)) :=
  (cond (decide (s7.2 < 6)) (bnd (app s7.1 ([(⟨([s7.2] : List Int), ([s7.2] : List Int)⟩ : GDomino)] : List GDomino)) fun z13 => some (.inl (z13, (w64 (s7.2 + 1))))) (some (.inr (.brk (s7.1, s7.2)))))

noncomputable def F_impl_rewritesToDominoes_L2 (p0 : (List GRewrite)) (s32 : (List GDomino) × Bool × Int) : Option (((List GDomino) × Bool × Int) ⊕ Out ((List GDomino) × Bool × Int) ((List GDomino) × Int)) :=
  (cond (decide (s32.2.2 < (p0.length : Int))) (bnd (idx p0 s32.2.2) fun y35 => (cond s32.2.1 (bnd (F_impl_joined ([y35.From, y35.To] : List (List Int))) fun r42 => bnd (F_impl_allWithin r42 0 5) fun r45 => bnd (F_slices_Clone_Sint64_int64 y35.From) fun r50 => bnd (F_slices_Clone_Sint64_int64 y35.To) fun r53 => bnd (app s32.1 ([(⟨r50, r53⟩ : GDomino)] : List GDomino)) fun z57 => some (.inl (z57, r45, (w64 (s32.2.2 + 1))))) (bnd (F_slices_Clone_Sint64_int64 y35.From) fun r63 => bnd (F_slices_Clone_Sint64_int64 y35.To) fun r66 => bnd (app s32.1 ([(⟨r63, r66⟩ : GDomino)] : List GDomino)) fun z70 => some (.inl (z70, false, (w64 (s32.2.2 + 1))))))) (some (.inr (.brk (s32.1, s32.2.1, s32.2.2)))))

noncomputable def F_impl_rewritesToDominoes (p0 : (List GRewrite)) (p1 : (List Int)) (p2 : (List Int)) : Option ((List GDomino) × Int) :=
  bnd (F_impl_joined ([([6] : List Int), p1, ([6] : List Int)] : List (List Int))) fun r3 => bnd (run (F_impl_rewritesToDominoes_L1) (([(⟨([6] : List Int), r3⟩ : GDomino)] : List GDomino), 0)) (Out.elim (fun (s7 : (List GDomino) × Int) => bnd (F_slices_Clone_Sint64_int64 ([6] : List Int)) fun r16 => bnd (F_slices_Clone_Sint64_int64 ([6] : List Int)) fun r19 => bnd (app s7.1 ([(⟨r16, r19⟩ : GDomino)] : List GDomino)) fun z23 => bnd (F_impl_joined ([p1, p2] : List (List Int))) fun r27 => bnd (F_impl_allWithin r27 0 5) fun r30 => bnd (run (F_impl_rewritesToDominoes_L2 p0) (z23, r30, 0)) (Out.elim (fun (s32 : (List GDomino) × Bool × Int) => bnd (F_impl_joined ([p2, ([6, 7] : List Int)] : List (List Int))) fun r75 => bnd (app s32.1 ([(⟨r75, ([7] : List Int)⟩ : GDomino)] : List GDomino)) fun z80 => (cond (!s32.2.1) (some (([] : (List GDomino)), 2)) (bnd (F_impl_ValidDominoes z80) fun r84 => (cond (!r84) (some (([] : (List GDomino)), 5)) (some (z80, 0)))))) (fun (r : (List GDomino) × Int) => some r))) (fun (r : (List GDomino) × Int) => some r))


noncomputable def F_impl_RewritesToDominoes (p0 : (List GRewrite)) (p1 : (List Int)) (p2 : (List Int)) : Option ((List GDomino) × Int) :=
  bnd (F_impl_ValidRewrites p0) fun r1 => (cond (!r1) (some (([] : (List GDomino)), 1)) (bnd (F_impl_areWords ([p1, p2] : List (List Int))) fun r5 => (cond (!r5) (some (([] : (List GDomino)), 1)) (bnd (F_impl_rewritesToDominoes p0 p1 p2) fun r8 => some (r8.1, r8.2)))))


noncomputable def F_impl_size_int64 (p0 : (List Int)) : Option (Int) :=
  some (p0.length : Int)

noncomputable def F_slices_Equal_Sint64_int64_L1 (p0 : (List Int)) (p1 : (List Int)) (s2 : Int) : Option ((Int) ⊕ Out (Int) Bool) :=
  (cond (decide (s2 < (p0.length : Int))) (bnd (idx p0 s2) fun y5 => bnd (idx p1 s2) fun y9 => (cond (decide (y5 ≠ y9)) (some (.inr (.ret false))) (some (.inl (w64 (s2 + 1)))))) (some (.inr (.brk s2))))

noncomputable def F_slices_Equal_Sint64_int64 (p0 : (List Int)) (p1 : (List Int)) : Option (Bool) :=
  (cond (decide ((p0.length : Int) ≠ (p1.length : Int))) (some false) (bnd (run (F_slices_Equal_Sint64_int64_L1 p0 p1) 0) (Out.elim (fun (s2 : Int) => some true) (fun (r : Bool) => some r))))


noncomputable def F_impl_begins (p0 : (List Int)) (p1 : (List Int)) : Option (Bool) :=
  (cond (decide ((p1.length : Int) ≤ (p0.length : Int))) (bnd (slc p0 0 (p1.length : Int)) fun z2 => bnd (F_slices_Equal_Sint64_int64 z2 p1) fun r5 => some r5) (some false))


noncomputable def F_impl_replaced (p0 : (List Int)) (p1 : Int) (p2 : Int) (p3 : (List Int)) : Option ((List Int)) :=
  bnd (slc p0 0 p1) fun z1 => bnd (slc p0 (w64 (p1 + p2)) (p0.length : Int)) fun z4 => bnd (F_impl_joined ([z1, p3, z4] : List (List Int))) fun r11 => some r11


noncomputable def F_impl_fitting (p0 : (List Int)) : Option ((List Int) × Int) :=
  (cond (decide (400 < (p0.length : Int))) (some (([] : (List Int)), 5)) (some (p0, 0)))


noncomputable def F_impl_applyRewrite (p0 : (List GRewrite)) (p1 : (List Int)) (p2 : Int) (p3 : Int) : Option ((List Int) × Int) :=
  bnd (bnd (F_impl_size_impl_Rewrite p0) fun r3 => bnd (F_impl_within p2 0 (w64 (r3 - 1))) fun r5 => (cond (!r5) (some (.ret (([] : (List Int)), 2))) (bnd (F_impl_size_int64 p1) fun r8 => bnd (F_impl_within p3 0 r8) fun r10 => (cond (!r10) (some (.ret (([] : (List Int)), 2))) (some (.brk ()))))) : Option (Out (Unit) ((List Int) × Int))) (Out.elim (fun (s1 : Unit) => bnd (idx p0 p2) fun y13 => bnd (slc p1 p3 (p1.length : Int)) fun z18 => bnd (F_impl_begins z18 y13.From) fun r24 => (cond (!r24) (some (([] : (List Int)), 3)) (bnd (F_impl_replaced p1 p3 (y13.From.length : Int) y13.To) fun r27 => bnd (F_impl_fitting r27) fun r30 => some (r30.1, r30.2)))) (fun (r : (List Int) × Int) => some r))

noncomputable def F_impl_derived_L1 (p0 : (List GRewrite)) (p2 : (List (List Int))) (s5 : (List Int) × Int) : Option (((List Int) × Int) ⊕ Out ((List Int) × Int) ((List Int) × Int)) :=
  (cond (decide (s5.2 < (p2.length : Int))) (bnd (idx p2 s5.2) fun y8 => (cond (decide ((y8.length : Int) ≠ 2)) (some (.inr (.ret (([] : (List Int)), 7)))) (bnd (idx y8 0) fun y13 => bnd (idx y8 1) fun y17 => bnd (F_impl_applyRewrite p0 s5.1 y13 y17) fun r24 => (cond (decide (r24.2 ≠ 0)) (some (.inr (.ret (([] : (List Int)), 7)))) (some (.inl (r24.1, (w64 (s5.2 + 1))))))))) (some (.inr (.brk (s5.1, s5.2)))))

noncomputable def F_impl_derived (p0 : (List GRewrite)) (p1 : (List Int)) (p2 : (List (List Int))) : Option ((List Int) × Int) :=
  (cond (decide (100 < (p2.length : Int))) (some (([] : (List Int)), 2)) (bnd (F_slices_Clone_Sint64_int64 p1) fun r2 => bnd (run (F_impl_derived_L1 p0 p2) (r2, 0)) (Out.elim (fun (s5 : (List Int) × Int) => some (s5.1, 0)) (fun (r : (List Int) × Int) => some r))))

noncomputable def F_impl_moved_L1 (p0 : (List Int)) (p1 : Int) (s2 : (List Int) × Int) : Option (((List Int) × Int) ⊕ Out ((List Int) × Int) (List Int)) :=
  (cond (decide (s2.2 < (p0.length : Int))) (bnd (idx p0 s2.2) fun y5 => bnd (app s2.1 ([(w64 (y5 + p1))] : List Int)) fun z10 => some (.inl (z10, (w64 (s2.2 + 1))))) (some (.inr (.brk (s2.1, s2.2)))))

noncomputable def F_impl_moved (p0 : (List Int)) (p1 : Int) : Option ((List Int)) :=
  bnd (run (F_impl_moved_L1 p0 p1) (([] : List Int), 0)) (Out.elim (fun (s2 : (List Int) × Int) => some s2.1) (fun (r : (List Int)) => some r))


noncomputable def F_impl_shortMatch (p0 : (List Int)) : Option ((List Int) × Int) :=
  (cond (decide (400 < (p0.length : Int))) (some (([] : (List Int)), 5)) (some (p0, 0)))

noncomputable def F_impl_MatchOfDerivation_L1 (p0 : (List GRewrite)) (p3 : (List (List Int))) (s13 : (List Int) × (List Int) × Int) : Option (((List Int) × (List Int) × Int) ⊕ Out ((List Int) × (List Int) × Int) ((List Int) × Int)) :=
  (cond (decide (s13.2.2 < (p3.length : Int))) (bnd (idx p3 s13.2.2) fun y16 => bnd (idx y16 0) fun y20 => bnd (idx y16 1) fun y24 => bnd (idx p0 y20) fun y28 => bnd (slc s13.2.1 (w64 (y24 + (y28.From.length : Int))) (s13.2.1.length : Int)) fun z33 => bnd (slc s13.2.1 0 y24) fun z36 => bnd (F_impl_moved z36 1) fun r39 => bnd (F_impl_moved z33 1) fun r43 => bnd (F_impl_joined ([s13.1, r39, ([(w64 (8 + y20))] : List Int), r43, ([7] : List Int)] : List (List Int))) fun r48 => bnd (F_impl_applyRewrite p0 s13.2.1 y20 y24) fun r51 => some (.inl (r48, r51.1, (w64 (s13.2.2 + 1))))) (some (.inr (.brk (s13.1, s13.2.1, s13.2.2)))))

noncomputable def F_impl_MatchOfDerivation (p0 : (List GRewrite)) (p1 : (List Int)) (p2 : (List Int)) (p3 : (List (List Int))) : Option ((List Int) × Int) :=
  bnd (F_impl_RewritesToDominoes p0 p1 p2) fun r1 => (cond (decide (r1.2 ≠ 0)) (some (([] : (List Int)), r1.2)) (bnd (F_impl_derived p0 p1 p3) fun r5 => (cond (decide (r5.2 ≠ 0)) (some (([] : (List Int)), r5.2)) (bnd (F_slices_Equal_Sint64_int64 r5.1 p2) fun r9 => (cond (!r9) (some (([] : (List Int)), 6)) (bnd (run (F_impl_MatchOfDerivation_L1 p0 p3) (([0] : List Int), p1, 0)) (Out.elim (fun (s13 : (List Int) × (List Int) × Int) => bnd (F_impl_size_impl_Domino r1.1) fun r54 => bnd (app s13.1 ([(w64 (r54 - 1))] : List Int)) fun z57 => bnd (F_impl_shortMatch z57) fun r60 => some (r60.1, r60.2)) (fun (r : (List Int) × Int) => some r))))))))


noncomputable def F_spec_l00In (p0 : Int) (p1 : Int) (p2 : Int) : Option (Bool) :=
  (cond (decide (p1 ≤ p0)) (some (decide (p0 ≤ p2))) (some false))

noncomputable def F_spec_l03Is_L1 (p0 : (List Int)) (s1 : Int) : Option ((Int) ⊕ Out (Int) Bool) :=
  (cond (decide (s1 < (p0.length : Int))) (bnd (idx p0 s1) fun y4 => bnd (F_spec_l00In y4 0 9) fun r8 => (cond (!r8) (some (.inr (.ret false))) (some (.inl (w64 (s1 + 1)))))) (some (.inr (.brk s1))))

noncomputable def F_spec_l03Is (p0 : (List Int)) : Option (Bool) :=
  bnd (run (F_spec_l03Is_L1 p0) 0) (Out.elim (fun (s1 : Int) => some (decide ((p0.length : Int) ≤ 400))) (fun (r : Bool) => some r))

noncomputable def F_spec_l10Is_L1 (p0 : (List GRewrite)) (s5 : Int) : Option ((Int) ⊕ Out (Int) Bool) :=
  (cond (decide (s5 < (p0.length : Int))) (bnd (idx p0 s5) fun y8 => bnd (F_spec_l03Is y8.From) fun r13 => (cond (!r13) (some (.inr (.ret false))) (bnd (idx p0 s5) fun y16 => bnd (F_spec_l03Is y16.To) fun r21 => (cond (!r21) (some (.inr (.ret false))) (bnd (idx p0 s5) fun y24 => (cond (decide ((y24.From.length : Int) = 0)) (some (.inr (.ret false))) (some (.inl (w64 (s5 + 1)))))))))) (some (.inr (.brk s5))))

noncomputable def F_spec_l10Is (p0 : (List GRewrite)) : Option (Bool) :=
  bnd ((cond (decide ((p0.length : Int) < 1)) (some (.ret false)) (cond (decide (60 < (p0.length : Int))) (some (.ret false)) (some (.brk ())))) : Option (Out (Unit) Bool)) (Out.elim (fun (s1 : Unit) => bnd (run (F_spec_l10Is_L1 p0) 0) (Out.elim (fun (s5 : Int) => some true) (fun (r : Bool) => some r))) (fun (r : Bool) => some r))


noncomputable def F_spec_l32Ready (p0 : (List GRewrite)) (p1 : (List Int)) (p2 : (List Int)) : Option (Bool) :=
  bnd (F_spec_l10Is p0) fun r1 => (cond r1 (bnd (F_spec_l03Is p1) fun r4 => (cond r4 (bnd (F_spec_l03Is p2) fun r7 => some r7) (some false))) (some false))

noncomputable def F_spec_l06Row_L1 (p0 : (List Int)) (p2 : Int) (p3 : Int) (s2 : Int) : Option ((Int) ⊕ Out (Int) Bool) :=
  (cond (decide (s2 < (p0.length : Int))) (bnd (idx p0 s2) fun y5 => bnd (F_spec_l00In y5 p2 p3) fun r9 => (cond (!r9) (some (.inr (.ret false))) (some (.inl (w64 (s2 + 1)))))) (some (.inr (.brk s2))))

noncomputable def F_spec_l06Row (p0 : (List Int)) (p1 : Int) (p2 : Int) (p3 : Int) : Option (Bool) :=
  (cond (decide ((p0.length : Int) ≠ p1)) (some false) (bnd (run (F_spec_l06Row_L1 p0 p2 p3) 0) (Out.elim (fun (s2 : Int) => some true) (fun (r : Bool) => some r))))

noncomputable def F_spec_l32Least_L1 (p0 : (List GDomino)) (p1 : Int) (s1 : Int) : Option ((Int) ⊕ Out (Int) Bool) :=
  (cond (decide (s1 < (p0.length : Int))) (bnd (idx p0 s1) fun y4 => bnd (idx p0 s1) fun y9 => bnd (F_spec_l06Row y4.Top (y9.Top.length : Int) 0 p1) fun r17 => (cond (!r17) (some (.inr (.ret false))) (bnd (idx p0 s1) fun y20 => bnd (idx p0 s1) fun y28 => bnd (F_spec_l06Row y20.Bottom (y28.Bottom.length : Int) 0 p1) fun r36 => (cond (!r36) (some (.inr (.ret false))) (some (.inl (w64 (s1 + 1)))))))) (some (.inr (.brk s1))))

noncomputable def F_spec_l32Least (p0 : (List GDomino)) (p1 : Int) : Option (Bool) :=
  bnd (run (F_spec_l32Least_L1 p0 p1) 0) (Out.elim (fun (s1 : Int) => some true) (fun (r : Bool) => some r))

noncomputable def F_spec_l32Is_L1 (p0 : (List GDomino)) (s5 : Int) : Option ((Int) ⊕ Out (Int) Bool) :=
  (cond (decide (s5 < (p0.length : Int))) (bnd (idx p0 s5) fun y8 => bnd (F_spec_l03Is y8.Top) fun r16 => (cond (!r16) (some (.inr (.ret false))) (bnd (idx p0 s5) fun y19 => bnd (F_spec_l03Is y19.Bottom) fun r27 => (cond (!r27) (some (.inr (.ret false))) (bnd (idx p0 s5) fun y30 => bnd (idx p0 s5) fun y38 => (cond (decide ((w64 ((y30.Top.length : Int) + (y38.Bottom.length : Int))) = 0)) (some (.inr (.ret false))) (some (.inl (w64 (s5 + 1)))))))))) (some (.inr (.brk s5))))

noncomputable def F_spec_l32Is (p0 : (List GDomino)) : Option (Bool) :=
  bnd ((cond (decide ((p0.length : Int) < 1)) (some (.ret false)) (cond (decide (80 < (p0.length : Int))) (some (.ret false)) (some (.brk ())))) : Option (Out (Unit) Bool)) (Out.elim (fun (s1 : Unit) => bnd (run (F_spec_l32Is_L1 p0) 0) (Out.elim (fun (s5 : Int) => some true) (fun (r : Bool) => some r))) (fun (r : Bool) => some r))

noncomputable def F_spec_l32Rules_L1 (s11 : (List GDomino) × Int) : Option (((List GDomino) × Int) ⊕ Out ((List GDomino) × Int) ((List GDomino) × Int)) :=
  (cond (decide (s11.2 ≤ 5)) (bnd (app s11.1 ([(⟨([s11.2] : List Int), ([s11.2] : List Int)⟩ : GDomino)] : List GDomino)) fun z17 => some (.inl (z17, (w64 (s11.2 + 1))))) (some (.inr (.brk (s11.1, s11.2)))))

noncomputable def F_spec_l32Rules_L2 (p0 : (List GRewrite)) (s26 : (List GDomino) × Int) : Option (((List GDomino) × Int) ⊕ Out ((List GDomino) × Int) ((List GDomino) × Int)) :=
  (cond (decide (s26.2 < (p0.length : Int))) (bnd (idx p0 s26.2) fun y29 => bnd (idx p0 s26.2) fun y34 => bnd (F_spec_l00Own y29.From) fun r42 => bnd (F_spec_l00Own y34.To) fun r45 => bnd (app s26.1 ([(⟨r42, r45⟩ : GDomino)] : List GDomino)) fun z49 => some (.inl (z49, (w64 (s26.2 + 1))))) (some (.inr (.brk (s26.1, s26.2)))))

noncomputable def F_spec_l32Rules (p0 : (List GRewrite)) (p1 : (List Int)) (p2 : (List Int)) : Option ((List GDomino) × Int) :=
  bnd (app ([6] : List Int) p1) fun z3 => bnd (app z3 ([6] : List Int)) fun z7 => bnd (run (F_spec_l32Rules_L1) (([(⟨([6] : List Int), z7⟩ : GDomino)] : List GDomino), 0)) (Out.elim (fun (s11 : (List GDomino) × Int) => bnd (app s11.1 ([(⟨([6] : List Int), ([6] : List Int)⟩ : GDomino)] : List GDomino)) fun z23 => bnd (run (F_spec_l32Rules_L2 p0) (z23, 0)) (Out.elim (fun (s26 : (List GDomino) × Int) => bnd (bnd (slc s26.1 8 (s26.1.length : Int)) fun z54 => bnd (F_spec_l32Least z54 5) fun r57 => (cond (!r57) (some (.ret (([] : (List GDomino)), 2))) (bnd (F_spec_l06Row p1 (p1.length : Int) 0 5) fun r60 => (cond (!r60) (some (.ret (([] : (List GDomino)), 2))) (bnd (F_spec_l06Row p2 (p2.length : Int) 0 5) fun r63 => (cond (!r63) (some (.ret (([] : (List GDomino)), 2))) (some (.brk ()))))))) : Option (Out (Unit) ((List GDomino) × Int))) (Out.elim (fun (s52 : Unit) => bnd (F_spec_l00Own p2) fun r66 => bnd (app r66 ([6, 7] : List Int)) fun z70 => bnd (app s26.1 ([(⟨z70, ([7] : List Int)⟩ : GDomino)] : List GDomino)) fun z75 => bnd (F_spec_l32Is z75) fun r78 => (cond (!r78) (some (([] : (List GDomino)), 5)) (some (z75, 0)))) (fun (r : (List GDomino) × Int) => some r))) (fun (r : (List GDomino) × Int) => some r))) (fun (r : (List GDomino) × Int) => some r))


noncomputable def F_spec_ApplyRewrite (p0 : (List GRewrite)) (p1 : (List Int)) (p2 : Int) (p3 : Int) : Option ((List Int) × Int) :=
  bnd (bnd (F_spec_l10Is p0) fun r3 => (cond (!r3) (some (.ret (([] : (List Int)), 1))) (bnd (F_spec_l03Is p1) fun r6 => (cond (!r6) (some (.ret (([] : (List Int)), 1))) (some (.brk ()))))) : Option (Out (Unit) ((List Int) × Int))) (Out.elim (fun (s1 : Unit) => bnd (F_spec_l00In p2 0 (w64 ((p0.length : Int) - 1))) fun r9 => (cond (!r9) (some (([] : (List Int)), 2)) (bnd (F_spec_l00In p3 0 (p1.length : Int)) fun r12 => (cond (!r12) (some (([] : (List Int)), 2)) (bnd (F_spec_l10Apply p0 p1 p2 p3) fun r15 => some (r15.1, r15.2)))))) (fun (r : (List Int) × Int) => some r))

noncomputable def F_spec_CheckDerivation_L1 (p0 : (List GRewrite)) (p2 : (List (List Int))) (s13 : (List Int) × Int) : Option (((List Int) × Int) ⊕ Out ((List Int) × Int) ((List Int) × Int)) :=
  (cond (decide (s13.2 < (p2.length : Int))) (bnd (idx p2 s13.2) fun y16 => (cond (decide ((y16.length : Int) ≠ 2)) (some (.inr (.ret (([] : (List Int)), 7)))) (bnd (idx p2 s13.2) fun y21 => bnd (idx y21 0) fun y25 => bnd (idx p2 s13.2) fun y29 => bnd (idx y29 1) fun y33 => bnd (F_spec_ApplyRewrite p0 s13.1 y25 y33) fun r40 => (cond (decide (r40.2 ≠ 0)) (some (.inr (.ret (([] : (List Int)), 7)))) (some (.inl (r40.1, (w64 (s13.2 + 1))))))))) (some (.inr (.brk (s13.1, s13.2)))))

noncomputable def F_spec_CheckDerivation (p0 : (List GRewrite)) (p1 : (List Int)) (p2 : (List (List Int))) : Option ((List Int) × Int) :=
  bnd (bnd (F_spec_l10Is p0) fun r3 => (cond (!r3) (some (.ret (([] : (List Int)), 1))) (bnd (F_spec_l03Is p1) fun r6 => (cond (!r6) (some (.ret (([] : (List Int)), 1))) (some (.brk ()))))) : Option (Out (Unit) ((List Int) × Int))) (Out.elim (fun (s1 : Unit) => (cond (decide (100 < (p2.length : Int))) (some (([] : (List Int)), 2)) (bnd (F_spec_l00Own p1) fun r10 => bnd (run (F_spec_CheckDerivation_L1 p0 p2) (r10, 0)) (Out.elim (fun (s13 : (List Int) × Int) => some (s13.1, 0)) (fun (r : (List Int) × Int) => some r))))) (fun (r : (List Int) × Int) => some r))

noncomputable def F_spec_MatchOfDerivation_L2 (z41 : (List Int)) (s45 : (List Int) × Int) : Option (((List Int) × Int) ⊕ Out ((List Int) × Int) (Option (((List Int) × (List Int) × Int) ⊕ Out ((List Int) × (List Int) × Int) ((List Int) × Int)))) :=
  (cond (decide (s45.2 < (z41.length : Int))) (bnd (idx z41 s45.2) fun y48 => bnd (app s45.1 ([(w64 (1 + y48))] : List Int)) fun z53 => some (.inl (z53, (w64 (s45.2 + 1))))) (some (.inr (.brk (s45.1, s45.2)))))

noncomputable def F_spec_MatchOfDerivation_L3 (z70 : (List Int)) (s74 : (List Int) × Int) : Option (((List Int) × Int) ⊕ Out ((List Int) × Int) (Option (((List Int) × (List Int) × Int) ⊕ Out ((List Int) × (List Int) × Int) ((List Int) × Int)))) :=
  (cond (decide (s74.2 < (z70.length : Int))) (bnd (idx z70 s74.2) fun y77 => bnd (app s74.1 ([(w64 (1 + y77))] : List Int)) fun z82 => some (.inl (z82, (w64 (s74.2 + 1))))) (some (.inr (.brk (s74.1, s74.2)))))

noncomputable def F_spec_MatchOfDerivation_L1 (p0 : (List GRewrite)) (p3 : (List (List Int))) (s19 : (List Int) × (List Int) × Int) : Option (((List Int) × (List Int) × Int) ⊕ Out ((List Int) × (List Int) × Int) ((List Int) × Int)) :=
  (cond (decide (s19.2.2 < (p3.length : Int))) (bnd (idx p3 s19.2.2) fun y22 => bnd (idx y22 0) fun y26 => bnd (idx p0 y26) fun y30 => bnd (idx p3 s19.2.2) fun y33 => bnd (idx y33 1) fun y37 => bnd (slc s19.2.1 0 y37) fun z41 => bnd (run (F_spec_MatchOfDerivation_L2 z41) (s19.1, 0)) (Out.elim (fun (s45 : (List Int) × Int) => bnd (idx p3 s19.2.2) fun y56 => bnd (idx y56 0) fun y60 => bnd (app s45.1 ([(w64 (8 + y60))] : List Int)) fun z65 => bnd (slc s19.2.1 (w64 (y37 + (y30.From.length : Int))) (s19.2.1.length : Int)) fun z70 => bnd (run (F_spec_MatchOfDerivation_L3 z70) (z65, 0)) (Out.elim (fun (s74 : (List Int) × Int) => bnd (app s74.1 ([7] : List Int)) fun z86 => bnd (F_spec_l03Put s19.2.1 y37 (y30.From.length : Int) y30.To) fun r96 => (cond (decide (400 < (z86.length : Int))) (some (.inr (.ret (([] : (List Int)), 5)))) (some (.inl (z86, r96, (w64 (s19.2.2 + 1))))))) (fun (r : Option (((List Int) × (List Int) × Int) ⊕ Out ((List Int) × (List Int) × Int) ((List Int) × Int))) => r))) (fun (r : Option (((List Int) × (List Int) × Int) ⊕ Out ((List Int) × (List Int) × Int) ((List Int) × Int))) => r))) (some (.inr (.brk (s19.1, s19.2.1, s19.2.2)))))

noncomputable def F_spec_MatchOfDerivation (p0 : (List GRewrite)) (p1 : (List Int)) (p2 : (List Int)) (p3 : (List (List Int))) : Option ((List Int) × Int) :=
  bnd (F_spec_l32Ready p0 p1 p2) fun r1 => (cond (!r1) (some (([] : (List Int)), 1)) (bnd (F_spec_l32Rules p0 p1 p2) fun r4 => (cond (decide (r4.2 ≠ 0)) (some (([] : (List Int)), r4.2)) (bnd (F_spec_CheckDerivation p0 p1 p3) fun r8 => (cond (decide (r8.2 ≠ 0)) (some (([] : (List Int)), r8.2)) (bnd (F_spec_l00Same r8.1 p2) fun r12 => (cond (!r12) (some (([] : (List Int)), 6)) (bnd (F_spec_l00Own p1) fun r16 => bnd (run (F_spec_MatchOfDerivation_L1 p0 p3) (([0] : List Int), r16, 0)) (Out.elim (fun (s19 : (List Int) × (List Int) × Int) => bnd (app s19.1 ([(w64 ((r4.1.length : Int) - 1))] : List Int)) fun z101 => (cond (decide (400 < (z101.length : Int))) (some (([] : (List Int)), 5)) (some (z101, 0)))) (fun (r : (List Int) × Int) => some r))))))))))


noncomputable def F_impl_matchRange (p0 : (List GDomino)) (p1 : (List Int)) : Option (Bool) :=
  bnd (F_impl_size_int64 p1) fun r1 => bnd (F_impl_within r1 1 400) fun r3 => (cond r3 (bnd (F_impl_size_impl_Domino p0) fun r6 => bnd (F_impl_allWithin p1 0 (w64 (r6 - 1))) fun r8 => some r8) (some false))

noncomputable def F_impl_matchWord_L1 (p0 : (List GDomino)) (p1 : (List Int)) (s6 : (List Int) × (List Int) × Int) : Option (((List Int) × (List Int) × Int) ⊕ Out ((List Int) × (List Int) × Int) ((List Int) × Int)) :=
  (cond (decide (s6.2.2 < (p1.length : Int))) (bnd (idx p1 s6.2.2) fun y9 => bnd (idx p0 y9) fun y13 => bnd (idx p0 y9) fun y18 => bnd (app s6.1 y13.Top) fun z26 => bnd (app s6.2.1 y18.Bottom) fun z29 => some (.inl (z26, z29, (w64 (s6.2.2 + 1))))) (some (.inr (.brk (s6.1, s6.2.1, s6.2.2)))))

noncomputable def F_impl_matchWord (p0 : (List GDomino)) (p1 : (List Int)) : Option ((List Int) × Int) :=
  bnd (F_impl_matchRange p0 p1) fun r1 => (cond (!r1) (some (([] : (List Int)), 2)) (bnd (run (F_impl_matchWord_L1 p0 p1) (([] : List Int), ([] : List Int), 0)) (Out.elim (fun (s6 : (List Int) × (List Int) × Int) => (cond (decide (4000 < (s6.1.length : Int))) (some (([] : (List Int)), 5)) (cond (decide (4000 < (s6.2.1.length : Int))) (some (([] : (List Int)), 5)) (bnd (F_slices_Equal_Sint64_int64 s6.1 s6.2.1) fun r34 => (cond (!r34) (some (([] : (List Int)), 6)) (some (s6.1, 0))))))) (fun (r : (List Int) × Int) => some r))))


noncomputable def F_impl_MatchWord (p0 : (List GDomino)) (p1 : (List Int)) : Option ((List Int) × Int) :=
  bnd (F_impl_ValidDominoes p0) fun r1 => (cond (!r1) (some (([] : (List Int)), 1)) (bnd (F_impl_matchWord p0 p1) fun r4 => some (r4.1, r4.2)))


noncomputable def F_impl_shortDerivation (p0 : (List (List Int))) : Option ((List (List Int)) × Int) :=
  (cond (decide (100 < (p0.length : Int))) (some (([] : (List (List Int))), 5)) (some (p0, 0)))

noncomputable def F_impl_DerivationOfMatch_L1 (r1 : (List GDomino) × Int) (z15 : (List Int)) (s18 : (List (List Int)) × Int × Int) : Option (((List (List Int)) × Int × Int) ⊕ Out ((List (List Int)) × Int × Int) ((List (List Int)) × Int)) :=
  (cond (decide (s18.2.2 < (z15.length : Int))) (bnd (idx z15 s18.2.2) fun y21 => bnd (F_impl_size_impl_Domino r1.1) fun r25 => (cond (decide (y21 = (w64 (r25 - 1)))) (bnd (F_impl_shortDerivation s18.1) fun r28 => some (.inr (.ret (r28.1, r28.2)))) (cond (decide (y21 = 0)) (some (.inl (s18.1, 0, (w64 (s18.2.2 + 1))))) (cond (decide (y21 = 7)) (some (.inl (s18.1, 0, (w64 (s18.2.2 + 1))))) (cond (decide (8 ≤ y21)) (bnd (app s18.1 ([([(w64 (y21 - 8)), s18.2.1] : List Int)] : List (List Int))) fun z36 => bnd (idx r1.1 y21) fun y39 => bnd (F_impl_size_int64 y39.Bottom) fun r44 => some (.inl (z36, (w64 (s18.2.1 + r44)), (w64 (s18.2.2 + 1))))) (bnd (idx r1.1 y21) fun y46 => bnd (F_impl_size_int64 y46.Bottom) fun r51 => some (.inl (s18.1, (w64 (s18.2.1 + r51)), (w64 (s18.2.2 + 1)))))))))) (some (.inr (.brk (s18.1, s18.2.1, s18.2.2)))))

noncomputable def F_impl_DerivationOfMatch (p0 : (List GRewrite)) (p1 : (List Int)) (p2 : (List Int)) (p3 : (List Int)) : Option ((List (List Int)) × Int) :=
  bnd (F_impl_RewritesToDominoes p0 p1 p2) fun r1 => (cond (decide (r1.2 ≠ 0)) (some (([] : (List (List Int))), r1.2)) (bnd (F_impl_matchWord r1.1 p3) fun r5 => (cond (decide (r5.2 ≠ 0)) (some (([] : (List (List Int))), r5.2)) (bnd (idx p3 0) fun y9 => (cond (decide (y9 ≠ 0)) (some (([] : (List (List Int))), 7)) (bnd (slc p3 1 (p3.length : Int)) fun z15 => bnd (run (F_impl_DerivationOfMatch_L1 r1 z15) (([] : List (List Int)), 0, 0)) (Out.elim (fun (s18 : (List (List Int)) × Int × Int) => bnd (F_impl_shortDerivation s18.1) fun r53 => some (r53.1, r53.2)) (fun (r : (List (List Int)) × Int) => some r))))))))


noncomputable def F_impl_CheckDerivation (p0 : (List GRewrite)) (p1 : (List Int)) (p2 : (List (List Int))) : Option ((List Int) × Int) :=
  bnd (F_impl_ValidRewrites p0) fun r1 => (cond (!r1) (some (([] : (List Int)), 1)) (bnd (F_impl_IsWord p1) fun r4 => (cond (!r4) (some (([] : (List Int)), 1)) (bnd (F_impl_derived p0 p1 p2) fun r7 => some (r7.1, r7.2)))))

noncomputable def F_laws_b10Nums_L1 (p0 : (List Int)) (p1 : (List Int)) (s2 : Int) : Option ((Int) ⊕ Out (Int) Bool) :=
  (cond (decide (s2 < (p0.length : Int))) (bnd (idx p0 s2) fun y5 => bnd (idx p1 s2) fun y9 => (cond (decide (y5 ≠ y9)) (some (.inr (.ret false))) (some (.inl (w64 (s2 + 1)))))) (some (.inr (.brk s2))))

noncomputable def F_laws_b10Nums (p0 : (List Int)) (p1 : (List Int)) : Option (Bool) :=
  (cond (decide ((p0.length : Int) ≠ (p1.length : Int))) (some false) (bnd (run (F_laws_b10Nums_L1 p0 p1) 0) (Out.elim (fun (s2 : Int) => some true) (fun (r : Bool) => some r))))

noncomputable def F_laws_b10Rows_L1 (p0 : (List (List Int))) (p1 : (List (List Int))) (s2 : Int) : Option ((Int) ⊕ Out (Int) Bool) :=
  (cond (decide (s2 < (p0.length : Int))) (bnd (idx p0 s2) fun y5 => bnd (idx p1 s2) fun y9 => bnd (F_laws_b10Nums y5 y9) fun r16 => (cond (!r16) (some (.inr (.ret false))) (some (.inl (w64 (s2 + 1)))))) (some (.inr (.brk s2))))

noncomputable def F_laws_b10Rows (p0 : (List (List Int))) (p1 : (List (List Int))) : Option (Bool) :=
  (cond (decide ((p0.length : Int) ≠ (p1.length : Int))) (some false) (bnd (run (F_laws_b10Rows_L1 p0 p1) 0) (Out.elim (fun (s2 : Int) => some true) (fun (r : Bool) => some r))))


noncomputable def F_laws_FnRewriteDominoes (p0 : (List (Ik .u8))) : Option (Bool) :=
  bnd (F_laws_b10Long p0) fun r1 => (cond r1 (some true) (bnd (F_spec_B10Derived p0) fun r4 => bnd (F_impl_RewritesToDominoes r4.1 r4.2.1 r4.2.2.1) fun r7 => bnd (F_impl_MatchOfDerivation r4.1 r4.2.1 r4.2.2.1 r4.2.2.2) fun r10 => bnd ((cond (decide (r7.2 ≠ 0)) (bnd (F_spec_MatchOfDerivation r4.1 r4.2.1 r4.2.2.1 r4.2.2.2) fun r16 => (cond (decide (r7.2 = 0)) (some (.ret (decide (r10.2 = r16.2)))) (some (.ret false)))) (cond (decide (r10.2 ≠ 0)) (bnd (F_spec_MatchOfDerivation r4.1 r4.2.1 r4.2.2.1 r4.2.2.2) fun r21 => (cond (decide (r7.2 = 0)) (some (.ret (decide (r10.2 = r21.2)))) (some (.ret false)))) (some (.brk ())))) : Option (Out (Unit) Bool)) (Out.elim (fun (s13 : Unit) => bnd (F_impl_MatchWord r7.1 r10.1) fun r25 => bnd (F_impl_DerivationOfMatch r4.1 r4.2.1 r4.2.2.1 r10.1) fun r28 => bnd ((cond (decide (r25.2 ≠ 0)) (some (.ret false)) (cond (decide (r28.2 ≠ 0)) (some (.ret false)) (cond (decide ((r25.1.length : Int) < (w64 ((r4.2.2.1.length : Int) + 3)))) (some (.ret false)) (some (.brk ()))))) : Option (Out (Unit) Bool)) (Out.elim (fun (s31 : Unit) => bnd (F_impl_CheckDerivation r4.1 r4.2.1 r28.1) fun r36 => (cond (decide (r36.2 = 0)) (bnd (F_laws_b10Nums r36.1 r4.2.2.1) fun r40 => (cond r40 (bnd (F_laws_b10Rows r28.1 r4.2.2.2) fun r43 => some r43) (some false))) (some false))) (fun (r : Bool) => some r))) (fun (r : Bool) => some r))))

end Go.Fn
