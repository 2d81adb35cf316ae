/-
  What each function of the program computes, as a plain Lean function: printed by program off the translation. No condition.
-/
import Derived.Test.YtneglngdbcefgaaTy
namespace Go.Fn
open Go Go.Tc
set_option linter.unusedVariables false

noncomputable def F_laws_szInt64S (p0 : (List Int)) (p1 : Int) : Option (Int) :=
  (cond (decide ((w64 (p1 - (p0.length : Int))) < 0)) (some (-1)) (some (w64 (p1 - (p0.length : Int)))))


noncomputable def F_laws_szRewrite (p0 : GRewrite) (p1 : Int) : Option (Int) :=
  bnd (F_laws_szInt64S p0.From p1) fun r2 => (cond (decide (r2 < 0)) (some (-1)) (bnd (F_laws_szInt64S p0.To r2) fun r5 => (cond (decide (r5 < 0)) (some (-1)) (some r5))))

noncomputable def F_laws_szRewriteS_L1 (p0 : (List GRewrite)) (s2 : Int × Int) : Option ((Int × Int) ⊕ Out (Int × Int) Int) :=
  (cond (decide (s2.2 < (p0.length : Int))) (bnd (idx p0 s2.2) fun y5 => bnd (F_laws_szRewrite y5 s2.1) fun r9 => (cond (decide (r9 < 0)) (some (.inr (.ret (-1)))) (some (.inl (r9, (w64 (s2.2 + 1))))))) (some (.inr (.brk (s2.1, s2.2)))))

noncomputable def F_laws_szRewriteS (p0 : (List GRewrite)) (p1 : Int) : Option (Int) :=
  (cond (decide ((w64 (p1 - (p0.length : Int))) < 0)) (some (-1)) (bnd (run (F_laws_szRewriteS_L1 p0) ((w64 (p1 - (p0.length : Int))), 0)) (Out.elim (fun (s2 : Int × Int) => some s2.1) (fun (r : Int) => some r))))

noncomputable def F_laws_toInt64S_L1 (p0 : (List Int)) (s4 : (List Int) × Int) : Option (((List Int) × Int) ⊕ Out ((List Int) × Int) (List Int)) :=
  (cond (decide (s4.2 < (p0.length : Int))) (bnd (idx p0 s4.2) fun y7 => bnd (idx s4.1 s4.2) fun y11 => some (.inl ((s4.1.set s4.2.toNat y7), (w64 (s4.2 + 1))))) (some (.inr (.brk (s4.1, s4.2)))))

noncomputable def F_laws_toInt64S (p0 : (List Int)) : Option ((List Int)) :=
  bnd (mke (p0.length : Int) (0 : Int)) fun z1 => bnd (run (F_laws_toInt64S_L1 p0) (z1, 0)) (Out.elim (fun (s4 : (List Int) × Int) => some s4.1) (fun (r : (List Int)) => some r))


noncomputable def F_laws_toRewrite (p0 : GRewrite) : Option (GRewrite) :=
  bnd (F_laws_toInt64S p0.From) fun r4 => bnd (F_laws_toInt64S p0.To) fun r7 => some (⟨r4, r7⟩ : GRewrite)

noncomputable def F_laws_toRewriteS_L1 (p0 : (List GRewrite)) (s4 : (List GRewrite) × Int) : Option (((List GRewrite) × Int) ⊕ Out ((List GRewrite) × Int) (List GRewrite)) :=
  (cond (decide (s4.2 < (p0.length : Int))) (bnd (idx p0 s4.2) fun y7 => bnd (F_laws_toRewrite y7) fun r11 => bnd (idx s4.1 s4.2) fun y14 => some (.inl ((s4.1.set s4.2.toNat r11), (w64 (s4.2 + 1))))) (some (.inr (.brk (s4.1, s4.2)))))

noncomputable def F_laws_toRewriteS (p0 : (List GRewrite)) : Option ((List GRewrite)) :=
  bnd (mke (p0.length : Int) (⟨([] : (List Int)), ([] : (List Int))⟩ : GRewrite)) fun z1 => bnd (run (F_laws_toRewriteS_L1 p0) (z1, 0)) (Out.elim (fun (s4 : (List GRewrite) × Int) => some s4.1) (fun (r : (List GRewrite)) => some r))


noncomputable def F_spec_l00In (p0 : Int) (p1 : Int) (p2 : Int) : Option (Bool) :=
  (cond (decide (p1 ≤ p0)) (some (decide (p0 ≤ p2))) (some false))

noncomputable def F_spec_l03Is_L1 (p0 : (List Int)) (s1 : Int) : Option ((Int) ⊕ Out (Int) Bool) :=
  (cond (decide (s1 < (p0.length : Int))) (bnd (idx p0 s1) fun y4 => bnd (F_spec_l00In y4 0 9) fun r8 => (cond (!r8) (some (.inr (.ret false))) (some (.inl (w64 (s1 + 1)))))) (some (.inr (.brk s1))))

noncomputable def F_spec_l03Is (p0 : (List Int)) : Option (Bool) :=
  bnd (run (F_spec_l03Is_L1 p0) 0) (Out.elim (fun (s1 : Int) => some (decide ((p0.length : Int) ≤ 400))) (fun (r : Bool) => some r))

noncomputable def F_spec_l10Is_L1 (p0 : (List GRewrite)) (s5 : Int) : Option ((Int) ⊕ Out (Int) Bool) :=
  (cond (decide (s5 < (p0.length : Int))) (bnd (idx p0 s5) fun y8 => bnd (F_spec_l03Is y8.From) fun r13 => (cond (!r13) (some (.inr (.ret false))) (bnd (idx p0 s5) fun y16 => bnd (F_spec_l03Is y16.To) fun r21 => (cond (!r21) (some (.inr (.ret false))) (bnd (idx p0 s5) fun y24 => (cond (decide ((y24.From.length : Int) = 0)) (some (.inr (.ret false))) (some (.inl (w64 (s5 + 1)))))))))) (some (.inr (.brk s5))))

noncomputable def F_spec_l10Is (p0 : (List GRewrite)) : Option (Bool) :=
  bnd ((cond (decide ((p0.length : Int) < 1)) (some (.ret false)) (cond (decide (60 < (p0.length : Int))) (some (.ret false)) (some (.brk ())))) : Option (Out (Unit) Bool)) (Out.elim (fun (s1 : Unit) => bnd (run (F_spec_l10Is_L1 p0) 0) (Out.elim (fun (s5 : Int) => some true) (fun (r : Bool) => some r))) (fun (r : Bool) => some r))


noncomputable def F_spec_l05Budget (p0 : Int) : Option (Bool) :=
  bnd (F_spec_l00In p0 1 20000) fun r1 => some r1


noncomputable def F_spec_l00Own (p0 : (List Int)) : Option ((List Int)) :=
  bnd (app ([] : List Int) p0) fun z2 => some z2

noncomputable def F_spec_l10Key_L1 (p0 : (List Int)) (s4 : (List (Ik .u8)) × Int) : Option (((List (Ik .u8)) × Int) ⊕ Out ((List (Ik .u8)) × Int) ByteArray) :=
  (cond (decide (s4.2 < (p0.length : Int))) (bnd (idx p0 s4.2) fun y7 => bnd (idx s4.1 s4.2) fun y11 => some (.inl ((s4.1.set s4.2.toNat (⟨(wk .u8 y7)⟩ : Ik .u8)), (w64 (s4.2 + 1))))) (some (.inr (.brk (s4.1, s4.2)))))

noncomputable def F_spec_l10Key (p0 : (List Int)) : Option (ByteArray) :=
  bnd (mke (p0.length : Int) (⟨0⟩ : Ik .u8)) fun z1 => bnd (run (F_spec_l10Key_L1 p0) (z1, 0)) (Out.elim (fun (s4 : (List (Ik .u8)) × Int) => some (strOf s4.1)) (fun (r : ByteArray) => some r))

noncomputable def F_spec_l00Same_L1 (p0 : (List Int)) (p1 : (List Int)) (s2 : Int) : Option ((Int) ⊕ Out (Int) Bool) :=
  (cond (decide (s2 < (p0.length : Int))) (bnd (idx p0 s2) fun y5 => bnd (idx p1 s2) fun y9 => (cond (decide (y5 ≠ y9)) (some (.inr (.ret false))) (some (.inl (w64 (s2 + 1)))))) (some (.inr (.brk s2))))

noncomputable def F_spec_l00Same (p0 : (List Int)) (p1 : (List Int)) : Option (Bool) :=
  (cond (decide ((p0.length : Int) ≠ (p1.length : Int))) (some false) (bnd (run (F_spec_l00Same_L1 p0 p1) 0) (Out.elim (fun (s2 : Int) => some true) (fun (r : Bool) => some r))))


noncomputable def F_spec_l03At (p0 : (List Int)) (p1 : Int) (p2 : (List Int)) : Option (Bool) :=
  (cond (decide ((w64 (p1 + (p2.length : Int))) ≤ (p0.length : Int))) (bnd (slc p0 p1 (w64 (p1 + (p2.length : Int)))) fun z2 => bnd (F_spec_l00Same z2 p2) fun r5 => some r5) (some false))


noncomputable def F_spec_l03Put (p0 : (List Int)) (p1 : Int) (p2 : Int) (p3 : (List Int)) : Option ((List Int)) :=
  bnd (slc p0 0 p1) fun z1 => bnd (F_spec_l00Own z1) fun r4 => bnd (app r4 p3) fun z7 => bnd (slc p0 (w64 (p1 + p2)) (p0.length : Int)) fun z10 => bnd (app z7 z10) fun z13 => some z13


noncomputable def F_spec_l10Apply (p0 : (List GRewrite)) (p1 : (List Int)) (p2 : Int) (p3 : Int) : Option ((List Int) × Int) :=
  bnd (idx p0 p2) fun y1 => bnd (F_spec_l03At p1 p3 y1.From) fun r6 => (cond (!r6) (some (([] : (List Int)), 3)) (cond (decide (400 < (w64 ((w64 ((p1.length : Int) - (y1.From.length : Int))) + (y1.To.length : Int))))) (some (([] : (List Int)), 5)) (bnd (F_spec_l03Put p1 p3 (y1.From.length : Int) y1.To) fun r21 => some (r21, 0))))

noncomputable def F_spec_l10Next_L3 (s7 : (List (List Int)) × (List (List Int)) × Bool × (List ByteArray) × Int) (r17 : ByteArray) (s20 : Int × Int) : Option ((Int × Int) ⊕ Out (Int × Int) (Option (((List (List Int)) × (List (List Int)) × Bool × (List ByteArray) × Int) ⊕ Out ((List (List Int)) × (List (List Int)) × Bool × (List ByteArray) × Int) ((List (List Int)) × (List (List Int)) × Bool)))) :=
  (cond (decide (s20.1 < s20.2)) (bnd (idx s7.2.2.2.1 (w64 (Int.tdiv (w64 (s20.1 + s20.2)) 2))) fun y23 => (cond (Op.bytesLess y23.toList r17.toList) (some (.inl ((w64 ((w64 (Int.tdiv (w64 (s20.1 + s20.2)) 2)) + 1)), s20.2))) (some (.inl (s20.1, (w64 (Int.tdiv (w64 (s20.1 + s20.2)) 2))))))) (some (.inr (.brk (s20.1, s20.2)))))

noncomputable def F_spec_l10Next_L2 (p0 : (List GRewrite)) (p1 : (List Int)) (s4 : (List (List Int)) × (List (List Int)) × Bool × (List ByteArray) × Int) (s7 : (List (List Int)) × (List (List Int)) × Bool × (List ByteArray) × Int) : Option (((List (List Int)) × (List (List Int)) × Bool × (List ByteArray) × Int) ⊕ Out ((List (List Int)) × (List (List Int)) × Bool × (List ByteArray) × Int) ((List (List Int)) × (List (List Int)) × Bool)) :=
  (cond (decide (s7.2.2.2.2 ≤ (p1.length : Int))) (bnd (F_spec_l10Apply p0 p1 s4.2.2.2.2 s7.2.2.2.2) fun r10 => bnd ((cond (decide (r10.2 = 5)) (some (.brk false)) (some (.brk s7.2.2.1))) : Option (Out (Bool) ((List (List Int)) × (List (List Int)) × Bool))) (Out.elim (fun (s13 : Bool) => (cond (decide (r10.2 ≠ 0)) (some (.inl (s7.1, s7.2.1, s13, s7.2.2.2.1, (w64 (s7.2.2.2.2 + 1))))) (bnd (F_spec_l10Key r10.1) fun r17 => bnd (run (F_spec_l10Next_L3 s7 r17) (0, (s7.2.2.2.1.length : Int))) (Out.elim (fun (s20 : Int × Int) => bnd ((cond (decide (s20.1 < (s7.2.2.2.1.length : Int))) (bnd (idx s7.2.2.2.1 s20.1) fun y32 => (cond (y32.toList == r17.toList) (some (.ret (some (.inl (s7.1, s7.2.1, s13, s7.2.2.2.1, (w64 (s7.2.2.2.2 + 1))))))) (some (.brk ())))) (some (.brk ()))) : Option (Out (Unit) (Option (((List (List Int)) × (List (List Int)) × Bool × (List ByteArray) × Int) ⊕ Out ((List (List Int)) × (List (List Int)) × Bool × (List ByteArray) × Int) ((List (List Int)) × (List (List Int)) × Bool))))) (Out.elim (fun (s29 : Unit) => bnd (app s7.2.2.2.1 ([(⟨#[]⟩ : ByteArray)] : List ByteArray)) fun z39 => bnd (slc z39 (w64 (s20.1 + 1)) (z39.length : Int)) fun z45 => bnd (slc z39 s20.1 (z39.length : Int)) fun z47 => bnd (idx (cpyAt z39 (w64 (s20.1 + 1)) (z39.length : Int) z47) s20.1) fun y49 => bnd (app s7.1 ([r10.1] : List (List Int))) fun z54 => bnd (app s7.2.1 ([([s4.2.2.2.2, s7.2.2.2.2] : List Int)] : List (List Int))) fun z59 => some (.inl (z54, z59, s13, ((cpyAt z39 (w64 (s20.1 + 1)) (z39.length : Int) z47).set s20.1.toNat r17), (w64 (s7.2.2.2.2 + 1))))) (fun (r : Option (((List (List Int)) × (List (List Int)) × Bool × (List ByteArray) × Int) ⊕ Out ((List (List Int)) × (List (List Int)) × Bool × (List ByteArray) × Int) ((List (List Int)) × (List (List Int)) × Bool))) => r))) (fun (r : Option (((List (List Int)) × (List (List Int)) × Bool × (List ByteArray) × Int) ⊕ Out ((List (List Int)) × (List (List Int)) × Bool × (List ByteArray) × Int) ((List (List Int)) × (List (List Int)) × Bool))) => r))))) (fun (r : (List (List Int)) × (List (List Int)) × Bool) => some (.inr (.ret r))))) (some (.inr (.brk (s7.1, s7.2.1, s7.2.2.1, s7.2.2.2.1, s7.2.2.2.2)))))

noncomputable def F_spec_l10Next_L1 (p0 : (List GRewrite)) (p1 : (List Int)) (s4 : (List (List Int)) × (List (List Int)) × Bool × (List ByteArray) × Int) : Option (((List (List Int)) × (List (List Int)) × Bool × (List ByteArray) × Int) ⊕ Out ((List (List Int)) × (List (List Int)) × Bool × (List ByteArray) × Int) ((List (List Int)) × (List (List Int)) × Bool)) :=
  (cond (decide (s4.2.2.2.2 < (p0.length : Int))) (bnd (run (F_spec_l10Next_L2 p0 p1 s4) (s4.1, s4.2.1, s4.2.2.1, s4.2.2.2.1, 0)) (Out.elim (fun (s7 : (List (List Int)) × (List (List Int)) × Bool × (List ByteArray) × Int) => some (.inl (s7.1, s7.2.1, s7.2.2.1, s7.2.2.2.1, (w64 (s4.2.2.2.2 + 1))))) (fun (r : (List (List Int)) × (List (List Int)) × Bool) => some (.inr (.ret r))))) (some (.inr (.brk (s4.1, s4.2.1, s4.2.2.1, s4.2.2.2.1, s4.2.2.2.2)))))

noncomputable def F_spec_l10Next (p0 : (List GRewrite)) (p1 : (List Int)) : Option ((List (List Int)) × (List (List Int)) × Bool) :=
  bnd (run (F_spec_l10Next_L1 p0 p1) (([] : List (List Int)), ([] : List (List Int)), true, ([] : List ByteArray), 0)) (Out.elim (fun (s4 : (List (List Int)) × (List (List Int)) × Bool × (List ByteArray) × Int) => some (s4.1, s4.2.1, s4.2.2.1)) (fun (r : (List (List Int)) × (List (List Int)) × Bool) => some r))

noncomputable def F_spec_l10Find_L3 (s32 : (List (List Int)) × (List Int) × (List (List Int)) × (List ByteArray) × Int) (r39 : ByteArray) (s42 : Int × Int) : Option ((Int × Int) ⊕ Out (Int × Int) (Option (((List (List Int)) × (List Int) × (List (List Int)) × (List ByteArray) × Int) ⊕ Out ((List (List Int)) × (List Int) × (List (List Int)) × (List ByteArray) × Int) ((List (List Int)) × (List Int) × (List (List Int)) × Bool)))) :=
  (cond (decide (s42.1 < s42.2)) (bnd (idx s32.2.2.2.1 (w64 (Int.tdiv (w64 (s42.1 + s42.2)) 2))) fun y45 => (cond (Op.bytesLess y45.toList r39.toList) (some (.inl ((w64 ((w64 (Int.tdiv (w64 (s42.1 + s42.2)) 2)) + 1)), s42.2))) (some (.inl (s42.1, (w64 (Int.tdiv (w64 (s42.1 + s42.2)) 2))))))) (some (.inr (.brk (s42.1, s42.2)))))

noncomputable def F_spec_l10Find_L2 (s11 : (List (List Int)) × (List Int) × (List (List Int)) × Bool × (List ByteArray) × Int) (r20 : (List (List Int)) × (List (List Int)) × Bool) (s32 : (List (List Int)) × (List Int) × (List (List Int)) × (List ByteArray) × Int) : Option (((List (List Int)) × (List Int) × (List (List Int)) × (List ByteArray) × Int) ⊕ Out ((List (List Int)) × (List Int) × (List (List Int)) × (List ByteArray) × Int) ((List (List Int)) × (List Int) × (List (List Int)) × Bool)) :=
  (cond (decide (s32.2.2.2.2 < (r20.1.length : Int))) (bnd (idx r20.1 s32.2.2.2.2) fun y35 => bnd (F_spec_l10Key y35) fun r39 => bnd (run (F_spec_l10Find_L3 s32 r39) (0, (s32.2.2.2.1.length : Int))) (Out.elim (fun (s42 : Int × Int) => bnd ((cond (decide (s42.1 < (s32.2.2.2.1.length : Int))) (bnd (idx s32.2.2.2.1 s42.1) fun y54 => (cond (y54.toList == r39.toList) (some (.ret (some (.inl (s32.1, s32.2.1, s32.2.2.1, s32.2.2.2.1, (w64 (s32.2.2.2.2 + 1))))))) (some (.brk ())))) (some (.brk ()))) : Option (Out (Unit) (Option (((List (List Int)) × (List Int) × (List (List Int)) × (List ByteArray) × Int) ⊕ Out ((List (List Int)) × (List Int) × (List (List Int)) × (List ByteArray) × Int) ((List (List Int)) × (List Int) × (List (List Int)) × Bool))))) (Out.elim (fun (s51 : Unit) => bnd (app s32.2.2.2.1 ([(⟨#[]⟩ : ByteArray)] : List ByteArray)) fun z61 => bnd (slc z61 (w64 (s42.1 + 1)) (z61.length : Int)) fun z67 => bnd (slc z61 s42.1 (z61.length : Int)) fun z69 => bnd (idx (cpyAt z61 (w64 (s42.1 + 1)) (z61.length : Int) z69) s42.1) fun y71 => bnd (bnd (idx r20.1 s32.2.2.2.2) fun y77 => bnd (app s32.1 ([y77] : List (List Int))) fun z88 => some (.brk z88) : Option (Out ((List (List Int))) ((List (List Int)) × (List Int) × (List (List Int)) × Bool))) (Out.elim (fun (s75 : (List (List Int))) => bnd (app s32.2.1 ([s11.2.2.2.2.2] : List Int)) fun z96 => bnd (bnd (idx r20.2.1 s32.2.2.2.2) fun y101 => bnd (app s32.2.2.1 ([y101] : List (List Int))) fun z112 => some (.brk z112) : Option (Out ((List (List Int))) ((List (List Int)) × (List Int) × (List (List Int)) × Bool))) (Out.elim (fun (s99 : (List (List Int))) => (cond (decide ((s75.length : Int) = 300)) (some (.inr (.ret (s75, z96, s99, false)))) (some (.inl (s75, z96, s99, ((cpyAt z61 (w64 (s42.1 + 1)) (z61.length : Int) z69).set s42.1.toNat r39), (w64 (s32.2.2.2.2 + 1))))))) (fun (r : ((List (List Int)) × (List Int) × (List (List Int)) × Bool)) => some (.inr (.ret r))))) (fun (r : ((List (List Int)) × (List Int) × (List (List Int)) × Bool)) => some (.inr (.ret r))))) (fun (r : Option (((List (List Int)) × (List Int) × (List (List Int)) × (List ByteArray) × Int) ⊕ Out ((List (List Int)) × (List Int) × (List (List Int)) × (List ByteArray) × Int) ((List (List Int)) × (List Int) × (List (List Int)) × Bool))) => r))) (fun (r : Option (((List (List Int)) × (List Int) × (List (List Int)) × (List ByteArray) × Int) ⊕ Out ((List (List Int)) × (List Int) × (List (List Int)) × (List ByteArray) × Int) ((List (List Int)) × (List Int) × (List (List Int)) × Bool))) => r))) (some (.inr (.brk (s32.1, s32.2.1, s32.2.2.1, s32.2.2.2.1, s32.2.2.2.2)))))

noncomputable def F_spec_l10Find_L1 (p0 : (List GRewrite)) (p2 : Int) (s11 : (List (List Int)) × (List Int) × (List (List Int)) × Bool × (List ByteArray) × Int) : Option (((List (List Int)) × (List Int) × (List (List Int)) × Bool × (List ByteArray) × Int) ⊕ Out ((List (List Int)) × (List Int) × (List (List Int)) × Bool × (List ByteArray) × Int) ((List (List Int)) × (List Int) × (List (List Int)) × Bool)) :=
  (cond (decide (s11.2.2.2.2.2 < (s11.1.length : Int))) (cond (decide (s11.2.2.2.2.2 = p2)) (some (.inr (.ret (s11.1, s11.2.1, s11.2.2.1, false)))) (bnd (idx s11.1 s11.2.2.2.2.2) fun y15 => bnd (F_spec_l10Next p0 y15) fun r20 => bnd ((cond s11.2.2.2.1 (some (.brk r20.2.2)) (some (.brk false))) : Option (Out (Bool) ((List (List Int)) × (List Int) × (List (List Int)) × Bool))) (Out.elim (fun (s23 : Bool) => bnd (run (F_spec_l10Find_L2 s11 r20) (s11.1, s11.2.1, s11.2.2.1, s11.2.2.2.2.1, 0)) (Out.elim (fun (s32 : (List (List Int)) × (List Int) × (List (List Int)) × (List ByteArray) × Int) => some (.inl (s32.1, s32.2.1, s32.2.2.1, s23, s32.2.2.2.1, (w64 (s11.2.2.2.2.2 + 1))))) (fun (r : ((List (List Int)) × (List Int) × (List (List Int)) × Bool)) => some (.inr (.ret r))))) (fun (r : ((List (List Int)) × (List Int) × (List (List Int)) × Bool)) => some (.inr (.ret r)))))) (some (.inr (.brk (s11.1, s11.2.1, s11.2.2.1, s11.2.2.2.1, s11.2.2.2.2.1, s11.2.2.2.2.2)))))

noncomputable def F_spec_l10Find (p0 : (List GRewrite)) (p1 : (List Int)) (p2 : Int) : Option (((List (List Int)) × (List Int) × (List (List Int)) × Bool)) :=
  bnd (F_spec_l00Own p1) fun r1 => bnd (F_spec_l10Key p1) fun r8 => bnd (run (F_spec_l10Find_L1 p0 p2) (([r1] : List (List Int)), ([(-1)] : List Int), ([([] : (List Int))] : List (List Int)), true, ([r8] : List ByteArray), 0)) (Out.elim (fun (s11 : (List (List Int)) × (List Int) × (List (List Int)) × Bool × (List ByteArray) × Int) => some (s11.1, s11.2.1, s11.2.2.1, s11.2.2.2.1)) (fun (r : ((List (List Int)) × (List Int) × (List (List Int)) × Bool)) => some r))

noncomputable def F_spec_l03Find_L1 (p0 : (List Int)) (p1 : (List Int)) (s1 : Int) : Option ((Int) ⊕ Out (Int) Int) :=
  (cond (decide ((w64 (s1 + (p1.length : Int))) ≤ (p0.length : Int))) (bnd (F_spec_l03At p0 s1 p1) fun r4 => (cond r4 (some (.inr (.ret s1))) (some (.inl (w64 (s1 + 1)))))) (some (.inr (.brk s1))))

noncomputable def F_spec_l03Find (p0 : (List Int)) (p1 : (List Int)) (p2 : Int) : Option (Int) :=
  bnd (run (F_spec_l03Find_L1 p0 p1) p2) (Out.elim (fun (s1 : Int) => some (-1)) (fun (r : Int) => some r))

noncomputable def F_spec_l10Normal_L1 (p0 : (List GRewrite)) (p1 : (List Int)) (s1 : Int) : Option ((Int) ⊕ Out (Int) Bool) :=
  (cond (decide (s1 < (p0.length : Int))) (bnd (idx p0 s1) fun y4 => bnd (F_spec_l03Find p1 y4.From 0) fun r9 => (cond (decide (0 ≤ r9)) (some (.inr (.ret false))) (some (.inl (w64 (s1 + 1)))))) (some (.inr (.brk s1))))

noncomputable def F_spec_l10Normal (p0 : (List GRewrite)) (p1 : (List Int)) : Option (Bool) :=
  bnd (run (F_spec_l10Normal_L1 p0 p1) 0) (Out.elim (fun (s1 : Int) => some true) (fun (r : Bool) => some r))

noncomputable def F_spec_NormalFormsOf_L1 (p0 : (List GRewrite)) (r12 : ((List (List Int)) × (List Int) × (List (List Int)) × Bool)) (s19 : (List (List Int)) × Int) : Option (((List (List Int)) × Int) ⊕ Out ((List (List Int)) × Int) ((List (List Int)) × Bool × Int)) :=
  (cond (decide (s19.2 < (r12.1.length : Int))) (bnd (idx r12.1 s19.2) fun y22 => bnd (F_spec_l10Normal p0 y22) fun r26 => (cond r26 (bnd (idx r12.1 s19.2) fun y29 => bnd (app s19.1 ([y29] : List (List Int))) fun z37 => some (.inl (z37, (w64 (s19.2 + 1))))) (some (.inl (s19.1, (w64 (s19.2 + 1))))))) (some (.inr (.brk (s19.1, s19.2)))))

noncomputable def F_spec_NormalFormsOf (p0 : (List GRewrite)) (p1 : (List Int)) (p2 : Int) : Option ((List (List Int)) × Bool × Int) :=
  bnd (bnd (F_spec_l10Is p0) fun r3 => (cond (!r3) (some (.ret (([] : (List (List Int))), false, 1))) (bnd (F_spec_l03Is p1) fun r6 => (cond (!r6) (some (.ret (([] : (List (List Int))), false, 1))) (some (.brk ()))))) : Option (Out (Unit) ((List (List Int)) × Bool × Int))) (Out.elim (fun (s1 : Unit) => bnd (F_spec_l05Budget p2) fun r9 => (cond (!r9) (some (([] : (List (List Int))), false, 2)) (bnd (F_spec_l10Find p0 p1 p2) fun r12 => bnd (run (F_spec_NormalFormsOf_L1 p0 r12) (([] : List (List Int)), 0)) (Out.elim (fun (s19 : (List (List Int)) × Int) => some (s19.1, r12.2.2.2, 0)) (fun (r : (List (List Int)) × Bool × Int) => some r))))) (fun (r : (List (List Int)) × Bool × Int) => some r))


noncomputable def F_impl_size_impl_Rewrite (p0 : (List GRewrite)) : Option (Int) :=
  some (p0.length : Int)


noncomputable def F_impl_within (p0 : Int) (p1 : Int) (p2 : Int) : Option (Bool) :=
  (cond (decide (p1 ≤ p0)) (some (decide (p0 ≤ p2))) (some false))

noncomputable def F_slices_IndexFunc_Simpl_Rewrite_impl_Rewrite_L1 (p0 : (List GRewrite)) (p1 : (GRewrite → Option Bool)) (s1 : Int) : Option ((Int) ⊕ Out (Int) Int) :=
  (cond (decide (s1 < (p0.length : Int))) (bnd (idx p0 s1) fun y4 => bnd (p1 y4) fun r8 => (cond r8 (some (.inr (.ret s1))) (some (.inl (w64 (s1 + 1)))))) (some (.inr (.brk s1))))

noncomputable def F_slices_IndexFunc_Simpl_Rewrite_impl_Rewrite (p0 : (List GRewrite)) (p1 : (GRewrite → Option Bool)) : Option (Int) :=
  bnd (run (F_slices_IndexFunc_Simpl_Rewrite_impl_Rewrite_L1 p0 p1) 0) (Out.elim (fun (s1 : Int) => some (-1)) (fun (r : Int) => some r))


noncomputable def F_slices_ContainsFunc_Simpl_Rewrite_impl_Rewrite (p0 : (List GRewrite)) (p1 : (GRewrite → Option Bool)) : Option (Bool) :=
  bnd (F_slices_IndexFunc_Simpl_Rewrite_impl_Rewrite p0 p1) fun r1 => some (decide (0 ≤ r1))

noncomputable def F_slices_IndexFunc_SSint64_Sint64_L1 (p0 : (List (List Int))) (p1 : ((List Int) → Option Bool)) (s1 : Int) : Option ((Int) ⊕ Out (Int) Int) :=
  (cond (decide (s1 < (p0.length : Int))) (bnd (idx p0 s1) fun y4 => bnd (p1 y4) fun r8 => (cond r8 (some (.inr (.ret s1))) (some (.inl (w64 (s1 + 1)))))) (some (.inr (.brk s1))))

noncomputable def F_slices_IndexFunc_SSint64_Sint64 (p0 : (List (List Int))) (p1 : ((List Int) → Option Bool)) : Option (Int) :=
  bnd (run (F_slices_IndexFunc_SSint64_Sint64_L1 p0 p1) 0) (Out.elim (fun (s1 : Int) => some (-1)) (fun (r : Int) => some r))


noncomputable def F_slices_ContainsFunc_SSint64_Sint64 (p0 : (List (List Int))) (p1 : ((List Int) → Option Bool)) : Option (Bool) :=
  bnd (F_slices_IndexFunc_SSint64_Sint64 p0 p1) fun r1 => some (decide (0 ≤ r1))

noncomputable def F_impl_allWithin_L1 (p0 : (List Int)) (p1 : Int) (p2 : Int) (s1 : Int) : Option ((Int) ⊕ Out (Int) Bool) :=
  (cond (decide (s1 < (p0.length : Int))) (bnd (idx p0 s1) fun y4 => bnd (F_impl_within y4 p1 p2) fun r8 => (cond (!r8) (some (.inr (.ret false))) (some (.inl (w64 (s1 + 1)))))) (some (.inr (.brk s1))))

noncomputable def F_impl_allWithin (p0 : (List Int)) (p1 : Int) (p2 : Int) : Option (Bool) :=
  bnd (run (F_impl_allWithin_L1 p0 p1 p2) 0) (Out.elim (fun (s1 : Int) => some true) (fun (r : Bool) => some r))


noncomputable def F_impl_isLetters (p0 : (List Int)) : Option (Bool) :=
  bnd (F_impl_allWithin p0 0 9) fun r1 => some r1


noncomputable def F_impl_IsWord (p0 : (List Int)) : Option (Bool) :=
  (cond (decide ((p0.length : Int) ≤ 400)) (bnd (F_impl_isLetters p0) fun r2 => some r2) (some false))


noncomputable def F_impl_areWords_1 (p0 : (List Int)) : Option (Bool) :=
  bnd (F_impl_IsWord p0) fun r1 => some (!r1)


noncomputable def F_impl_areWords (p0 : (List (List Int))) : Option (Bool) :=
  bnd (F_slices_ContainsFunc_SSint64_Sint64 p0 (fun x_ => F_impl_areWords_1 x_)) fun r1 => some (!r1)


noncomputable def F_impl_ValidRewrites_1 (p0 : GRewrite) : Option (Bool) :=
  bnd (F_impl_areWords ([p0.From, p0.To] : List (List Int))) fun r3 => (cond (!r3) (some true) (some (decide ((p0.From.length : Int) = 0))))


noncomputable def F_impl_ValidRewrites (p0 : (List GRewrite)) : Option (Bool) :=
  bnd (F_impl_size_impl_Rewrite p0) fun r1 => bnd (F_impl_within r1 1 60) fun r3 => (cond r3 (bnd (F_slices_ContainsFunc_Simpl_Rewrite_impl_Rewrite p0 (fun x_ => F_impl_ValidRewrites_1 x_)) fun r6 => some (!r6)) (some false))


noncomputable def F_impl_budgetOk (p0 : Int) : Option (Bool) :=
  bnd (F_impl_within p0 1 20000) fun r1 => some r1


noncomputable def F_impl_searchCode (p0 : (List GRewrite)) (p1 : Int) (p2 : (List (List Int))) : Option (Int) :=
  bnd (F_impl_ValidRewrites p0) fun r1 => (cond (!r1) (some 1) (bnd (F_impl_areWords p2) fun r4 => (cond (!r4) (some 1) (bnd (F_impl_budgetOk p1) fun r7 => (cond (!r7) (some 2) (some 0))))))


noncomputable def F_slices_Clone_Sint64_int64 (p0 : (List Int)) : Option ((List Int)) :=
  bnd (app ([] : List Int) p0) fun z3 => some z3

noncomputable def F_impl_keyOf_L1 (p0 : (List Int)) (s4 : (List (Ik .u8)) × Int) : Option (((List (Ik .u8)) × Int) ⊕ Out ((List (Ik .u8)) × Int) ByteArray) :=
  (cond (decide (s4.2 < (p0.length : Int))) (bnd (idx p0 s4.2) fun y7 => bnd (idx s4.1 s4.2) fun y11 => some (.inl ((s4.1.set s4.2.toNat (⟨(wk .u8 y7)⟩ : Ik .u8)), (w64 (s4.2 + 1))))) (some (.inr (.brk (s4.1, s4.2)))))

noncomputable def F_impl_keyOf (p0 : (List Int)) : Option (ByteArray) :=
  bnd (mke (p0.length : Int) (⟨0⟩ : Ik .u8)) fun z1 => bnd (run (F_impl_keyOf_L1 p0) (z1, 0)) (Out.elim (fun (s4 : (List (Ik .u8)) × Int) => some (strOf s4.1)) (fun (r : ByteArray) => some r))

noncomputable def F_slices_Equal_Sint64_int64_L1 (p0 : (List Int)) (p1 : (List Int)) (s2 : Int) : Option ((Int) ⊕ Out (Int) Bool) :=
  (cond (decide (s2 < (p0.length : Int))) (bnd (idx p0 s2) fun y5 => bnd (idx p1 s2) fun y9 => (cond (decide (y5 ≠ y9)) (some (.inr (.ret false))) (some (.inl (w64 (s2 + 1)))))) (some (.inr (.brk s2))))

noncomputable def F_slices_Equal_Sint64_int64 (p0 : (List Int)) (p1 : (List Int)) : Option (Bool) :=
  (cond (decide ((p0.length : Int) ≠ (p1.length : Int))) (some false) (bnd (run (F_slices_Equal_Sint64_int64_L1 p0 p1) 0) (Out.elim (fun (s2 : Int) => some true) (fun (r : Bool) => some r))))


noncomputable def F_impl_begins (p0 : (List Int)) (p1 : (List Int)) : Option (Bool) :=
  (cond (decide ((p1.length : Int) ≤ (p0.length : Int))) (bnd (slc p0 0 (p1.length : Int)) fun z2 => bnd (F_slices_Equal_Sint64_int64 z2 p1) fun r5 => some r5) (some false))

noncomputable def F_impl_occurrences_L1 (p0 : (List Int)) (p1 : (List Int)) (s2 : (List Int) × Int) : Option (((List Int) × Int) ⊕ Out ((List Int) × Int) (List Int)) :=
  (cond (decide (s2.2 ≤ (p0.length : Int))) (bnd (slc p0 s2.2 (p0.length : Int)) fun z5 => bnd (F_impl_begins z5 p1) fun r8 => (cond r8 (bnd (app s2.1 ([s2.2] : List Int)) fun z12 => some (.inl (z12, (w64 (s2.2 + 1))))) (some (.inl (s2.1, (w64 (s2.2 + 1))))))) (some (.inr (.brk (s2.1, s2.2)))))

noncomputable def F_impl_occurrences (p0 : (List Int)) (p1 : (List Int)) : Option ((List Int)) :=
  bnd (run (F_impl_occurrences_L1 p0 p1) (([] : List Int), 0)) (Out.elim (fun (s2 : (List Int) × Int) => some s2.1) (fun (r : (List Int)) => some r))

noncomputable def F_slices_Concat_Sint64_int64_L1 (p0 : (List (List Int))) (s1 : Int × Int) : Option ((Int × Int) ⊕ Out (Int × Int) (List Int)) :=
  (cond (decide (s1.2 < (p0.length : Int))) (bnd (idx p0 s1.2) fun y4 => (cond (decide ((w64 (s1.1 + (y4.length : Int))) < 0)) none (some (.inl ((w64 (s1.1 + (y4.length : Int))), (w64 (s1.2 + 1))))))) (some (.inr (.brk (s1.1, s1.2)))))

noncomputable def F_slices_Concat_Sint64_int64_L2 (p0 : (List (List Int))) (s20 : (List Int) × Int) : Option (((List Int) × Int) ⊕ Out ((List Int) × Int) (List Int)) :=
  (cond (decide (s20.2 < (p0.length : Int))) (bnd (idx p0 s20.2) fun y23 => bnd (app s20.1 y23) fun z27 => some (.inl (z27, (w64 (s20.2 + 1))))) (some (.inr (.brk (s20.1, s20.2)))))

noncomputable def F_slices_Concat_Sint64_int64_L3 (p0 : (List (List Int))) (s30 : (List Int) × Int) : Option (((List Int) × Int) ⊕ Out ((List Int) × Int) (List Int)) :=
  (cond (decide (s30.2 < (p0.length : Int))) (bnd (idx p0 s30.2) fun y33 => bnd (app s30.1 y33) fun z37 => some (.inl (z37, (w64 (s30.2 + 1))))) (some (.inr (.brk (s30.1, s30.2)))))

noncomputable def F_slices_Concat_Sint64_int64 (p0 : (List (List Int))) : Option ((List Int)) :=
  bnd (run (F_slices_Concat_Sint64_int64_L1 p0) (0, 0)) (Out.elim (fun (s1 : Int × Int) => bnd ((cond (decide (s1.1 < 0)) none (some (.brk ()))) : Option (Out (Unit) (Option ((List Int))))) (Out.elim (fun (s10 : Unit) => (cond (decide (0 < (w64 (s1.1 - (w64 (((0 : Nat) : Int) - ((0 : Nat) : Int))))))) (bnd (mke (w64 (s1.1 - (w64 (((0 : Nat) : Int) - ((0 : Nat) : Int))))) (0 : Int)) fun z14 => bnd (slc z14 0 ((0 : Nat) : Int)) fun z17 => bnd (run (F_slices_Concat_Sint64_int64_L2 p0) (z17, 0)) (Out.elim (fun (s20 : (List Int) × Int) => some s20.1) (fun (r : (List Int)) => some r))) (bnd (run (F_slices_Concat_Sint64_int64_L3 p0) (([] : (List Int)), 0)) (Out.elim (fun (s30 : (List Int) × Int) => some s30.1) (fun (r : (List Int)) => some r))))) (fun (r : Option ((List Int))) => r))) (fun (r : (List Int)) => some r))


noncomputable def F_impl_joined (p0 : (List (List Int))) : Option ((List Int)) :=
  bnd (F_slices_Concat_Sint64_int64 p0) fun r1 => some r1


noncomputable def F_impl_replaced (p0 : (List Int)) (p1 : Int) (p2 : Int) (p3 : (List Int)) : Option ((List Int)) :=
  bnd (slc p0 0 p1) fun z1 => bnd (slc p0 (w64 (p1 + p2)) (p0.length : Int)) fun z4 => bnd (F_impl_joined ([z1, p3, z4] : List (List Int))) fun r11 => some r11


noncomputable def F_impl_fitting (p0 : (List Int)) : Option ((List Int) × Int) :=
  (cond (decide (400 < (p0.length : Int))) (some (([] : (List Int)), 5)) (some (p0, 0)))

noncomputable def F_impl_movesOf_L2 (p1 : (List Int)) (s2 : (List Gmove) × Bool × Int) (y5 : GRewrite) (r10 : (List Int)) (s13 : (List Gmove) × Bool × Int) : Option (((List Gmove) × Bool × Int) ⊕ Out ((List Gmove) × Bool × Int) ((List Gmove) × Bool)) :=
  (cond (decide (s13.2.2 < (r10.length : Int))) (bnd (idx r10 s13.2.2) fun y16 => bnd (F_impl_replaced p1 y16 (y5.From.length : Int) y5.To) fun r21 => bnd (F_impl_fitting r21) fun r24 => (cond (decide (r24.2 ≠ 0)) (some (.inl (s13.1, true, (w64 (s13.2.2 + 1))))) (bnd (app s13.1 ([(⟨s2.2.2, y16, r24.1⟩ : Gmove)] : List Gmove)) fun z29 => some (.inl (z29, s13.2.1, (w64 (s13.2.2 + 1))))))) (some (.inr (.brk (s13.1, s13.2.1, s13.2.2)))))

noncomputable def F_impl_movesOf_L1 (p0 : (List GRewrite)) (p1 : (List Int)) (s2 : (List Gmove) × Bool × Int) : Option (((List Gmove) × Bool × Int) ⊕ Out ((List Gmove) × Bool × Int) ((List Gmove) × Bool)) :=
  (cond (decide (s2.2.2 < (p0.length : Int))) (bnd (idx p0 s2.2.2) fun y5 => bnd (F_impl_occurrences p1 y5.From) fun r10 => bnd (run (F_impl_movesOf_L2 p1 s2 y5 r10) (s2.1, s2.2.1, 0)) (Out.elim (fun (s13 : (List Gmove) × Bool × Int) => some (.inl (s13.1, s13.2.1, (w64 (s2.2.2 + 1))))) (fun (r : (List Gmove) × Bool) => some (.inr (.ret r))))) (some (.inr (.brk (s2.1, s2.2.1, s2.2.2)))))

noncomputable def F_impl_movesOf (p0 : (List GRewrite)) (p1 : (List Int)) : Option ((List Gmove) × Bool) :=
  bnd (run (F_impl_movesOf_L1 p0 p1) (([] : List Gmove), false, 0)) (Out.elim (fun (s2 : (List Gmove) × Bool × Int) => some (s2.1, s2.2.1)) (fun (r : (List Gmove) × Bool) => some r))

noncomputable def F_impl_searched_L2 (s20 : (List Gfound) × List (ByteArray × Int) × Bool × Int) (r29 : (List Gmove) × Bool) (s38 : (List Gfound) × List (ByteArray × Int) × Int) : Option (((List Gfound) × List (ByteArray × Int) × Int) ⊕ Out ((List Gfound) × List (ByteArray × Int) × Int) ((List Gfound) × (List (ByteArray × Int)) × Bool)) :=
  (cond (decide (s38.2.2 < (r29.1.length : Int))) (bnd (idx r29.1 s38.2.2) fun y41 => bnd (F_impl_keyOf y41.word) fun r51 => (cond (!((mget s38.2.1 r51).isSome)) (bnd (app s38.1 ([(⟨y41.rule, y41.at_, y41.word, s20.2.2.2⟩ : Gfound)] : List Gfound)) fun z61 => (cond (decide ((z61.length : Int) = 300)) (some (.inr (.ret (z61, (mput s38.2.1 r51 (s38.1.length : Int)), false)))) (some (.inl (z61, (mput s38.2.1 r51 (s38.1.length : Int)), (w64 (s38.2.2 + 1))))))) (cond (decide ((s38.1.length : Int) = 300)) (some (.inr (.ret (s38.1, s38.2.1, false)))) (some (.inl (s38.1, s38.2.1, (w64 (s38.2.2 + 1)))))))) (some (.inr (.brk (s38.1, s38.2.1, s38.2.2)))))

noncomputable def F_impl_searched_L1 (p0 : (List GRewrite)) (p2 : Int) (s20 : (List Gfound) × List (ByteArray × Int) × Bool × Int) : Option (((List Gfound) × List (ByteArray × Int) × Bool × Int) ⊕ Out ((List Gfound) × List (ByteArray × Int) × Bool × Int) ((List Gfound) × (List (ByteArray × Int)) × Bool)) :=
  (cond (decide (s20.2.2.2 < (s20.1.length : Int))) (cond (decide (s20.2.2.2 = p2)) (some (.inr (.brk (s20.1, s20.2.1, false, s20.2.2.2)))) (bnd (idx s20.1 s20.2.2.2) fun y24 => bnd (F_impl_movesOf p0 ((⟨y24.move_rule, y24.move_at_, y24.move_word⟩ : Gmove).word)) fun r29 => bnd ((cond s20.2.2.1 (some (.brk (!r29.2))) (some (.brk false))) : Option (Out (Bool) ((List Gfound) × (List (ByteArray × Int)) × Bool))) (Out.elim (fun (s32 : Bool) => bnd (run (F_impl_searched_L2 s20 r29) (s20.1, s20.2.1, 0)) (Out.elim (fun (s38 : (List Gfound) × List (ByteArray × Int) × Int) => some (.inl (s38.1, s38.2.1, s32, (w64 (s20.2.2.2 + 1))))) (fun (r : ((List Gfound) × (List (ByteArray × Int)) × Bool)) => some (.inr (.ret r))))) (fun (r : ((List Gfound) × (List (ByteArray × Int)) × Bool)) => some (.inr (.ret r)))))) (some (.inr (.brk (s20.1, s20.2.1, s20.2.2.1, s20.2.2.2)))))

noncomputable def F_impl_searched (p0 : (List GRewrite)) (p1 : (List Int)) (p2 : Int) : Option (((List Gfound) × (List (ByteArray × Int)) × Bool)) :=
  bnd (F_slices_Clone_Sint64_int64 p1) fun r3 => bnd (F_impl_keyOf r3) fun r8 => bnd (app ([] : (List Gfound)) ([(⟨0, 0, r3, (-1)⟩ : Gfound)] : List Gfound)) fun z17 => bnd (run (F_impl_searched_L1 p0 p2) (z17, (mput ([] : List (ByteArray × Int)) r8 ((0 : Nat) : Int)), true, 0)) (Out.elim (fun (s20 : (List Gfound) × List (ByteArray × Int) × Bool × Int) => some (s20.1, s20.2.1, s20.2.2.1)) (fun (r : ((List Gfound) × (List (ByteArray × Int)) × Bool)) => some r))

noncomputable def F_impl_ReachWords_L1 (r5 : ((List Gfound) × (List (ByteArray × Int)) × Bool)) (s12 : (List (List Int)) × Int) : Option (((List (List Int)) × Int) ⊕ Out ((List (List Int)) × Int) ((List (List Int)) × Bool × Int)) :=
  (cond (decide (s12.2 < (r5.1.length : Int))) (bnd (idx r5.1 s12.2) fun y15 => bnd (app s12.1 ([y15.move_word] : List (List Int))) fun z24 => some (.inl (z24, (w64 (s12.2 + 1))))) (some (.inr (.brk (s12.1, s12.2)))))

noncomputable def F_impl_ReachWords (p0 : (List GRewrite)) (p1 : (List Int)) (p2 : Int) : Option ((List (List Int)) × Bool × Int) :=
  bnd (F_impl_searchCode p0 p2 ([p1] : List (List Int))) fun r2 => (cond (decide (r2 ≠ 0)) (some (([] : (List (List Int))), false, r2)) (bnd (F_impl_searched p0 p1 p2) fun r5 => bnd (run (F_impl_ReachWords_L1 r5) (([] : List (List Int)), 0)) (Out.elim (fun (s12 : (List (List Int)) × Int) => some (s12.1, r5.2.2, 0)) (fun (r : (List (List Int)) × Bool × Int) => some r))))


noncomputable def F_impl_isNormalWord_1 (p0 : GRewrite) (p1 : (List Int)) : Option (Bool) :=
  bnd (F_impl_occurrences p1 p0.From) fun r3 => some (decide (0 < (r3.length : Int)))


noncomputable def F_impl_isNormalWord (p0 : (List GRewrite)) (p1 : (List Int)) : Option (Bool) :=
  bnd (F_slices_ContainsFunc_Simpl_Rewrite_impl_Rewrite p0 (fun x_ => F_impl_isNormalWord_1 x_ p1)) fun r2 => some (!r2)


noncomputable def F_impl_NormalFormsOf_1 (p0 : (List Int)) (p1 : (List GRewrite)) : Option (Bool) :=
  bnd (F_impl_isNormalWord p1 p0) fun r2 => some (!r2)

noncomputable def F_slices_DeleteFunc_SSint64_Sint64_L2 (p1 : Vc → Option Bool) (s14 : (List Vc) × Int × Int) : Option (((List Vc) × Int × Int) ⊕ Out ((List Vc) × Int × Int) (List Vc)) :=
  (cond (decide (s14.2.2 < (s14.1.length : Int))) (bnd (idx s14.1 s14.2.2) fun y17 => bnd (p1 y17) fun r20 => (cond (!r20) (bnd (idx s14.1 s14.2.1) fun y23 => some (.inl ((s14.1.set s14.2.1.toNat y17), (w64 (s14.2.1 + 1)), (w64 (s14.2.2 + 1))))) (some (.inl (s14.1, s14.2.1, (w64 (s14.2.2 + 1))))))) (some (.inr (.brk (s14.1, s14.2.1, s14.2.2)))))

noncomputable def F_slices_DeleteFunc_SSint64_Sint64_L1 (p0 : List Vc) (p1 : Vc → Option Bool) (s2 : Int) : Option ((Int) ⊕ Out (Int) (Option (List Vc))) :=
  (cond (decide (s2 < (p0.length : Int))) (bnd (idx p0 s2) fun y5 => bnd (p1 y5) fun r10 => (cond r10 (some (.inr (.ret (cond (decide (s2 = (-1))) (some p0) (bnd (run (F_slices_DeleteFunc_SSint64_Sint64_L2 p1) (p0, s2, (w64 (s2 + 1)))) (Out.elim (fun (s14 : (List Vc) × Int × Int) => bnd (slc s14.1 s14.2.1 (s14.1.length : Int)) fun z25 => bnd (slc (clrAt s14.1 s14.2.1) 0 s14.2.1) fun z27 => some z27) (fun (r : List Vc) => some r))))))) (some (.inl (w64 (s2 + 1)))))) (some (.inr (.brk s2))))

noncomputable def F_slices_DeleteFunc_SSint64_Sint64 (p0 : List Vc) (p1 : Vc → Option Bool) : Option (List Vc) :=
  bnd (run (F_slices_DeleteFunc_SSint64_Sint64_L1 p0 p1) 0) (Out.elim (fun (s2 : Int) => some p0) (fun (r : Option (List Vc)) => r))


noncomputable def F_impl_NormalFormsOf (p0 : (List GRewrite)) (p1 : (List Int)) (p2 : Int) : Option ((List (List Int)) × Bool × Int) :=
  bnd (F_impl_ReachWords p0 p1 p2) fun r2 => (cond (decide (r2.2.2 ≠ 0)) (some (([] : (List (List Int))), false, r2.2.2)) (bnd (delG r2.1 (fun x_ => F_impl_NormalFormsOf_1 x_ p0)) fun z6 => some (z6, r2.2.1, 0)))

noncomputable def F_laws_eqInt64S_L1 (p0 : (List Int)) (p1 : (List Int)) (s2 : Int) : Option ((Int) ⊕ Out (Int) Bool) :=
  (cond (decide (s2 < (p0.length : Int))) (bnd (idx p0 s2) fun y5 => bnd (idx p1 s2) fun y9 => (cond (decide (y5 ≠ y9)) (some (.inr (.ret false))) (some (.inl (w64 (s2 + 1)))))) (some (.inr (.brk s2))))

noncomputable def F_laws_eqInt64S (p0 : (List Int)) (p1 : (List Int)) : Option (Bool) :=
  (cond (decide ((p0.length : Int) ≠ (p1.length : Int))) (some false) (bnd (run (F_laws_eqInt64S_L1 p0 p1) 0) (Out.elim (fun (s2 : Int) => some true) (fun (r : Bool) => some r))))

noncomputable def F_laws_eqInt64SS_L1 (p0 : (List (List Int))) (p1 : (List (List Int))) (s2 : Int) : Option ((Int) ⊕ Out (Int) Bool) :=
  (cond (decide (s2 < (p0.length : Int))) (bnd (idx p0 s2) fun y5 => bnd (idx p1 s2) fun y9 => bnd (F_laws_eqInt64S y5 y9) fun r16 => (cond (!r16) (some (.inr (.ret false))) (some (.inl (w64 (s2 + 1)))))) (some (.inr (.brk s2))))

noncomputable def F_laws_eqInt64SS (p0 : (List (List Int))) (p1 : (List (List Int))) : Option (Bool) :=
  (cond (decide ((p0.length : Int) ≠ (p1.length : Int))) (some false) (bnd (run (F_laws_eqInt64SS_L1 p0 p1) 0) (Out.elim (fun (s2 : Int) => some true) (fun (r : Bool) => some r))))


noncomputable def F_laws_eqRewrite (p0 : GRewrite) (p1 : GRewrite) : Option (Bool) :=
  bnd (F_laws_eqInt64S p0.From p1.From) fun r3 => (cond (!r3) (some false) (bnd (F_laws_eqInt64S p0.To p1.To) fun r6 => (cond (!r6) (some false) (some true))))

noncomputable def F_laws_eqRewriteS_L1 (p0 : (List GRewrite)) (p1 : (List GRewrite)) (s2 : Int) : Option ((Int) ⊕ Out (Int) Bool) :=
  (cond (decide (s2 < (p0.length : Int))) (bnd (idx p0 s2) fun y5 => bnd (idx p1 s2) fun y9 => bnd (F_laws_eqRewrite y5 y9) fun r16 => (cond (!r16) (some (.inr (.ret false))) (some (.inl (w64 (s2 + 1)))))) (some (.inr (.brk s2))))

noncomputable def F_laws_eqRewriteS (p0 : (List GRewrite)) (p1 : (List GRewrite)) : Option (Bool) :=
  (cond (decide ((p0.length : Int) ≠ (p1.length : Int))) (some false) (bnd (run (F_laws_eqRewriteS_L1 p0 p1) 0) (Out.elim (fun (s2 : Int) => some true) (fun (r : Bool) => some r))))

noncomputable def F_laws_markInt64S_L1 (s1 : (List Int) × Int × Int) : Option (((List Int) × Int × Int) ⊕ Out ((List Int) × Int × Int) (Int × (List Int))) :=
  (cond (decide (s1.2.2 < (s1.1.length : Int))) (bnd (idx s1.1 s1.2.2) fun y4 => some (.inl ((s1.1.set s1.2.2.toNat s1.2.1), (w64 (s1.2.1 + 1)), (w64 (s1.2.2 + 1))))) (some (.inr (.brk (s1.1, s1.2.1, s1.2.2)))))

noncomputable def F_laws_markInt64S (p0 : (List Int)) (p1 : Int) : Option (Int × (List Int)) :=
  bnd (run (F_laws_markInt64S_L1) (p0, p1, 0)) (Out.elim (fun (s1 : (List Int) × Int × Int) => some (s1.2.1, s1.1)) (fun (r : Int × (List Int)) => some r))

noncomputable def F_laws_markRewriteS_L1 (s1 : (List GRewrite) × Int × Int) : Option (((List GRewrite) × Int × Int) ⊕ Out ((List GRewrite) × Int × Int) (Int × (List GRewrite))) :=
  (cond (decide (s1.2.2 < (s1.1.length : Int))) (bnd (idx s1.1 s1.2.2) fun y4 => bnd (F_laws_markInt64S y4.From s1.2.1) fun r10 => bnd (idx (s1.1.set s1.2.2.toNat (⟨r10.2, y4.To⟩ : GRewrite)) s1.2.2) fun y12 => bnd (F_laws_markInt64S y12.To r10.1) fun r15 => some (.inl (((s1.1.set s1.2.2.toNat (⟨r10.2, y4.To⟩ : GRewrite)).set s1.2.2.toNat (⟨y12.From, r15.2⟩ : GRewrite)), r15.1, (w64 (s1.2.2 + 1))))) (some (.inr (.brk (s1.1, s1.2.1, s1.2.2)))))

noncomputable def F_laws_markRewriteS (p0 : (List GRewrite)) (p1 : Int) : Option (Int × (List GRewrite)) :=
  bnd (run (F_laws_markRewriteS_L1) (p0, p1, 0)) (Out.elim (fun (s1 : (List GRewrite) × Int × Int) => some (s1.2.1, s1.1)) (fun (r : Int × (List GRewrite)) => some r))

noncomputable def F_laws_markInt64SS_L1 (s1 : (List (List Int)) × Int × Int) : Option (((List (List Int)) × Int × Int) ⊕ Out ((List (List Int)) × Int × Int) (Int × (List (List Int)))) :=
  (cond (decide (s1.2.2 < (s1.1.length : Int))) (bnd (idx s1.1 s1.2.2) fun y4 => bnd (F_laws_markInt64S y4 s1.2.1) fun r10 => some (.inl ((s1.1.set s1.2.2.toNat r10.2), r10.1, (w64 (s1.2.2 + 1))))) (some (.inr (.brk (s1.1, s1.2.1, s1.2.2)))))

noncomputable def F_laws_markInt64SS (p0 : (List (List Int))) (p1 : Int) : Option (Int × (List (List Int))) :=
  bnd (run (F_laws_markInt64SS_L1) (p0, p1, 0)) (Out.elim (fun (s1 : (List (List Int)) × Int × Int) => some (s1.2.1, s1.1)) (fun (r : Int × (List (List Int))) => some r))

noncomputable def F_laws_heldInt64S_L1 (p0 : (List Int)) (s1 : Int × Int) : Option ((Int × Int) ⊕ Out (Int × Int) Int) :=
  (cond (decide (s1.2 < (p0.length : Int))) (bnd (idx p0 s1.2) fun y4 => (cond (decide (y4 ≠ s1.1)) (some (.inr (.ret (-1)))) (some (.inl ((w64 (s1.1 + 1)), (w64 (s1.2 + 1))))))) (some (.inr (.brk (s1.1, s1.2)))))

noncomputable def F_laws_heldInt64S (p0 : (List Int)) (p1 : Int) : Option (Int) :=
  bnd (run (F_laws_heldInt64S_L1 p0) (p1, 0)) (Out.elim (fun (s1 : Int × Int) => some s1.1) (fun (r : Int) => some r))

noncomputable def F_laws_heldInt64SS_L1 (p0 : (List (List Int))) (s1 : Int × Int) : Option ((Int × Int) ⊕ Out (Int × Int) Int) :=
  (cond (decide (s1.2 < (p0.length : Int))) (bnd (idx p0 s1.2) fun y4 => bnd (F_laws_heldInt64S y4 s1.1) fun r8 => (cond (decide (r8 < 0)) (some (.inr (.ret (-1)))) (some (.inl (r8, (w64 (s1.2 + 1))))))) (some (.inr (.brk (s1.1, s1.2)))))

noncomputable def F_laws_heldInt64SS (p0 : (List (List Int))) (p1 : Int) : Option (Int) :=
  bnd (run (F_laws_heldInt64SS_L1 p0) (p1, 0)) (Out.elim (fun (s1 : Int × Int) => some s1.1) (fun (r : Int) => some r))


noncomputable def F_laws_FnExactNormalFormsOf (p0 : (List GRewrite)) (p1 : (List Int)) (p2 : Int) : Option (Bool) :=
  (cond (decide (1048576 < (p1.length : Int))) (some true) (bnd (F_laws_szRewriteS p0 1048576) fun r2 => (cond (decide (r2 < 0)) (some true) (bnd (F_laws_toRewriteS p0) fun r5 => bnd (F_laws_toInt64S p1) fun r8 => bnd (F_spec_NormalFormsOf r5 r8 p2) fun r11 => bnd (F_laws_toRewriteS p0) fun r14 => bnd (F_laws_toInt64S p1) fun r17 => bnd (F_impl_NormalFormsOf r14 r17 p2) fun r20 => bnd (bnd (F_laws_eqInt64SS r20.1 r11.1) fun r25 => (cond (!r25) (some (.ret false)) (cond (r20.2.1 != r11.2.1) (some (.ret false)) (cond (decide (r20.2.2 ≠ r11.2.2)) (some (.ret false)) (some (.brk ()))))) : Option (Out (Unit) Bool)) (Out.elim (fun (s23 : Unit) => bnd (F_laws_toRewriteS p0) fun r30 => bnd (F_laws_eqRewriteS r14 r30) fun r33 => (cond (!r33) (some false) (bnd (F_laws_toInt64S p1) fun r36 => bnd (F_laws_eqInt64S r17 r36) fun r39 => (cond (!r39) (some false) (bnd (F_laws_markRewriteS r14 1) fun r42 => bnd (F_laws_markInt64S r17 r42.1) fun r44 => bnd ((cond (decide (r44.1 < 0)) (some (.ret false)) (bnd (F_laws_eqInt64SS r20.1 r11.1) fun r49 => (cond (!r49) (some (.ret false)) (cond (r20.2.1 != r11.2.1) (some (.ret false)) (cond (decide (r20.2.2 ≠ r11.2.2)) (some (.ret false)) (some (.brk ()))))))) : Option (Out (Unit) Bool)) (Out.elim (fun (s46 : Unit) => bnd (F_laws_markInt64SS r20.1 1) fun r54 => bnd (F_laws_heldInt64SS r54.2 1) fun r56 => (cond (decide (r56 < 0)) (some false) (cond (decide (r56 ≠ r54.1)) (some false) (bnd (F_laws_toRewriteS p0) fun r60 => bnd (F_laws_toInt64S p1) fun r63 => bnd (F_impl_NormalFormsOf r60 r63 p2) fun r66 => bnd (F_laws_eqInt64SS r66.1 r11.1) fun r69 => (cond (!r69) (some false) (cond (r66.2.1 != r11.2.1) (some false) (cond (decide (r66.2.2 ≠ r11.2.2)) (some false) (bnd (F_laws_heldInt64SS r54.2 1) fun r74 => (cond (decide (r74 < 0)) (some false) (cond (decide (r74 ≠ r54.1)) (some false) (some true))))))))))) (fun (r : Bool) => some r))))))) (fun (r : Bool) => some r))))))


noncomputable def F_laws_b10Long (p0 : (List (Ik .u8))) : Option (Bool) :=
  some (decide (1048576 < (p0.length : Int)))


noncomputable def F_spec_l00From (p0 : (List (Ik .u8))) : Option (((List (Ik .u8)) × Int × (Ik .u64))) :=
  some (p0, 0, (⟨0⟩ : Ik .u64))


noncomputable def F_spec_l00Src_next (p0 : Gl00Src) : Option ((Int) × (Int × (Ik .u64))) :=
  bnd ((cond (decide (p0.at_ < (p0.code.length : Int))) (bnd (idx p0.code p0.at_) fun y4 => some (.brk (w64 y4.val))) (some (.brk 0))) : Option (Out (Int) ((Int) × (Int × (Ik .u64))))) (Out.elim (fun (s1 : Int) => (cond (decide ((w64 (p0.at_ + 1)) ≤ (p0.code.length : Int))) (some (s1, ((w64 (p0.at_ + 1)), (⟨(wk .u64 ((wk .u64 ((wk .u64 (p0.seed.val * 6364136223846793005)) + (wk .u64 s1))) + 1442695040888963407))⟩ : Ik .u64)))) (some ((w64 (kand .u64 (Int.fdiv (wk .u64 ((wk .u64 ((wk .u64 (p0.seed.val * 6364136223846793005)) + (wk .u64 s1))) + 1442695040888963407)) (2 ^ min (40 : Int).toNat (IntKind.bits .u64))) 255)), ((w64 (p0.at_ + 1)), (⟨(wk .u64 ((wk .u64 ((wk .u64 (p0.seed.val * 6364136223846793005)) + (wk .u64 s1))) + 1442695040888963407))⟩ : Ik .u64)))))) (fun (r : (Int) × (Int × (Ik .u64))) => some r))


noncomputable def F_spec_l00Src_pick (p0 : Gl00Src) (p1 : Int) : Option ((Int) × (Int × (Ik .u64))) :=
  (cond (decide (p1 ≤ 1)) (some (0, (p0.at_, p0.seed))) (bnd (F_spec_l00Src_next p0) fun r2 => (cond (decide (200 < p1)) (bnd (F_spec_l00Src_next (⟨p0.code, r2.2.1, r2.2.2⟩ : Gl00Src)) fun r5 => bnd (nz p1) fun u7 => some ((Int.tmod (w64 ((w64 (r2.1 * 256)) + r5.1)) p1), (r5.2.1, r5.2.2))) (bnd (nz p1) fun u9 => some ((Int.tmod r2.1 p1), (r2.2.1, r2.2.2))))))

noncomputable def F_spec_l10DrawWord_L1 (p0 : Gl00Src) (p3 : Int) (s4 : Int × (Ik .u64) × (List Int) × Int) : Option ((Int × (Ik .u64) × (List Int) × Int) ⊕ Out (Int × (Ik .u64) × (List Int) × Int) (((List Int)) × (Int × (Ik .u64)))) :=
  (cond (decide (0 < s4.2.2.2)) (bnd (F_spec_l00Src_pick (⟨p0.code, s4.1, s4.2.1⟩ : Gl00Src) p3) fun r7 => bnd (app s4.2.2.1 ([r7.1] : List Int)) fun z10 => some (.inl (r7.2.1, r7.2.2, z10, (w64 (s4.2.2.2 - 1))))) (some (.inr (.brk (s4.1, s4.2.1, s4.2.2.1, s4.2.2.2)))))

noncomputable def F_spec_l10DrawWord (p0 : Gl00Src) (p1 : Int) (p2 : Int) (p3 : Int) : Option (((List Int)) × (Int × (Ik .u64))) :=
  bnd (F_spec_l00Src_pick p0 (w64 ((w64 (p2 - p1)) + 1))) fun r2 => bnd (run (F_spec_l10DrawWord_L1 p0 p3) (r2.2.1, r2.2.2, ([] : List Int), (w64 (p1 + r2.1)))) (Out.elim (fun (s4 : Int × (Ik .u64) × (List Int) × Int) => some (s4.2.2.1, (s4.1, s4.2.1))) (fun (r : ((List Int)) × (Int × (Ik .u64))) => some r))

noncomputable def F_spec_B10Shrinking_L1 (r1 : ((List (Ik .u8)) × Int × (Ik .u64))) (s7 : Int × (Ik .u64) × (List GRewrite) × Int) : Option ((Int × (Ik .u64) × (List GRewrite) × Int) ⊕ Out (Int × (Ik .u64) × (List GRewrite) × Int) ((List GRewrite) × (List Int))) :=
  (cond (decide (0 < s7.2.2.2)) (bnd (F_spec_l10DrawWord (⟨r1.1, s7.1, s7.2.1⟩ : Gl00Src) 2 3 2) fun r10 => bnd (F_spec_l10DrawWord (⟨r1.1, r10.2.1, r10.2.2⟩ : Gl00Src) 0 (w64 ((r10.1.length : Int) - 1)) 2) fun r13 => bnd (app s7.2.2.1 ([(⟨r10.1, r13.1⟩ : GRewrite)] : List GRewrite)) fun z17 => some (.inl (r13.2.1, r13.2.2, z17, (w64 (s7.2.2.2 - 1))))) (some (.inr (.brk (s7.1, s7.2.1, s7.2.2.1, s7.2.2.2)))))

noncomputable def F_spec_B10Shrinking (p0 : (List (Ik .u8))) : Option ((List GRewrite) × (List Int)) :=
  bnd (F_spec_l00From p0) fun r1 => bnd (F_spec_l00Src_pick (⟨r1.1, r1.2.1, r1.2.2⟩ : Gl00Src) 3) fun r5 => bnd (run (F_spec_B10Shrinking_L1 r1) (r5.2.1, r5.2.2, ([] : List GRewrite), (w64 (1 + r5.1)))) (Out.elim (fun (s7 : Int × (Ik .u64) × (List GRewrite) × Int) => bnd (F_spec_l10DrawWord (⟨r1.1, s7.1, s7.2.1⟩ : Gl00Src) 0 7 2) fun r20 => some (s7.2.2.1, r20.1)) (fun (r : (List GRewrite) × (List Int)) => some r))

noncomputable def F_impl_overlaps_L1 (p0 : GRewrite) (p1 : GRewrite) (p2 : Bool) (s4 : (List (List (List Int))) × Int) : Option (((List (List (List Int))) × Int) ⊕ Out ((List (List (List Int))) × Int) (List (List (List Int)))) :=
  (cond (decide (1 ≤ s4.2)) (bnd ((cond p2 (cond (decide (s4.2 = (p0.From.length : Int))) (some (.brk true)) (bnd (slc p0.From (w64 ((p0.From.length : Int) - s4.2)) (p0.From.length : Int)) fun z11 => bnd (slc p1.From 0 s4.2) fun z14 => bnd (F_slices_Equal_Sint64_int64 z11 z14) fun r20 => some (.brk (!r20)))) (bnd (slc p0.From (w64 ((p0.From.length : Int) - s4.2)) (p0.From.length : Int)) fun z22 => bnd (slc p1.From 0 s4.2) fun z25 => bnd (F_slices_Equal_Sint64_int64 z22 z25) fun r31 => some (.brk (!r31)))) : Option (Out (Bool) (List (List (List Int))))) (Out.elim (fun (s7 : Bool) => (cond s7 (some (.inl (s4.1, (w64 (s4.2 - 1))))) (bnd (slc p1.From s4.2 (p1.From.length : Int)) fun z34 => bnd (F_impl_joined ([p0.From, z34] : List (List Int))) fun r41 => bnd (slc p1.From s4.2 (p1.From.length : Int)) fun z44 => bnd (slc r41 0 (w64 ((r41.length : Int) - (p1.From.length : Int)))) fun z47 => bnd (F_impl_joined ([p0.To, z44] : List (List Int))) fun r54 => bnd (F_impl_joined ([z47, p1.To] : List (List Int))) fun r58 => bnd (app s4.1 ([([r41, r54, r58] : List (List Int))] : List (List (List Int)))) fun z63 => some (.inl (z63, (w64 (s4.2 - 1))))))) (fun (r : (List (List (List Int)))) => some (.inr (.ret r))))) (some (.inr (.brk (s4.1, s4.2)))))

noncomputable def F_impl_overlaps (p0 : GRewrite) (p1 : GRewrite) (p2 : Bool) : Option ((List (List (List Int)))) :=
  bnd (run (F_impl_overlaps_L1 p0 p1 p2) (([] : List (List (List Int))), (if (p1.From.length : Int) < (p0.From.length : Int) then (p1.From.length : Int) else (p0.From.length : Int)))) (Out.elim (fun (s4 : (List (List (List Int))) × Int) => some s4.1) (fun (r : (List (List (List Int)))) => some r))

noncomputable def F_impl_OverlapsOf_L3 (r21 : (List (List (List Int)))) (s27 : (List (List (List Int))) × Int) : Option (((List (List (List Int))) × Int) ⊕ Out ((List (List (List Int))) × Int) ((List (List (List Int))) × Int)) :=
  (cond (decide (s27.2 < (r21.length : Int))) (bnd (idx r21 s27.2) fun y30 => bnd (F_impl_areWords y30) fun r37 => (cond (!r37) (some (.inr (.ret (([] : (List (List (List Int)))), 5)))) (cond (decide ((s27.1.length : Int) = 300)) (some (.inr (.ret (([] : (List (List (List Int)))), 5)))) (bnd (app s27.1 ([y30] : List (List (List Int)))) fun z42 => some (.inl (z42, (w64 (s27.2 + 1)))))))) (some (.inr (.brk (s27.1, s27.2)))))

noncomputable def F_impl_OverlapsOf_L2 (p0 : (List GRewrite)) (s5 : (List (List (List Int))) × Int) (y8 : GRewrite) (s13 : (List (List (List Int))) × Int) : Option (((List (List (List Int))) × Int) ⊕ Out ((List (List (List Int))) × Int) ((List (List (List Int))) × Int)) :=
  (cond (decide (s13.2 < (p0.length : Int))) (bnd (idx p0 s13.2) fun y16 => bnd (F_impl_overlaps y8 y16 (decide (s5.2 = s13.2))) fun r21 => bnd (run (F_impl_OverlapsOf_L3 r21) (s13.1, 0)) (Out.elim (fun (s27 : (List (List (List Int))) × Int) => some (.inl (s27.1, (w64 (s13.2 + 1))))) (fun (r : (List (List (List Int))) × Int) => some (.inr (.ret r))))) (some (.inr (.brk (s13.1, s13.2)))))

noncomputable def F_impl_OverlapsOf_L1 (p0 : (List GRewrite)) (s5 : (List (List (List Int))) × Int) : Option (((List (List (List Int))) × Int) ⊕ Out ((List (List (List Int))) × Int) ((List (List (List Int))) × Int)) :=
  (cond (decide (s5.2 < (p0.length : Int))) (bnd (idx p0 s5.2) fun y8 => bnd (run (F_impl_OverlapsOf_L2 p0 s5 y8) (s5.1, 0)) (Out.elim (fun (s13 : (List (List (List Int))) × Int) => some (.inl (s13.1, (w64 (s5.2 + 1))))) (fun (r : (List (List (List Int))) × Int) => some (.inr (.ret r))))) (some (.inr (.brk (s5.1, s5.2)))))

noncomputable def F_impl_OverlapsOf (p0 : (List GRewrite)) : Option ((List (List (List Int))) × Int) :=
  bnd (F_impl_ValidRewrites p0) fun r1 => (cond (!r1) (some (([] : (List (List (List Int)))), 1)) (bnd (run (F_impl_OverlapsOf_L1 p0) (([] : List (List (List Int))), 0)) (Out.elim (fun (s5 : (List (List (List Int))) × Int) => some (s5.1, 0)) (fun (r : (List (List (List Int))) × Int) => some r))))

noncomputable def F_impl_SuccessorsOf_L1 (r9 : (List Gmove) × Bool) (s17 : List (ByteArray × Bool) × (List (List Int)) × Int) : Option ((List (ByteArray × Bool) × (List (List Int)) × Int) ⊕ Out (List (ByteArray × Bool) × (List (List Int)) × Int) ((List (List Int)) × Int)) :=
  (cond (decide (s17.2.2 < (r9.1.length : Int))) (bnd (idx r9.1 s17.2.2) fun y20 => bnd (F_impl_keyOf y20.word) fun r28 => (cond (!((mget s17.1 r28).getD false)) (bnd (app s17.2.1 ([y20.word] : List (List Int))) fun z32 => some (.inl ((mput s17.1 r28 true), z32, (w64 (s17.2.2 + 1))))) (some (.inl (s17.1, s17.2.1, (w64 (s17.2.2 + 1))))))) (some (.inr (.brk (s17.1, s17.2.1, s17.2.2)))))

noncomputable def F_impl_SuccessorsOf (p0 : (List GRewrite)) (p1 : (List Int)) : Option ((List (List Int)) × Int) :=
  bnd (bnd (F_impl_ValidRewrites p0) fun r3 => (cond (!r3) (some (.ret (([] : (List (List Int))), 1))) (bnd (F_impl_IsWord p1) fun r6 => (cond (!r6) (some (.ret (([] : (List (List Int))), 1))) (some (.brk ()))))) : Option (Out (Unit) ((List (List Int)) × Int))) (Out.elim (fun (s1 : Unit) => bnd (F_impl_movesOf p0 p1) fun r9 => bnd (run (F_impl_SuccessorsOf_L1 r9) (([] : List (ByteArray × Bool)), ([] : List (List Int)), 0)) (Out.elim (fun (s17 : List (ByteArray × Bool) × (List (List Int)) × Int) => some (s17.2.1, 0)) (fun (r : (List (List Int)) × Int) => some r))) (fun (r : (List (List Int)) × Int) => some r))

noncomputable def F_laws_b10Nums_L1 (p0 : (List Int)) (p1 : (List Int)) (s2 : Int) : Option ((Int) ⊕ Out (Int) Bool) :=
  (cond (decide (s2 < (p0.length : Int))) (bnd (idx p0 s2) fun y5 => bnd (idx p1 s2) fun y9 => (cond (decide (y5 ≠ y9)) (some (.inr (.ret false))) (some (.inl (w64 (s2 + 1)))))) (some (.inr (.brk s2))))

noncomputable def F_laws_b10Nums (p0 : (List Int)) (p1 : (List Int)) : Option (Bool) :=
  (cond (decide ((p0.length : Int) ≠ (p1.length : Int))) (some false) (bnd (run (F_laws_b10Nums_L1 p0 p1) 0) (Out.elim (fun (s2 : Int) => some true) (fun (r : Bool) => some r))))

noncomputable def F_laws_b10Row_L1 (p0 : (List (List Int))) (p1 : (List Int)) (s1 : Int) : Option ((Int) ⊕ Out (Int) Bool) :=
  (cond (decide (s1 < (p0.length : Int))) (bnd (idx p0 s1) fun y4 => bnd (F_laws_b10Nums y4 p1) fun r8 => (cond r8 (some (.inr (.ret true))) (some (.inl (w64 (s1 + 1)))))) (some (.inr (.brk s1))))

noncomputable def F_laws_b10Row (p0 : (List (List Int))) (p1 : (List Int)) : Option (Bool) :=
  bnd (run (F_laws_b10Row_L1 p0 p1) 0) (Out.elim (fun (s1 : Int) => some false) (fun (r : Bool) => some r))

noncomputable def F_impl_AreJoinable_L1 (r8 : ((List Gfound) × (List (ByteArray × Int)) × Bool)) (s21 : Unit) (kv15 : ByteArray × Int) : Option ((Unit) ⊕ Out (Unit) (Bool × Int)) :=
  (cond ((mget r8.2.1 kv15.1).isSome) (some (.inr (.ret (true, 0)))) (some (.inl ())))

noncomputable def F_impl_AreJoinable (p0 : (List GRewrite)) (p1 : (List Int)) (p2 : (List Int)) (p3 : Int) : Option (Bool × Int) :=
  bnd (F_impl_searchCode p0 p3 ([p1, p2] : List (List Int))) fun r2 => (cond (decide (r2 ≠ 0)) (some (false, r2)) (bnd (F_impl_searched p0 p1 p3) fun r5 => bnd (F_impl_searched p0 p2 p3) fun r8 => bnd (rangeU r5.2.1 (F_impl_AreJoinable_L1 r8) ()) (Out.elim (fun (s21 : Unit) => (cond (!r5.2.2) (some (false, 5)) (cond (!r8.2.2) (some (false, 5)) (some (false, 0))))) (fun (r : Bool × Int) => some r))))

noncomputable def F_laws_FnOverlaps_L1 (r4 : (List GRewrite) × (List Int)) (r7 : (List (List (List Int))) × Int) (s11 : Bool × Int) : Option ((Bool × Int) ⊕ Out (Bool × Int) Bool) :=
  (cond (decide (s11.2 < (r7.1.length : Int))) (bnd (idx r7.1 s11.2) fun y14 => (cond (decide ((y14.length : Int) ≠ 3)) (some (.inr (.ret false))) (bnd (idx r7.1 s11.2) fun y19 => bnd (idx y19 0) fun y23 => bnd (F_impl_SuccessorsOf r4.1 y23) fun r27 => bnd ((cond (decide (r27.2 ≠ 0)) (some (.ret false)) (bnd (idx r7.1 s11.2) fun y33 => bnd (idx y33 1) fun y37 => bnd (F_laws_b10Row r27.1 y37) fun r41 => (cond (!r41) (some (.ret false)) (bnd (idx r7.1 s11.2) fun y44 => bnd (idx y44 2) fun y48 => bnd (F_laws_b10Row r27.1 y48) fun r52 => (cond (!r52) (some (.ret false)) (some (.brk ()))))))) : Option (Out (Unit) Bool)) (Out.elim (fun (s30 : Unit) => bnd (idx r7.1 s11.2) fun y55 => bnd (idx y55 1) fun y59 => bnd (idx r7.1 s11.2) fun y63 => bnd (idx y63 2) fun y67 => bnd (F_impl_AreJoinable r4.1 y59 y67 40) fun r74 => (cond s11.1 (cond (decide (r74.2 = 0)) (some (.inl (r74.1, (w64 (s11.2 + 1))))) (some (.inl (false, (w64 (s11.2 + 1)))))) (some (.inl (false, (w64 (s11.2 + 1))))))) (fun (r : Bool) => some (.inr (.ret r))))))) (some (.inr (.brk (s11.1, s11.2)))))

noncomputable def F_laws_FnOverlaps (p0 : (List (Ik .u8))) : Option (Bool) :=
  bnd (F_laws_b10Long p0) fun r1 => (cond r1 (some true) (bnd (F_spec_B10Shrinking p0) fun r4 => bnd (F_impl_OverlapsOf r4.1) fun r7 => (cond (decide (r7.2 ≠ 0)) (some false) (bnd (run (F_laws_FnOverlaps_L1 r4 r7) (true, 0)) (Out.elim (fun (s11 : Bool × Int) => bnd (F_impl_NormalFormsOf r4.1 r4.2 200) fun r78 => (cond (decide (r78.2.2 ≠ 0)) (some false) (cond (!r78.2.1) (bnd (F_spec_NormalFormsOf r4.1 r4.2 200) fun r83 => some (!r83.2.1)) (cond (decide (0 < (r78.1.length : Int))) (cond (!s11.1) (some true) (some (decide ((r78.1.length : Int) = 1)))) (some false))))) (fun (r : Bool) => some r))))))

end Go.Fn
