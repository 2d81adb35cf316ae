/-
  Plain laws, part 2. No program in sight. No condition.
-/
import Derived.Test.YtgpimmdigeobbaaPM1
namespace Go.Fn
open Go Go.Tc
theorem im_copyLists (xs : List (List Int)) (hn : xs.length ≤ 1000) (h : ∀ w ∈ xs, w.length ≤ 1000) : F_impl_copyLists xs = some xs := by
 unfold F_impl_copyLists
 have key : ∀ (n i : Nat), i + n = xs.length → run (F_impl_copyLists_L1 xs) (xs.take i, (i : Int)) = some (.brk (xs, (xs.length : Int))) := by
  intro n
  induction n with
  | zero =>
   intro i hi
   obtain rfl : i = xs.length := by omega
   rw [List.take_length]
   refine run_done ?_
   simp only [F_impl_copyLists_L1]
   rw [decide_eq_false (by omega), cond_false]
  | succ n ih =>
   intro i hi
   have hlt : i < xs.length := by omega
   have hl := h _ (List.getElem_mem hlt)
   have hb : F_impl_copyLists_L1 xs (xs.take i, (i : Int)) = some (.inl (xs.take (i + 1), ((i + 1 : Nat) : Int))) := by
    simp only [F_impl_copyLists_L1]
    rw [decide_eq_true (by omega), cond_true, idx_nat hlt, bnd_some_eq, impl_clone' _ (by omega), bnd_some_eq, app_ok (by simp; omega), bnd_some_eq, w64_nat1 (by omega), List.take_succ_eq_append_getElem hlt]
   rw [run_next hb]
   exact ih (i + 1) (by omega)
 have := key xs.length 0 (by omega)
 rw [List.take_zero, show ((0 : Nat) : Int) = 0 from rfl] at this
 rw [this, bnd_some_eq]
 rfl
def zFm : GFormula := ⟨0, 0, 0, [], [], []⟩
def wdF (f : GFormula) : GFormula :=
 if f.At = -1 ∧ f.Head = 0 then ⟨f.State, f.Head, 0, f.Walls.set f.Head.toNat (0 :: f.Walls.getD f.Head.toNat []), f.Repeats, f.Offsets⟩
 else if f.At = ((f.Walls.getD f.Head.toNat []).length : Int) ∧ f.Head = (f.Repeats.length : Int) then ⟨f.State, f.Head, f.At, f.Walls.set f.Head.toNat (f.Walls.getD f.Head.toNat [] ++ [0]), f.Repeats, f.Offsets⟩
 else f
def outF (m : GMachine) (k : Int) (g : GFormula) : Option (GFormula × Int × Int) := some (if formB m g = true then (g, k, 0) else (zFm, 0, 5))
noncomputable def endF (m : GMachine) (k : Int) (g : GFormula) : Option (GFormula × Int × Int) := bnd (F_impl_formulaOf m g) fun b => (cond (!b) (some (zFm, 0, 5)) (some (g, k, 0)))
noncomputable def tl2 (m : GMachine) (k st hd at_ : Int) (WW RR : List (List Int)) (OO y : List Int) : Option (GFormula × Int × Int) :=
 bnd (F_impl_size_int64 y) fun r => (cond (decide (at_ = r)) (bnd (F_impl_Formula_last (⟨st, hd, at_, (WW.set hd.toNat y), RR, OO⟩ : GFormula)) fun r2 => (cond (decide (hd = r2)) (bnd (app y ([0] : List Int)) fun z => endF m k ⟨st, hd, at_, (WW.set hd.toNat z), RR, OO⟩) (endF m k ⟨st, hd, at_, (WW.set hd.toNat y), RR, OO⟩))) (endF m k ⟨st, hd, at_, (WW.set hd.toNat y), RR, OO⟩))
noncomputable def tl1 (m : GMachine) (k st hd at_ : Int) (WW RR : List (List Int)) (OO y : List Int) : Option (GFormula × Int × Int) :=
 (cond (decide (at_ = (-1))) (cond (decide (hd = 0)) (bnd (F_impl_joined ([([0] : List Int), y] : List (List Int))) fun z => endF m k ⟨st, hd, 0, (WW.set hd.toNat z), RR, OO⟩) (tl2 m k st hd at_ WW RR OO y)) (tl2 m k st hd at_ WW RR OO y))
theorem Frm.setW {st hd at_ : Int} {WW RR : List (List Int)} {OO : List Int} {y : List Int} (h : Frm ⟨st, hd, at_, WW, RR, OO⟩) (at2 : Int) (k : Nat) (hy : y.length ≤ 1000) : Frm ⟨st, hd, at2, WW.set k y, RR, OO⟩ := by
 obtain ⟨r1, r3, lw, lo, h0, hr, sw, sr⟩ := h
 refine ⟨r1, r3, by simpa using lw, lo, h0, hr, fun w hw => ?_, sr⟩
 rcases List.mem_or_eq_of_mem_set hw with hw | rfl
 ·exact sw w hw
 ·exact hy
section
variable {m : GMachine} (hS : 2 ≤ m.Symbols ∧ m.Symbols ≤ 6) (hQ : 1 ≤ m.States ∧ m.States ≤ 1000)
include hS hQ
theorem end_eq {k : Int} {g : GFormula} (h : Frm g) : endF m k g = outF m k g := by
 unfold endF outF
 rw [im_form hS hQ h, bnd_some_eq]
 cases formB m g <;> rfl
theorem tl2_eq {k st hd at_ : Int} {WW RR : List (List Int)} {OO y : List Int} (h : Frm ⟨st, hd, at_, WW, RR, OO⟩) (hy : y.length ≤ 900) (hne : ¬ (at_ = -1 ∧ hd = 0)) : tl2 m k st hd at_ WW RR OO y = outF m k (wdF ⟨st, hd, at_, WW.set hd.toNat y, RR, OO⟩) := by
 have h0 := h.h0
 have hr := h.hr
 have lw := h.lw
 have r3 := h.r3
 simp only at h0 hr lw r3
 have hlt : hd.toNat < WW.length := by omega
 have hg : (WW.set hd.toNat y).getD hd.toNat [] = y := by
  rw [getDl [] (by simpa using hlt), List.getElem_set_self]
 unfold tl2 wdF
 simp only [F_impl_size_int64, bnd_some_eq, F_impl_Formula_last, F_impl_size_Sint64, hg, List.length_set]
 rw [if_neg hne, lw, w64_in (by omega) (by omega), show (((RR.length + 1 : Nat) : Int) - 1) = (RR.length : Int) by omega]
 by_cases h1 : at_ = (y.length : Int)
 ·rw [decide_eq_true h1, cond_true]
  by_cases h2 : hd = (RR.length : Int)
  ·rw [decide_eq_true h2, cond_true, if_pos ⟨h1, h2⟩, app_ok (by simp; omega), bnd_some_eq, List.set_set]
   exact end_eq hS hQ (h.setW at_ _ (by simp; omega))
  ·rw [decide_eq_false h2, cond_false, if_neg (fun k => h2 k.2)]
   exact end_eq hS hQ (h.setW at_ _ (by omega))
 ·rw [decide_eq_false h1, cond_false, if_neg (fun k => h1 k.1)]
  exact end_eq hS hQ (h.setW at_ _ (by omega))
theorem tl1_eq {k st hd at_ : Int} {WW RR : List (List Int)} {OO y : List Int} (h : Frm ⟨st, hd, at_, WW, RR, OO⟩) (hy : y.length ≤ 900) : tl1 m k st hd at_ WW RR OO y = outF m k (wdF ⟨st, hd, at_, WW.set hd.toNat y, RR, OO⟩) := by
 have h0 := h.h0
 have hr := h.hr
 have lw := h.lw
 simp only at h0 hr lw
 unfold tl1
 by_cases h1 : at_ = -1
 ·rw [decide_eq_true h1, cond_true]
  by_cases h2 : hd = 0
  ·rw [decide_eq_true h2, cond_true, impl_joined _ (by simp) (by simp; omega), bnd_some_eq]
   have hlt : hd.toNat < WW.length := by omega
   have hg : (WW.set hd.toNat y).getD hd.toNat [] = y := by
    rw [getDl [] (by simpa using hlt), List.getElem_set_self]
   unfold wdF
   simp only [hg]
   rw [if_pos ⟨h1, h2⟩, List.set_set]
   have e : ([[0], y] : List (List Int)).flatten = 0 :: y := by simp
   rw [e]
   exact end_eq hS hQ (h.setW 0 _ (by simp; omega))
  ·rw [decide_eq_false h2, cond_false]
   exact tl2_eq hS hQ h hy (fun k => h2 k.2)
 ·rw [decide_eq_false h1, cond_false]
  exact tl2_eq hS hQ h hy (fun k => h1 k.1)
end
noncomputable def stpE (p0 : GMachine) (p1 : GFormula) : Option (GFormula × Int × Int) :=
 bnd (F_impl_ValidFormula p0 p1) fun r4 => (cond (!r4) (some (zFm, 0, 1)) (bnd (F_impl_copyFormula p1) fun r7 => bnd (F_impl_Formula_onRepeater (⟨r7.1, r7.2.1, r7.2.2.1, r7.2.2.2.1, r7.2.2.2.2.1, r7.2.2.2.2.2⟩ : GFormula)) fun r12 =>
  (cond (decide (r12.2 = 0))
   (bnd (idx r7.2.2.2.1 r7.2.1) fun y18 => bnd (idx y18 r7.2.2.1) fun _ => bnd (idx y18 r7.2.2.1) fun y36 => bnd (idx p0.Rules (w64 ((w64 (r7.1 * p0.Symbols)) + y36))) fun y38 => bnd (F_impl_isRule y38) fun r46 => (cond (!r46) (some (zFm, 0, 6)) (bnd (idx y18 r7.2.2.1) fun _ => tl1 p0 0 y38.Next r7.2.1 (w64 (r7.2.2.1 + y38.Move)) r7.2.2.2.1 r7.2.2.2.2.1 r7.2.2.2.2.2 (y18.set r7.2.2.1.toNat y38.Write))))
   (bnd (idx r7.2.2.2.2.1 r12.1) fun y170 => bnd (F_impl_shiftOver p0 r7.1 y170 r12.2) fun r178 => (cond (decide (r178.2.2 = 0))
    (bnd (idx r7.2.2.2.2.1 r12.1) fun _ => bnd ((cond (decide (r12.2 = 1)) (some (.brk (w64 (r12.1 + 1)))) (some (.brk r12.1))) : Option (Out (Int) (Option (GFormula × Int × Int)))) (Out.elim (fun (s185 : Int) => (cond (decide (r12.2 = (-1)))
     (bnd (idx r7.2.2.2.1 r12.1) fun y189 => bnd (F_impl_size_int64 y189) fun r194 => bnd (idx r7.2.2.2.1 s185) fun y198 => tl1 p0 1 r7.1 s185 (w64 (r194 - 1)) r7.2.2.2.1 (r7.2.2.2.2.1.set r12.1.toNat r178.1) r7.2.2.2.2.2 y198)
     (bnd (idx r7.2.2.2.1 s185) fun y322 => tl2 p0 1 r7.1 s185 0 r7.2.2.2.1 (r7.2.2.2.2.1.set r12.1.toNat r178.1) r7.2.2.2.2.2 y322))) (fun (r : Option (GFormula × Int × Int)) => r)))
    (cond (decide (r12.2 = 1))
     (bnd (idx r7.2.2.2.1 r12.1) fun y371 => bnd (idx r7.2.2.2.2.1 r12.1) fun y375 => bnd (F_impl_joined ([y371, y375] : List (List Int))) fun r383 => bnd (idx r7.2.2.2.1 r12.1) fun _ => bnd (idx r7.2.2.2.2.2 r12.1) fun y388 => bnd (idx r7.2.2.2.2.2 r12.1) fun _ => endF p0 2 (⟨r7.1, r7.2.1, r7.2.2.1, (r7.2.2.2.1.set r12.1.toNat r383), r7.2.2.2.2.1, (r7.2.2.2.2.2.set r12.1.toNat (w64 (y388 - 1)))⟩ : GFormula))
     (bnd (bnd (idx r7.2.2.2.2.1 r12.1) fun y424 => bnd (idx r7.2.2.2.1 (w64 (r12.1 + 1))) fun y426 => bnd (F_impl_joined ([y424, y426] : List (List Int))) fun r436 => bnd (idx r7.2.2.2.1 (w64 (r12.1 + 1))) fun _ => some (.brk (r7.2.2.2.1.set (w64 (r12.1 + 1)).toNat r436)) : Option (Out ((List (List Int))) (Option (GFormula × Int × Int)))) (Out.elim (fun (s422 : (List (List Int))) => bnd (idx r7.2.2.2.2.1 r12.1) fun y449 => bnd (F_impl_size_int64 y449) fun r452 => bnd (idx r7.2.2.2.2.2 r12.1) fun y454 => bnd (idx r7.2.2.2.2.2 r12.1) fun _ => endF p0 2 (⟨r7.1, r7.2.1, (w64 (r452 - 1)), s422, r7.2.2.2.2.1, (r7.2.2.2.2.2.set r12.1.toNat (w64 (y454 - 1)))⟩ : GFormula)) (fun (r : Option (GFormula × Int × Int)) => r)))))))))
theorem stp_eq (m : GMachine) (f : GFormula) : F_impl_StepFormula m f = stpE m f := rfl
end Go.Fn
namespace Go.Fn
open Go Go.Tc
def postF (f : GFormula) (ns : List Nat) (k : Nat) : List Int := (List.range (f.Walls.length - (k + 1))).flatMap fun j => sgF f ns (k + 1 + j)
theorem cells_split (f : GFormula) (ns : List Nat) {k : Nat} (h : k < f.Walls.length) : cellsF f ns = preF f ns k ++ (sgF f ns k ++ postF f ns k) := by
 unfold cellsF postF
 have key : ∀ d, preF f ns (k + 1 + d) = preF f ns (k + 1) ++ (List.range d).flatMap fun j => sgF f ns (k + 1 + j) := by
  intro d
  induction d with
  | zero => simp
  | succ d ih => rw [← Nat.add_assoc, pre_succ, ih, List.range_succ, List.flatMap_append, List.flatMap_singleton, List.append_assoc]
 have := key (f.Walls.length - (k + 1))
 rw [show k + 1 + (f.Walls.length - (k + 1)) = f.Walls.length by omega] at this
 rw [this, pre_succ, List.append_assoc]
theorem post_succ (f : GFormula) (ns : List Nat) {k : Nat} (h : k + 1 < f.Walls.length) : postF f ns k = sgF f ns (k + 1) ++ postF f ns (k + 1) := by
 have h1 := cells_split f ns (k := k) (by omega)
 have h2 := cells_split f ns h
 rw [h1, pre_succ, List.append_assoc] at h2
 exact List.append_cancel_left (List.append_cancel_left h2)
theorem post_last (f : GFormula) (ns : List Nat) {k : Nat} (h : k + 1 = f.Walls.length) : postF f ns k = [] := by
 unfold postF
 rw [h, Nat.sub_self]
 rfl
theorem pre_congr {f g : GFormula} {ns ns' : List Nat} {k : Nat} (h : ∀ i, i < k → sgF f ns i = sgF g ns' i) : preF f ns k = preF g ns' k := by
 induction k with
 | zero => rfl
 | succ k ih => rw [pre_succ, pre_succ, ih fun i hi => h i (by omega), h k (by omega)]
theorem post_congr {f g : GFormula} {ns ns' : List Nat} {k : Nat} (hl : f.Walls.length = g.Walls.length) (h : ∀ i, k < i → sgF f ns i = sgF g ns' i) : postF f ns k = postF g ns' k := by
 unfold postF
 rw [hl, show (fun j => sgF f ns (k + 1 + j)) = fun j => sgF g ns' (k + 1 + j) from funext fun j => h _ (by omega)]
theorem getD_set_ne {α : Type} (xs : List α) {i k : Nat} (z d : α) (h : i ≠ k) : (xs.set k z).getD i d = xs.getD i d := by
 rw [List.getD_eq_getElem?_getD, List.getD_eq_getElem?_getD, List.getElem?_set_ne (fun e => h e.symm)]
theorem getD_set_eq {α : Type} (xs : List α) {k : Nat} (z d : α) (h : k < xs.length) : (xs.set k z).getD k d = z := by
 rw [List.getD_eq_getElem?_getD, List.getElem?_set_self h]
 rfl
theorem getD_out {α : Type} (xs : List α) {k : Nat} (d : α) (h : xs.length ≤ k) : xs.getD k d = d := by
 rw [List.getD_eq_getElem?_getD, List.getElem?_eq_none h]
 rfl
section
variable {f : GFormula} {counts : List Int} {ns : List Nat}
theorem sg_wall (st hd at_ : Int) {k : Nat} (z : List Int) (hk : k < f.Walls.length) : sgF ⟨st, hd, at_, f.Walls.set k z, f.Repeats, f.Offsets⟩ ns k = z ++ rpF (ns.getD k 0) (f.Repeats.getD k []) := by
 unfold sgF
 simp only
 rw [getD_set_eq _ _ _ hk]
theorem sg_wall_ne (st hd at_ : Int) {k i : Nat} (z : List Int) (h : i ≠ k) : sgF ⟨st, hd, at_, f.Walls.set k z, f.Repeats, f.Offsets⟩ ns i = sgF f ns i := by
 unfold sgF
 simp only
 rw [getD_set_ne _ _ _ h]
theorem pre_wall (st hd at_ : Int) {k j : Nat} (z : List Int) (h : j ≤ k) : preF ⟨st, hd, at_, f.Walls.set k z, f.Repeats, f.Offsets⟩ ns j = preF f ns j := pre_congr fun i hi => sg_wall_ne st hd at_ z (by omega)
theorem post_wall (st hd at_ : Int) {k : Nat} (z : List Int) : postF ⟨st, hd, at_, f.Walls.set k z, f.Repeats, f.Offsets⟩ ns k = postF f ns k := post_congr (by simp) fun i hi => sg_wall_ne st hd at_ z (by omega)
theorem cells_wall (st hd at_ : Int) {k : Nat} (z : List Int) (hk : k < f.Walls.length) : cellsF ⟨st, hd, at_, f.Walls.set k z, f.Repeats, f.Offsets⟩ ns = preF f ns k ++ (z ++ (rpF (ns.getD k 0) (f.Repeats.getD k []) ++ postF f ns k)) := by
 rw [cells_split _ ns (k := k) (by simpa using hk), pre_wall st hd at_ z (Nat.le_refl k), sg_wall st hd at_ z hk, post_wall, List.append_assoc]
theorem FmC.wall (C : FmC f counts ns) (hT : (cellsF f ns).length ≤ 140) {st hd at_ : Int} {k : Nat} {z : List Int} (hk : k < f.Walls.length) (hz : z.length ≤ (f.Walls.getD k []).length + 1) (h0 : 0 ≤ hd) (hr : hd ≤ f.Repeats.length) : FmC ⟨st, hd, at_, f.Walls.set k z, f.Repeats, f.Offsets⟩ counts ns := by
 obtain ⟨fr, lc, ln, c0, cn, n1, rl, tot⟩ := C
 have e := cells_split f ns hk
 have hl := congrArg List.length e
 unfold sgF at hl
 simp only [List.length_append] at hl
 refine ⟨⟨fr.r1, fr.r3, by simpa using fr.lw, fr.lo, h0, hr, fun w hw => ?_, fr.sr⟩, lc, ln, c0, cn, n1, rl, ?_⟩
 ·rcases List.mem_or_eq_of_mem_set hw with hw | rfl
  ·exact fr.sw w hw
  ·omega
 ·rw [cells_wall st hd at_ z hk]
  simp only [List.length_append]
  omega
theorem fm_cf {m : GMachine} (hm : machB m = true) (C : FmC f counts ns) (hf : formB m f = true) {A B : List Int} (hc : cellsF f ns = A ++ B) (hh : (A.length : Int) = ((preF f ns f.Head.toNat).length : Int) + f.At) : F_impl_FormulaAt m f counts = some (abC f.State A B, 0) := by
 have := fm_at hm C hf hh (by rw [hc]; simp)
 rw [hc, List.take_left, List.drop_left] at this
 exact this
end
theorem formB_in {m : GMachine} {f : GFormula} (h : formB m f = true) : (0 ≤ f.State ∧ f.State ≤ m.States - 1) ∧ (∀ w ∈ f.Walls, w.length ≤ 100 ∧ ∀ x ∈ w, 0 ≤ x ∧ x ≤ m.Symbols - 1) ∧ (∀ w ∈ f.Repeats, (1 ≤ w.length ∧ w.length ≤ 20) ∧ ∀ x ∈ w, 0 ≤ x ∧ x ≤ m.Symbols - 1) ∧ (∀ x ∈ f.Offsets, -1000 ≤ x ∧ x ≤ 1000) ∧
  ((0 ≤ f.At ∧ f.At < ((f.Walls.getD f.Head.toNat []).length : Int)) ∨ (f.At = ((f.Walls.getD f.Head.toNat []).length : Int) ∧ f.Head < (f.Repeats.length : Int)) ∨ (f.At = -1 ∧ 0 < f.Head)) := by
 unfold formB at h
 simp only [Bool.and_eq_true, List.all_eq_true] at h
 obtain ⟨h1, h2, h3, h4, h5⟩ := h
 refine ⟨inB_iff.1 h1, fun w hw => ?_, fun w hw => ?_, fun x hx => inB_iff.1 (h4 x hx), ?_⟩
 ·have := h2 w hw
  unfold wallB at this
  simp only [Bool.and_eq_true, decide_eq_true_eq, List.all_eq_true] at this
  exact ⟨this.1, fun x hx => inB_iff.1 (this.2 x hx)⟩
 ·have := h3 w hw
  unfold repB at this
  simp only [Bool.and_eq_true, List.all_eq_true] at this
  have h1 := inB_iff.1 this.1
  exact ⟨by omega, fun x hx => inB_iff.1 (this.2 x hx)⟩
 ·unfold atB at h5
  simp only [Bool.or_eq_true, Bool.and_eq_true, decide_eq_true_eq] at h5
  rcases h5 with h5 | h5 | h5
  ·have := inB_iff.1 h5
   exact .inl (by omega)
  ·exact .inr (.inl h5)
  ·exact .inr (.inr h5)
theorem dropLast_snoc {A : List Int} (h : A ≠ []) : ∃ P y, A = P ++ [y] := ⟨A.dropLast, A.getLast h, (List.dropLast_concat_getLast h).symm⟩
theorem pre_ne {f : GFormula} {counts : List Int} {ns : List Nat} (C : FmC f counts ns) {k : Nat} (hk : 0 < k) (hl : k ≤ f.Repeats.length) : preF f ns k ≠ [] := by
 obtain ⟨j, rfl⟩ : ∃ j, k = j + 1 := ⟨k - 1, by omega⟩
 intro e
 have h1 := congrArg List.length e
 rw [pre_succ] at h1
 unfold sgF at h1
 simp only [List.length_append, List.length_nil] at h1
 have hj : j < f.Repeats.length := by omega
 have h2 := (C.n1 j hj).1
 have h3 := (C.rl _ (List.getElem_mem hj)).1
 rw [rp_len, getDl [] hj] at h1
 have := Nat.mul_le_mul h2 h3
 omega
theorem wd_step {m : GMachine} (hm : machB m = true) {f : GFormula} {counts : List Int} {ns : List Nat} (C : FmC f counts ns) (hT : (cellsF f ns).length ≤ 140) (hf : formB m f = true) {a : Nat} (ha : f.At = (a : Int)) (hal : a < (f.Walls.getD f.Head.toNat []).length) {r : GRule} (hr : r.Move = 1 ∨ r.Move = -1) :
  ∃ A B, F_impl_FormulaAt m f counts = some (abC f.State A ((f.Walls.getD f.Head.toNat []).getD a 0 :: B), 0) ∧
  (formB m (wdF ⟨r.Next, f.Head, f.At + r.Move, f.Walls.set f.Head.toNat ((f.Walls.getD f.Head.toNat []).set a r.Write), f.Repeats, f.Offsets⟩) = true →
   F_impl_FormulaAt m (wdF ⟨r.Next, f.Head, f.At + r.Move, f.Walls.set f.Head.toNat ((f.Walls.getD f.Head.toNat []).set a r.Write), f.Repeats, f.Offsets⟩) counts = some (stepC r (abC f.State A ((f.Walls.getD f.Head.toNat []).getD a 0 :: B)), 0)) := by
 have fr := C.fr
 have h0 := fr.h0
 have hrr := fr.hr
 have lw := fr.lw
 have hk : f.Head.toNat < f.Walls.length := by omega
 have hH : ((f.Head.toNat : Nat) : Int) = f.Head := by omega
 generalize hw : f.Walls.getD f.Head.toNat [] = w at *
 have hx : w = w.take a ++ w.getD a 0 :: w.drop (a + 1) := by
  rw [getDl 0 hal, ← List.drop_eq_getElem_cons hal, List.take_append_drop]
 have hset : w.set a r.Write = w.take a ++ r.Write :: w.drop (a + 1) := by
  rw [List.set_eq_take_append_cons_drop, if_pos hal]
 have hUl : (w.take a).length = a := by rw [List.length_take]; omega
 have hlen : (w.take a).length + 1 + (w.drop (a + 1)).length = w.length := by rw [List.length_take, List.length_drop]; omega
 generalize w.take a = U at *
 generalize w.drop (a + 1) = V at *
 generalize w.getD a 0 = x at *
 rw [hset]
 generalize hrest : rpF (ns.getD f.Head.toNat 0) (f.Repeats.getD f.Head.toNat []) ++ postF f ns f.Head.toNat = rest
 have hcf : cellsF f ns = (preF f ns f.Head.toNat ++ U) ++ (x :: (V ++ rest)) := by
  rw [cells_split f ns hk]
  unfold sgF
  rw [hw, hx, ← hrest]
  simp only [List.append_assoc, List.cons_append]
 have hcells : ∀ (st hd at_ : Int) (z : List Int), cellsF ⟨st, hd, at_, f.Walls.set f.Head.toNat z, f.Repeats, f.Offsets⟩ ns = preF f ns f.Head.toNat ++ (z ++ rest) := fun st hd at_ z => by
  rw [cells_wall st hd at_ z hk, hrest]
 have hpre : ∀ (st at_ : Int) (z : List Int), preF ⟨st, f.Head, at_, f.Walls.set f.Head.toNat z, f.Repeats, f.Offsets⟩ ns f.Head.toNat = preF f ns f.Head.toNat := fun st at_ z => pre_wall st f.Head at_ z (Nat.le_refl _)
 have hC : ∀ (st at_ : Int) (z : List Int), z.length ≤ w.length + 1 → FmC ⟨st, f.Head, at_, f.Walls.set f.Head.toNat z, f.Repeats, f.Offsets⟩ counts ns := fun st at_ z hz => C.wall hT hk (by rw [hw]; exact hz) h0 hrr
 have hgd : ∀ z : List Int, (f.Walls.set f.Head.toNat z).getD f.Head.toNat [] = z := fun z => getD_set_eq _ _ _ hk
 refine ⟨preF f ns f.Head.toNat ++ U, V ++ rest, fm_cf hm C hf hcf (by rw [List.length_append, hUl, ha]; omega), ?_⟩
 unfold wdF
 simp only [hgd, List.set_set]
 rcases hr with hr | hr
 ·rw [ab_right hr, hr, if_neg (by omega)]
  by_cases hc : f.At + 1 = ((U ++ r.Write :: V).length : Int) ∧ f.Head = (f.Repeats.length : Int)
  ·rw [if_pos hc]
   intro hg
   have hV : V = [] := by
    have := hc.1
    rw [List.length_append, List.length_cons] at this
    exact List.eq_nil_of_length_eq_zero (by omega)
   have hre : rest = [] := by
    rw [← hrest, getD_out f.Repeats ([] : List Int) (by omega), rp_nil, post_last f ns (by omega)]
    rfl
   have hz : (U ++ r.Write :: V ++ [0]).length ≤ w.length + 1 := by simp; omega
   rw [fm_cf hm (hC _ _ _ hz) hg (A := preF f ns f.Head.toNat ++ U ++ [r.Write]) (B := [0]) (by rw [hcells, hV, hre]; simp) (by simp only [hpre]; simp only [List.length_append, List.length_singleton]; omega), hV, hre]
   simp only
   have := ab_padR r.Next (preF f ns f.Head.toNat ++ U ++ [r.Write]) []
   rw [List.nil_append] at this
   rw [this]
   rfl
  ·rw [if_neg hc]
   intro hg
   have hz : (U ++ r.Write :: V).length ≤ w.length + 1 := by simp; omega
   rw [fm_cf hm (hC _ _ _ hz) hg (A := preF f ns f.Head.toNat ++ U ++ [r.Write]) (B := V ++ rest) (by rw [hcells]; simp) (by simp only [hpre]; simp only [List.length_append, List.length_singleton]; omega)]
 ·rw [hr]
  by_cases ha0 : a = 0
  ·have hU : U = [] := List.eq_nil_of_length_eq_zero (by omega)
   by_cases hH0 : f.Head = 0
   ·have hHn : f.Head.toNat = 0 := by omega
    have hp0 : preF f ns f.Head.toNat = [] := by rw [hHn]; rfl
    rw [if_pos ⟨by omega, hH0⟩]
    intro hg
    have hz : (0 :: (U ++ r.Write :: V)).length ≤ w.length + 1 := by simp; omega
    rw [fm_cf hm (hC _ _ _ hz) hg (A := []) (B := 0 :: r.Write :: (V ++ rest)) (by rw [hcells, hU, hp0]; simp) (by simp only [hpre]; rw [hp0]; rfl), hU, hp0]
    simp only [List.append_nil]
    rw [ab_left0 hr]
   ·rw [if_neg (fun k => hH0 k.2), if_neg (by intro k; have := k.1; omega)]
    intro hg
    obtain ⟨Q, y, hQ⟩ := dropLast_snoc (pre_ne C (k := f.Head.toNat) (by omega) (by omega))
    have hz : (U ++ r.Write :: V).length ≤ w.length + 1 := by simp; omega
    have hQl := congrArg List.length hQ
    rw [List.length_append, List.length_singleton] at hQl
    rw [fm_cf hm (hC _ _ _ hz) hg (A := Q) (B := y :: r.Write :: (V ++ rest)) (by rw [hcells, hU, hQ]; simp) (by simp only [hpre]; omega), hU, List.append_nil, hQ, ab_left hr]
  ·obtain ⟨U', y, hU'⟩ := dropLast_snoc (A := U) (fun e => by rw [e] at hUl; simp at hUl; omega)
   have hU'l := congrArg List.length hU'
   rw [List.length_append, List.length_singleton] at hU'l
   rw [if_neg (by omega), if_neg (by intro k; have := k.1; rw [List.length_append, List.length_cons] at this; omega)]
   intro hg
   have hz : (U ++ r.Write :: V).length ≤ w.length + 1 := by simp; omega
   rw [fm_cf hm (hC _ _ _ hz) hg (A := preF f ns f.Head.toNat ++ U') (B := y :: r.Write :: (V ++ rest)) (by rw [hcells, hU']; simp) (by simp only [hpre]; simp only [List.length_append]; omega), hU', ← List.append_assoc, ab_left hr]
end Go.Fn
namespace Go.Fn
open Go Go.Tc
theorem abL_padL (q : Int) {A : List Int} (h : A ≠ []) (B : List Int) : abL q (0 :: A) B = abL q A B := by
 obtain ⟨P, y, rfl⟩ := dropLast_snoc h
 have : (0 :: (P ++ [y]) : List Int) = (0 :: P) ++ [y] := rfl
 rw [this, abL_snoc, abL_snoc, ab_padL]
theorem abL_padL' (q : Int) {A : List Int} (h : A ≠ []) {B : List Int} : abL q ([0] ++ A) B = abL q A B := abL_padL q h B
theorem set_same {α : Type} (xs : List α) {k : Nat} (d : α) (h : k < xs.length) : xs.set k (xs.getD k d) = xs := by
 refine List.ext_getElem? fun i => ?_
 by_cases e : i = k
 ·subst e
  rw [List.getElem?_set_self h, getDl d h, List.getElem?_eq_getElem h]
 ·rw [List.getElem?_set_ne (fun h => e h.symm)]
section
variable {f : GFormula} {counts : List Int} {ns : List Nat}
theorem sg_rep (st hd at_ : Int) {k : Nat} (w : List Int) (hk : k < f.Repeats.length) : sgF ⟨st, hd, at_, f.Walls, f.Repeats.set k w, f.Offsets⟩ ns k = f.Walls.getD k [] ++ rpF (ns.getD k 0) w := by
 unfold sgF
 simp only
 rw [getD_set_eq _ _ _ hk]
theorem sg_rep_ne (st hd at_ : Int) {k i : Nat} (w : List Int) (h : i ≠ k) : sgF ⟨st, hd, at_, f.Walls, f.Repeats.set k w, f.Offsets⟩ ns i = sgF f ns i := by
 unfold sgF
 simp only
 rw [getD_set_ne _ _ _ h]
theorem len_congr {f g : GFormula} {ns ns' : List Nat} {k : Nat} (h : ∀ i, i < k → (sgF f ns i).length = (sgF g ns' i).length) : (preF f ns k).length = (preF g ns' k).length := by
 induction k with
 | zero => rfl
 | succ k ih => rw [pre_succ, pre_succ, List.length_append, List.length_append, ih fun i hi => h i (by omega), h k (by omega)]
theorem rep_len (st hd at_ : Int) {k : Nat} {w : List Int} (hk : k < f.Repeats.length) (hw : w.length = (f.Repeats.getD k []).length) : (cellsF ⟨st, hd, at_, f.Walls, f.Repeats.set k w, f.Offsets⟩ ns).length = (cellsF f ns).length := by
 unfold cellsF
 refine len_congr fun i _ => ?_
 by_cases e : i = k
 ·subst e
  rw [sg_rep st hd at_ w hk]
  unfold sgF
  rw [List.length_append, List.length_append, rp_len, rp_len, hw]
 ·rw [sg_rep_ne st hd at_ w e]
theorem FmC.rep (C : FmC f counts ns) (hT : (cellsF f ns).length ≤ 140) {st hd at_ : Int} {k : Nat} {w : List Int} (hk : k < f.Repeats.length) (hw : w.length = (f.Repeats.getD k []).length) (h0 : 0 ≤ hd) (hr : hd ≤ f.Repeats.length) : FmC ⟨st, hd, at_, f.Walls, f.Repeats.set k w, f.Offsets⟩ counts ns := by
 obtain ⟨fr, lc, ln, c0, cn, n1, rl, tot⟩ := C
 have hwl := rl _ (List.getElem_mem hk)
 rw [getDl [] hk] at hw
 have mem : ∀ x ∈ f.Repeats.set k w, 1 ≤ x.length ∧ x.length ≤ 20 := fun x hx => by
  rcases List.mem_or_eq_of_mem_set hx with hx | rfl
  ·exact rl x hx
  ·omega
 refine ⟨⟨by simpa using fr.r1, by simpa using fr.r3, by simpa using fr.lw, by simpa using fr.lo, h0, by simpa using hr, fr.sw, fun x hx => by have := mem x hx; omega⟩, by simpa using lc, by simpa using ln, fun i hi => c0 i (by simpa using hi), fun i hi => cn i (by simpa using hi), fun i hi => n1 i (by simpa using hi), mem, ?_⟩
 rw [rep_len st hd at_ hk (by rw [getDl [] hk]; exact hw)]
 omega
theorem shR_step {m : GMachine} (hm : machB m = true) (C : FmC f counts ns) (hT : (cellsF f ns).length ≤ 140) (hf : formB m f = true) (ha : f.At = ((f.Walls.getD f.Head.toNat []).length : Int)) (hH : f.Head < (f.Repeats.length : Int)) {w : List Int} {j : Nat} (hw : w.length = (f.Repeats.getD f.Head.toNat []).length) (hR : ShR m f.State 1 (f.Repeats.getD f.Head.toNat []) w j) :
  ∃ c c', F_impl_FormulaAt m f counts = some (c, 0) ∧ Sts m (ns.getD f.Head.toNat 0 * j) c c' ∧
  (formB m (wdF ⟨f.State, f.Head + 1, 0, f.Walls, f.Repeats.set f.Head.toNat w, f.Offsets⟩) = true → F_impl_FormulaAt m (wdF ⟨f.State, f.Head + 1, 0, f.Walls, f.Repeats.set f.Head.toNat w, f.Offsets⟩) counts = some (c', 0)) := by
 have fr := C.fr
 have h0 := fr.h0
 have lw := fr.lw
 have hHn : ((f.Head.toNat : Nat) : Int) = f.Head := by omega
 have hk : f.Head.toNat < f.Repeats.length := by omega
 have hkw : f.Head.toNat < f.Walls.length := by omega
 have hk1 : (f.Head + 1).toNat = f.Head.toNat + 1 := by omega
 generalize hkk : f.Head.toNat = k at *
 have hcf : cellsF f ns = (preF f ns k ++ f.Walls.getD k []) ++ (rpF (ns.getD k 0) (f.Repeats.getD k []) ++ postF f ns k) := by
  rw [cells_split f ns hkw]
  unfold sgF
  simp only [List.append_assoc]
 have hlen := congrArg List.length hcf
 simp only [List.length_append, rp_len] at hlen
 have hC' : FmC ⟨f.State, f.Head + 1, 0, f.Walls, f.Repeats.set k w, f.Offsets⟩ counts ns := C.rep hT hk hw (by omega) (by omega)
 have hT' : (cellsF ⟨f.State, f.Head + 1, 0, f.Walls, f.Repeats.set k w, f.Offsets⟩ ns).length ≤ 140 := by rw [rep_len _ _ _ hk hw]; exact hT
 have hpre : ∀ at_ : Int, preF ⟨f.State, f.Head + 1, at_, f.Walls, f.Repeats.set k w, f.Offsets⟩ ns (k + 1) = preF f ns k ++ f.Walls.getD k [] ++ rpF (ns.getD k 0) w := fun at_ => by
  rw [pre_succ, sg_rep _ _ _ w hk, pre_congr fun i hi => sg_rep_ne _ _ _ w (by omega), List.append_assoc]
 have hpost : postF f ns k = sgF f ns (k + 1) ++ postF f ns (k + 1) := post_succ f ns (by omega)
 have hpost' : ∀ at_ : Int, postF ⟨f.State, f.Head + 1, at_, f.Walls, f.Repeats.set k w, f.Offsets⟩ ns (k + 1) = postF f ns (k + 1) := fun at_ => post_congr rfl fun i hi => sg_rep_ne _ _ _ w (by omega)
 refine ⟨_, _, fm_cf hm C hf hcf (by rw [List.length_append, hkk, ha]; omega), sh_right hR hw _ _ _ (by rw [List.length_append]; omega), ?_⟩
 unfold wdF
 simp only
 rw [if_neg (by intro h; have := h.1; omega), hk1]
 by_cases hc : (0 : Int) = ((f.Walls.getD (k + 1) []).length : Int) ∧ f.Head + 1 = ((f.Repeats.set k w).length : Int)
 ·rw [if_pos hc]
  intro hg
  have hw0 : f.Walls.getD (k + 1) [] = [] := List.eq_nil_of_length_eq_zero (by omega)
  have hl := hc.2
  rw [List.length_set] at hl
  have hp0 : postF f ns k = [] := by
   rw [hpost, post_last f ns (by omega)]
   unfold sgF
   rw [hw0, getD_out f.Repeats ([] : List Int) (by omega), rp_nil]
   rfl
  have hC2 := hC'.wall hT' (st := f.State) (hd := f.Head + 1) (at_ := 0) (k := k + 1) (z := [0]) (by simp only; omega) (by simp) (by omega) (by simp only [List.length_set]; omega)
  simp only at hC2
  rw [hw0, List.nil_append] at hg ⊢
  have hcw := cells_wall (f := ⟨f.State, f.Head + 1, 0, f.Walls, f.Repeats.set k w, f.Offsets⟩) (ns := ns) f.State (f.Head + 1) 0 (k := k + 1) [0] (by simp only; omega)
  simp only at hcw
  rw [hpre, hpost', post_last f ns (by omega), getD_out (f.Repeats.set k w) ([] : List Int) (by rw [List.length_set]; omega), rp_nil] at hcw
  have hpw := pre_wall (f := ⟨f.State, f.Head + 1, 0, f.Walls, f.Repeats.set k w, f.Offsets⟩) (ns := ns) f.State (f.Head + 1) 0 (k := k + 1) (j := k + 1) [0] (Nat.le_refl _)
  simp only at hpw
  rw [hpre] at hpw
  rw [fm_cf hm hC2 hg (A := preF f ns k ++ f.Walls.getD k [] ++ rpF (ns.getD k 0) w) (B := [0]) (by rw [hcw]; simp) (by simp only [hk1, hpw]; omega), hp0]
  simp only
  have := ab_padR f.State (preF f ns k ++ f.Walls.getD k [] ++ rpF (ns.getD k 0) w) []
  rw [List.nil_append] at this
  rw [this]
 ·rw [if_neg hc]
  intro hg
  refine fm_cf hm hC' hg ?_ (by simp only [hk1, hpre]; omega)
  rw [cells_split _ ns (k := k + 1) (by simp only; omega), hpre, hpost', sg_rep_ne _ _ _ w (by omega), hpost]
theorem shL_step {m : GMachine} (hm : machB m = true) (C : FmC f counts ns) (hT : (cellsF f ns).length ≤ 140) (hf : formB m f = true) (ha : f.At = -1) (hH : 0 < f.Head) {k : Nat} (hkk : f.Head = ((k + 1 : Nat) : Int)) {w : List Int} {j : Nat} (hw : w.length = (f.Repeats.getD k []).length) (hR : ShR m f.State (-1) (f.Repeats.getD k []) w j) :
  ∃ c c', F_impl_FormulaAt m f counts = some (c, 0) ∧ Sts m (ns.getD k 0 * j) c c' ∧
  (formB m (wdF ⟨f.State, (k : Int), ((f.Walls.getD k []).length : Int) - 1, f.Walls, f.Repeats.set k w, f.Offsets⟩) = true → F_impl_FormulaAt m (wdF ⟨f.State, (k : Int), ((f.Walls.getD k []).length : Int) - 1, f.Walls, f.Repeats.set k w, f.Offsets⟩) counts = some (c', 0)) := by
 have fr := C.fr
 have h0 := fr.h0
 have lw := fr.lw
 have hrr := fr.hr
 have hk : k < f.Repeats.length := by omega
 have hkw : k + 1 < f.Walls.length := by omega
 have hHn : f.Head.toNat = k + 1 := by omega
 have hn1 := (C.n1 k hk).1
 have hrl := (C.rl _ (List.getElem_mem hk)).1
 have hpre : preF f ns (k + 1) = preF f ns k ++ f.Walls.getD k [] ++ rpF (ns.getD k 0) (f.Repeats.getD k []) := by
  rw [pre_succ]
  unfold sgF
  rw [List.append_assoc]
 have hT1 := cells_split f ns hkw
 generalize hTT : sgF f ns (k + 1) ++ postF f ns (k + 1) = T at hT1
 have hlen := congrArg List.length hT1
 rw [hpre] at hlen
 simp only [List.length_append, rp_len] at hlen
 have hrpl : 1 ≤ ns.getD k 0 * (f.Repeats.getD k []).length := by
  rw [getDl [] hk]
  exact Nat.mul_le_mul hn1 hrl
 have hne : preF f ns (k + 1) ≠ [] := pre_ne C (by omega) (by omega)
 obtain ⟨Q, y, hQ⟩ := dropLast_snoc hne
 have hQl := congrArg List.length hQ
 rw [List.length_append, List.length_singleton] at hQl
 have hconf : F_impl_FormulaAt m f counts = some (abL f.State (preF f ns (k + 1)) T, 0) := by
  rw [hQ, abL_snoc]
  exact fm_cf hm C hf (by rw [hT1, hQ]; simp) (by rw [hHn, ha]; omega)
 have hC' : ∀ at_ : Int, FmC ⟨f.State, (k : Int), at_, f.Walls, f.Repeats.set k w, f.Offsets⟩ counts ns := fun at_ => C.rep hT hk hw (by omega) (by omega)
 have hT' : ∀ at_ : Int, (cellsF ⟨f.State, (k : Int), at_, f.Walls, f.Repeats.set k w, f.Offsets⟩ ns).length ≤ 140 := fun at_ => by rw [rep_len _ _ _ hk hw]; exact hT
 have hpk : ∀ at_ : Int, preF ⟨f.State, (k : Int), at_, f.Walls, f.Repeats.set k w, f.Offsets⟩ ns k = preF f ns k := fun at_ => pre_congr fun i hi => sg_rep_ne _ _ _ w (by omega)
 have hpo : ∀ at_ : Int, postF ⟨f.State, (k : Int), at_, f.Walls, f.Repeats.set k w, f.Offsets⟩ ns k = T := fun at_ => by
  have e : postF ⟨f.State, (k : Int), at_, f.Walls, f.Repeats.set k w, f.Offsets⟩ ns k = postF f ns k := post_congr rfl fun i hi => sg_rep_ne _ _ _ w (by omega)
  rw [e, post_succ f ns hkw, hTT]
 have hcl : ∀ at_ : Int, cellsF ⟨f.State, (k : Int), at_, f.Walls, f.Repeats.set k w, f.Offsets⟩ ns = preF f ns k ++ f.Walls.getD k [] ++ (rpF (ns.getD k 0) w ++ T) := fun at_ => by
  rw [cells_split _ ns (k := k) (by simp only; omega), hpk, hpo, sg_rep _ _ _ w hk]
  simp only [List.append_assoc]
 by_cases hA : preF f ns k ++ f.Walls.getD k [] = []
 ·have hp0 : preF f ns k = [] := (List.append_eq_nil_iff.1 hA).1
  have hw0 : f.Walls.getD k [] = [] := (List.append_eq_nil_iff.1 hA).2
  have hk0 : k = 0 := by
   by_cases e : k = 0
   ·exact e
   ·exact absurd hp0 (pre_ne C (by omega) (by omega))
  subst hk0
  have hX : rpF (ns.getD 0 0) (f.Repeats.getD 0 []) ≠ [] := fun e => by
   have := congrArg List.length e
   rw [rp_len] at this
   simp only [List.length_nil] at this
   omega
  refine ⟨_, abC f.State [] (0 :: (rpF (ns.getD 0 0) w ++ T)), hconf, ?_, ?_⟩
  ·have h1 := sh_left hR hw 0 (ns.getD 0 0) [] T (by simp only [List.length_nil]; omega)
   rw [List.nil_append, abL_padL' f.State hX] at h1
   rw [hpre, hA, List.nil_append]
   have e2 : abL f.State ([] ++ [0]) (rpF (ns.getD 0 0) w ++ T) = abC f.State [] (0 :: (rpF (ns.getD 0 0) w ++ T)) := abL_snoc _ _ _ _
   rw [List.nil_append] at e2
   rw [← e2]
   exact h1
  ·unfold wdF
   simp only
   rw [show ((0 : Nat) : Int).toNat = 0 from rfl, hw0, if_pos ⟨by simp, by simp⟩]
   intro hg
   have hC2 := (hC' (((f.Walls.getD 0 []).length : Int) - 1)).wall (hT' _) (st := f.State) (hd := ((0 : Nat) : Int)) (at_ := 0) (k := 0) (z := [0]) (by simp only; omega) (by simp) (by omega) (by simp only [List.length_set]; omega)
   simp only at hC2
   have hcw := cells_wall (f := ⟨f.State, ((0 : Nat) : Int), ((f.Walls.getD 0 []).length : Int) - 1, f.Walls, f.Repeats.set 0 w, f.Offsets⟩) (ns := ns) f.State ((0 : Nat) : Int) 0 (k := 0) [0] (by simp only; omega)
   simp only at hcw
   rw [hpk, hpo, hp0, getD_set_eq f.Repeats _ _ hk] at hcw
   exact fm_cf hm hC2 hg (A := []) (B := 0 :: (rpF (ns.getD 0 0) w ++ T)) (by rw [hcw]; simp) rfl
 ·obtain ⟨Q2, y2, hQ2⟩ := dropLast_snoc hA
  have hQ2l := congrArg List.length hQ2
  rw [List.length_append, List.length_append, List.length_singleton] at hQ2l
  refine ⟨_, abC f.State Q2 (y2 :: (rpF (ns.getD k 0) w ++ T)), hconf, ?_, ?_⟩
  ·have h1 := sh_left hR hw y2 (ns.getD k 0) Q2 T (by omega)
   rw [hpre, hQ2]
   rw [abL_snoc] at h1
   exact h1
  ·unfold wdF
   simp only
   rw [show ((k : Nat) : Int).toNat = k from rfl, if_neg (by
    rintro ⟨h1, h2⟩
    have hk0 : k = 0 := by omega
    subst hk0
    have : preF f ns 0 = [] := rfl
    rw [this] at hQ2l
    simp only [List.length_nil] at hQ2l
    omega), if_neg (by intro h; have := h.1; omega)]
   intro hg
   exact fm_cf hm (hC' _) hg (A := Q2) (B := y2 :: (rpF (ns.getD k 0) w ++ T)) (by rw [hcl, hQ2]; simp) (by simp only [hpk, show ((k : Nat) : Int).toNat = k from rfl]; omega)
end
end Go.Fn
namespace Go.Fn
open Go Go.Tc
section
variable {f : GFormula} {counts : List Int} {ns : List Nat}
theorem FmC.un (C : FmC f counts ns) {st hd at_ : Int} {k : Nat} (hk : k < f.Repeats.length) (h2 : 2 ≤ ns.getD k 0) {W : List (List Int)} (hW : W.length = f.Walls.length) (hs : ∀ w ∈ W, w.length ≤ 1000) (h0 : 0 ≤ hd) (hr : hd ≤ f.Repeats.length)
  (hc : cellsF ⟨st, hd, at_, W, f.Repeats, f.Offsets.set k (f.Offsets.getD k 0 - 1)⟩ (ns.set k (ns.getD k 0 - 1)) = cellsF f ns) : FmC ⟨st, hd, at_, W, f.Repeats, f.Offsets.set k (f.Offsets.getD k 0 - 1)⟩ counts (ns.set k (ns.getD k 0 - 1)) := by
 obtain ⟨fr, lc, ln, c0, cn, n1, rl, tot⟩ := C
 have lo := fr.lo
 refine ⟨⟨fr.r1, fr.r3, by simp only [hW]; exact fr.lw, by simpa using fr.lo, h0, hr, hs, fr.sr⟩, lc, by simpa using ln, c0, fun i hi => ?_, fun i hi => ?_, rl, by rw [hc]; exact tot⟩
 ·have e := cn i hi
  simp only
  by_cases h : i = k
  ·subst h
   rw [getD_set_eq _ _ _ (by omega), getD_set_eq _ _ _ (by omega)]
   omega
  ·rw [getD_set_ne _ _ _ h, getD_set_ne _ _ _ h]
   exact e
 ·have e := n1 i hi
  by_cases h : i = k
  ·subst h
   rw [getD_set_eq _ _ _ (by omega)]
   omega
  ·rw [getD_set_ne _ _ _ h]
   exact e
theorem unR_cells (C : FmC f counts ns) (st hd at_ : Int) (O : List Int) {k : Nat} (hk : k < f.Repeats.length) (h2 : 1 ≤ ns.getD k 0) :
  cellsF ⟨st, hd, at_, f.Walls.set k (f.Walls.getD k [] ++ f.Repeats.getD k []), f.Repeats, O⟩ (ns.set k (ns.getD k 0 - 1)) = cellsF f ns ∧
  preF ⟨st, hd, at_, f.Walls.set k (f.Walls.getD k [] ++ f.Repeats.getD k []), f.Repeats, O⟩ (ns.set k (ns.getD k 0 - 1)) k = preF f ns k := by
 have lw := C.fr.lw
 have ln := C.ln
 have hne : ∀ i, i ≠ k → sgF ⟨st, hd, at_, f.Walls.set k (f.Walls.getD k [] ++ f.Repeats.getD k []), f.Repeats, O⟩ (ns.set k (ns.getD k 0 - 1)) i = sgF f ns i := fun i hi => by
  unfold sgF
  simp only
  rw [getD_set_ne _ _ _ hi, getD_set_ne _ _ _ hi]
 have hall : ∀ i, sgF ⟨st, hd, at_, f.Walls.set k (f.Walls.getD k [] ++ f.Repeats.getD k []), f.Repeats, O⟩ (ns.set k (ns.getD k 0 - 1)) i = sgF f ns i := fun i => by
  by_cases e : i = k
  ·subst e
   unfold sgF
   simp only
   rw [getD_set_eq _ _ _ (by omega), getD_set_eq _ _ _ (by omega), List.append_assoc, ← rp_succ, show ns.getD i 0 - 1 + 1 = ns.getD i 0 by omega]
  ·exact hne i e
 refine ⟨?_, pre_congr fun i _ => hall i⟩
 unfold cellsF
 simp only [List.length_set]
 exact pre_congr fun i _ => hall i
theorem unR_step {m : GMachine} (hm : machB m = true) (C : FmC f counts ns) (hf : formB m f = true) (ha : f.At = ((f.Walls.getD f.Head.toNat []).length : Int)) (hH : f.Head < (f.Repeats.length : Int)) (h2 : 2 ≤ ns.getD f.Head.toNat 0) :
  ∃ c, F_impl_FormulaAt m f counts = some (c, 0) ∧
  (formB m ⟨f.State, f.Head, f.At, f.Walls.set f.Head.toNat (f.Walls.getD f.Head.toNat [] ++ f.Repeats.getD f.Head.toNat []), f.Repeats, f.Offsets.set f.Head.toNat (f.Offsets.getD f.Head.toNat 0 - 1)⟩ = true →
   F_impl_FormulaAt m ⟨f.State, f.Head, f.At, f.Walls.set f.Head.toNat (f.Walls.getD f.Head.toNat [] ++ f.Repeats.getD f.Head.toNat []), f.Repeats, f.Offsets.set f.Head.toNat (f.Offsets.getD f.Head.toNat 0 - 1)⟩ counts = some (c, 0)) := by
 have fr := C.fr
 have h0 := fr.h0
 have lw := fr.lw
 have hk : f.Head.toNat < f.Repeats.length := by omega
 have hkw : f.Head.toNat < f.Walls.length := by omega
 generalize hkk : f.Head.toNat = k at *
 have hcf : cellsF f ns = (preF f ns k ++ f.Walls.getD k []) ++ (rpF (ns.getD k 0) (f.Repeats.getD k []) ++ postF f ns k) := by
  rw [cells_split f ns hkw]
  unfold sgF
  simp only [List.append_assoc]
 obtain ⟨e1, e2⟩ := unR_cells C f.State f.Head f.At (f.Offsets.set k (f.Offsets.getD k 0 - 1)) hk (by omega)
 have hsw : ∀ w ∈ f.Walls.set k (f.Walls.getD k [] ++ f.Repeats.getD k []), w.length ≤ 1000 := fun w hw => by
  rcases List.mem_or_eq_of_mem_set hw with hw | rfl
  ·exact fr.sw w hw
  ·have h1 := C.tot
   rw [hcf] at h1
   simp only [List.length_append] at h1 ⊢
   have h3 := (C.rl _ (List.getElem_mem hk)).2
   rw [getDl [] hk]
   omega
 have C' := C.un (st := f.State) (hd := f.Head) (at_ := f.At) hk h2 (by simp) hsw h0 (by omega) e1
 refine ⟨_, fm_cf hm C hf hcf (by rw [List.length_append, hkk, ha]; omega), fun hg => ?_⟩
 exact fm_cf hm C' hg (by rw [e1, hcf]) (by simp only [hkk]; rw [e2, List.length_append, ha]; omega)
theorem unL_step {m : GMachine} (hm : machB m = true) (C : FmC f counts ns) (hf : formB m f = true) (ha : f.At = -1) {k : Nat} (hkk : f.Head = ((k + 1 : Nat) : Int)) (h2 : 2 ≤ ns.getD k 0) :
  ∃ c, F_impl_FormulaAt m f counts = some (c, 0) ∧
  (formB m ⟨f.State, f.Head, ((f.Repeats.getD k []).length : Int) - 1, f.Walls.set (k + 1) (f.Repeats.getD k [] ++ f.Walls.getD (k + 1) []), f.Repeats, f.Offsets.set k (f.Offsets.getD k 0 - 1)⟩ = true →
   F_impl_FormulaAt m ⟨f.State, f.Head, ((f.Repeats.getD k []).length : Int) - 1, f.Walls.set (k + 1) (f.Repeats.getD k [] ++ f.Walls.getD (k + 1) []), f.Repeats, f.Offsets.set k (f.Offsets.getD k 0 - 1)⟩ counts = some (c, 0)) := by
 have fr := C.fr
 have h0 := fr.h0
 have lw := fr.lw
 have ln := C.ln
 have hrr := fr.hr
 have hk : k < f.Repeats.length := by omega
 have hkw : k + 1 < f.Walls.length := by omega
 have hHn : f.Head.toNat = k + 1 := by omega
 have hrl := (C.rl _ (List.getElem_mem hk)).1
 rw [← getDl [] hk] at hrl
 generalize hg : (⟨f.State, f.Head, ((f.Repeats.getD k []).length : Int) - 1, f.Walls.set (k + 1) (f.Repeats.getD k [] ++ f.Walls.getD (k + 1) []), f.Repeats, f.Offsets.set k (f.Offsets.getD k 0 - 1)⟩ : GFormula) = g
 have gW : g.Walls = f.Walls.set (k + 1) (f.Repeats.getD k [] ++ f.Walls.getD (k + 1) []) := by rw [← hg]
 have gR : g.Repeats = f.Repeats := by rw [← hg]
 have gH : g.Head = f.Head := by rw [← hg]
 have gA : g.At = ((f.Repeats.getD k []).length : Int) - 1 := by rw [← hg]
 have gS : g.State = f.State := by rw [← hg]
 have hne : ∀ i, i ≠ k → i ≠ k + 1 → sgF g (ns.set k (ns.getD k 0 - 1)) i = sgF f ns i := fun i hi hj => by
  unfold sgF
  rw [gW, gR, getD_set_ne _ _ _ hi, getD_set_ne _ _ _ hj]
 have hsk : sgF g (ns.set k (ns.getD k 0 - 1)) k = f.Walls.getD k [] ++ rpF (ns.getD k 0 - 1) (f.Repeats.getD k []) := by
  unfold sgF
  rw [gW, gR, getD_set_ne _ _ _ (by omega : k ≠ k + 1), getD_set_eq _ _ _ (by omega)]
 have hsk1 : sgF g (ns.set k (ns.getD k 0 - 1)) (k + 1) = f.Repeats.getD k [] ++ sgF f ns (k + 1) := by
  unfold sgF
  rw [gW, gR, getD_set_eq _ _ _ hkw, getD_set_ne _ _ _ (by omega : k + 1 ≠ k), List.append_assoc]
 have hpk : preF g (ns.set k (ns.getD k 0 - 1)) k = preF f ns k := pre_congr fun i hi => hne i (by omega) (by omega)
 have hpk1 : preF g (ns.set k (ns.getD k 0 - 1)) (k + 1) = preF f ns k ++ (f.Walls.getD k [] ++ rpF (ns.getD k 0 - 1) (f.Repeats.getD k [])) := by rw [pre_succ, hpk, hsk]
 have hpo : postF g (ns.set k (ns.getD k 0 - 1)) (k + 1) = postF f ns (k + 1) := post_congr (by rw [gW, List.length_set]) fun i hi => hne i (by omega) (by omega)
 have hpf : preF f ns (k + 1) = preF g (ns.set k (ns.getD k 0 - 1)) (k + 1) ++ f.Repeats.getD k [] := by
  rw [pre_succ, hpk1]
  unfold sgF
  rw [show ns.getD k 0 = ns.getD k 0 - 1 + 1 by omega, rp_succ', Nat.add_sub_cancel]
  simp only [List.append_assoc]
 have hcf : cellsF f ns = preF f ns (k + 1) ++ (sgF f ns (k + 1) ++ postF f ns (k + 1)) := cells_split f ns hkw
 have hcg : cellsF g (ns.set k (ns.getD k 0 - 1)) = cellsF f ns := by
  rw [cells_split g _ (k := k + 1) (by rw [gW, List.length_set]; exact hkw), hcf, hpo, hsk1, hpf]
  simp only [List.append_assoc]
 have hsw : ∀ w ∈ f.Walls.set (k + 1) (f.Repeats.getD k [] ++ f.Walls.getD (k + 1) []), w.length ≤ 1000 := fun w hw => by
  rcases List.mem_or_eq_of_mem_set hw with hw | rfl
  ·exact fr.sw w hw
  ·have h1 := C.tot
   rw [hcf] at h1
   unfold sgF at h1
   simp only [List.length_append] at h1 ⊢
   have h3 := (C.rl _ (List.getElem_mem hk)).2
   rw [getDl [] hk]
   omega
 have C' : FmC g counts (ns.set k (ns.getD k 0 - 1)) := by
  rw [← hg] at hcg ⊢
  exact C.un hk h2 (by simp) hsw h0 (by omega) hcg
 obtain ⟨P, y, hP⟩ := dropLast_snoc (A := f.Repeats.getD k []) (fun e => by rw [e] at hrl; simp at hrl)
 have hPl := congrArg List.length hP
 rw [List.length_append, List.length_singleton] at hPl
 have hcA : cellsF f ns = (preF g (ns.set k (ns.getD k 0 - 1)) (k + 1) ++ P) ++ (y :: (sgF f ns (k + 1) ++ postF f ns (k + 1))) := by
  rw [hcf, hpf, hP]
  simp only [List.append_assoc, List.singleton_append]
 refine ⟨_, fm_cf hm C hf hcA (by rw [hHn, ha, hpf, List.length_append, List.length_append]; omega), fun hfg => ?_⟩
 rw [← gS]
 exact fm_cf hm C' hfg (by rw [hcg, hcA]) (by rw [gH, gA, hHn, List.length_append]; omega)
end
end Go.Fn
namespace Go.Fn
open Go Go.Tc
theorem impl_StepM {m : GMachine} {s q : Nat} (hm : machB m = true) (M : MaI m s q) {c : GConfig} (hc : confB m c = true) : F_impl_StepMachine m c = some (if ruleAt m c = noR then (⟨0, [], []⟩, 6) else if small (stepC (ruleAt m c) c) = true then (stepC (ruleAt m c) c, 0) else (⟨0, [], []⟩, 5)) := by
 have hT := CfT.of M hc
 unfold F_impl_StepMachine
 rw [impl_confV m c (machB_sml hm) (confB_sml hc), bnd_some_eq, hm, hc, impl_runnerOf hc]
 simp only [bnd_some_eq, Bool.and_self, Bool.not_true, cond_false]
 have hh : F_impl_runner_halts ⟨m.Symbols, m.States, m.Rules, c.State, c.Left.reverse, c.Right.reverse⟩ = some (decide (ruleAt m c = noR)) := impl_haltsR M hT.cf (by omega)
 have hs : F_impl_runner_step ⟨m.Symbols, m.States, m.Rules, c.State, c.Left.reverse, c.Right.reverse⟩ = _ := impl_stepR M hT.cf (by omega) hT.lt hT.rt
 rw [hh, bnd_some_eq, hs]
 by_cases hn : ruleAt m c = noR
 ·rw [decide_eq_true hn, if_pos hn]
  rfl
 ·rw [decide_eq_false hn, if_neg hn, cond_false, bnd_some_eq]
  by_cases hk : small (stepC (ruleAt m c) c) = true
  ·have hT2 := hT.step M hn hk
   have hcf : F_impl_runner_config ⟨m.Symbols, m.States, m.Rules, (stepC (ruleAt m c) c).State, (stepC (ruleAt m c) c).Left.reverse, (stepC (ruleAt m c) c).Right.reverse⟩ = some (stepC (ruleAt m c) c) := impl_configR m _ (by have := hT2.cf.ll; omega) (by have := hT2.cf.rl; omega)
   rw [if_pos hk]
   simp only [hk, Bool.not_true, cond_false]
   rw [hcf, bnd_some_eq]
  ·have hk' : small (stepC (ruleAt m c) c) = false := by simpa using hk
   rw [if_neg hk]
   simp only [hk', Bool.not_false, cond_true]
end Go.Fn
namespace Go.Fn
open Go Go.Tc
theorem ab_conf {m : GMachine} (hm : machB m = true) {q : Int} (hq : 0 ≤ q ∧ q ≤ m.States - 1) {A B : List Int} (hA : ∀ x ∈ A, 0 ≤ x ∧ x < m.Symbols) (hB : ∀ x ∈ B, 0 ≤ x ∧ x < m.Symbols) (lA : A.length ≤ 200) (lB : B.length ≤ 200) : confB m (abC q A B) = true := by
  unfold confB abC
  simp only
  rw [sideB_trim _ A.reverse rfl (by simpa using lA) (fun x hx => hA x (List.mem_reverse.1 hx)), sideB_trim _ B rfl lB hB, inB_iff.2 hq]
  rfl
theorem fm_valid {m : GMachine} (hm : machB m = true) {f : GFormula} (fr : Frm f) (hf : formB m f = true) : F_impl_ValidFormula m f = some true := by
  obtain ⟨s, p, M⟩ := machB_mai hm
  have hS : 2 ≤ m.Symbols ∧ m.Symbols ≤ 6 := by rw [M.hs]; have := M.b1; have := M.b2; omega
  have hQ : 1 ≤ m.States ∧ m.States ≤ 1000 := by rw [M.hq]; have := M.b3; have := M.b4; omega
  unfold F_impl_ValidFormula
  rw [impl_mach m (machB_sml hm), bnd_some_eq, hm, cond_true, im_form hS hQ fr, hf]
  rfl
theorem cells_in {m : GMachine} {f : GFormula} {ns : List Nat} (hf : formB m f = true) : ∀ x ∈ cellsF f ns, 0 ≤ x ∧ x < m.Symbols := by
  obtain ⟨_, h2, h3, _, _⟩ := formB_in hf
  intro x hx
  unfold cellsF preF at hx
  obtain ⟨i, _, hi⟩ := List.mem_flatMap.1 hx
  unfold sgF at hi
  rcases List.mem_append.1 hi with hi | hi
  · by_cases h : i < f.Walls.length
    · rw [getDl [] h] at hi
      have := (h2 _ (List.getElem_mem h)).2 x hi
      omega
    · rw [getD_out _ _ (by omega)] at hi
      cases hi
  · unfold rpF at hi
    obtain ⟨w, hw, hxw⟩ := List.mem_flatten.1 hi
    obtain rfl := List.eq_of_mem_replicate hw
    by_cases h : i < f.Repeats.length
    · rw [getDl [] h] at hxw
      have := (h3 _ (List.getElem_mem h)).2 x hxw
      omega
    · rw [getD_out _ _ (by omega)] at hxw
      cases hxw
theorem fm_conf {m : GMachine} (hm : machB m = true) {f : GFormula} {counts : List Int} {ns : List Nat} (C : FmC f counts ns) (hf : formB m f = true) {c : GConfig} (h : F_impl_FormulaAt m f counts = some (c, 0)) : confB m c = true := by
  have hin := cells_in (ns := ns) hf
  obtain ⟨h1, _, _, _, h5⟩ := formB_in hf
  have fr := C.fr
  have h0 := fr.h0
  have hr := fr.hr
  have lw := fr.lw
  have hk : f.Head.toNat < f.Walls.length := by omega
  have hsp := congrArg List.length (cells_split f ns hk)
  unfold sgF at hsp
  simp only [List.length_append] at hsp
  have hlo : 0 ≤ ((preF f ns f.Head.toNat).length : Int) + f.At := by
    rcases h5 with h5 | h5 | h5
    · omega
    · omega
    · have hne := pre_ne C (k := f.Head.toNat) (by omega) (by omega)
      have : 0 < (preF f ns f.Head.toNat).length := List.length_pos_iff.2 hne
      omega
  have e := fm_at hm C hf (h := (((preF f ns f.Head.toNat).length : Int) + f.At).toNat) (by omega) (by omega)
  rw [h] at e
  have e2 := congrArg Prod.fst (Option.some.inj e)
  simp only at e2
  rw [e2]
  have tot := C.tot
  exact ab_conf hm h1 (fun x hx => hin x (List.mem_of_mem_take hx)) (fun x hx => hin x (List.mem_of_mem_drop hx)) (by rw [List.length_take]; omega) (by rw [List.length_drop]; omega)
def StpOk (m : GMachine) (f : GFormula) (counts : List Int) (ns : List Nat) (c : GConfig) (r : GFormula × Int × Int) : Prop :=
  (r.2.2 = 5) ∨ (r.2.2 = 6 ∧ ruleAt m c = noR) ∨ (r.2.2 = 0 ∧ ∃ x, F_impl_FormulaAt m r.1 counts = some (x, 0) ∧
    ((r.2.1 = 0 ∧ ruleAt m c ≠ noR ∧ x = stepC (ruleAt m c) c) ∨ (r.2.1 = 2 ∧ x = c) ∨
     (r.2.1 = 1 ∧ ∃ (k : Nat) (side : Int) (w : List Int) (j : Nat), k < f.Repeats.length ∧ ((side = 1 ∧ 0 ≤ f.At ∧ f.Head = (k : Int)) ∨ (side = -1 ∧ f.At < 0 ∧ f.Head = ((k + 1 : Nat) : Int))) ∧
       F_impl_shiftOver m f.State (f.Repeats.getD k []) side = some (w, (j : Int), 0) ∧ 1 ≤ j ∧ j ≤ 200 ∧ Sts m (ns.getD k 0 * j) c x)))
theorem out_ok {m : GMachine} {f : GFormula} {counts : List Int} {ns : List Nat} {c : GConfig} {k : Int} {g : GFormula}
    (h : formB m g = true → StpOk m f counts ns c (g, k, 0)) : ∃ r, outF m k g = some r ∧ StpOk m f counts ns c r := by
  unfold outF
  by_cases hg : formB m g = true
  · rw [if_pos hg]
    exact ⟨_, rfl, h hg⟩
  · rw [if_neg hg]
    exact ⟨_, rfl, .inl rfl⟩
theorem stp_all {m : GMachine} (hm : machB m = true) {f : GFormula} {counts : List Int} {ns : List Nat} (C : FmC f counts ns) (hT : (cellsF f ns).length ≤ 140) (hf : formB m f = true) (h2 : ∀ i, i < f.Repeats.length → 2 ≤ ns.getD i 0) :
    ∃ c r, F_impl_FormulaAt m f counts = some (c, 0) ∧ F_impl_StepFormula m f = some r ∧ StpOk m f counts ns c r := by
  obtain ⟨s, p, M⟩ := machB_mai hm
  have hS : 2 ≤ m.Symbols ∧ m.Symbols ≤ 6 := by rw [M.hs]; have := M.b1; have := M.b2; omega
  have hQ : 1 ≤ m.States ∧ m.States ≤ 1000 := by rw [M.hq]; have := M.b3; have := M.b4; omega
  have hv := fm_valid hm C.fr hf
  obtain ⟨hst, hwl, hrp, hof, hat⟩ := formB_in hf
  obtain ⟨st, hd, at_, WW, RR, OO⟩ := f
  obtain ⟨k, rfl⟩ : ∃ k : Nat, hd = (k : Int) := ⟨hd.toNat, by have := C.fr.h0; simp only at this; omega⟩
  have fr := C.fr
  have r1 := fr.r1
  have r3 := fr.r3
  have lw := fr.lw
  have lo := fr.lo
  have hr := fr.hr
  simp only [Int.toNat_natCast] at hst hwl hrp hof hat r1 r3 lw lo hr h2
  have hkw : k < WW.length := by omega
  have hwk := (hwl _ (List.getElem_mem hkw)).1
  have hwk' : (WW.getD k []).length ≤ 100 := by rw [getDl [] hkw]; exact hwk
  have hiw : idx WW (k : Int) = some (WW.getD k []) := by rw [idx_nat hkw, getDl [] hkw]
  rw [stp_eq]
  unfold stpE F_impl_copyFormula
  rw [hv, bnd_some_eq, im_copyLists _ (by simp only; omega) (fun w hw => by have := (hwl w hw).1; omega), im_copyLists _ (by simp only; omega) (fun w hw => by have := (hrp w hw).1; omega), impl_clone' _ (by simp only; omega)]
  simp only [bnd_some_eq, Bool.not_true, cond_false]
  unfold F_impl_Formula_onRepeater
  simp only [F_impl_size_int64, bnd_some_eq]
  rcases hat with ⟨ha0, ha1⟩ | ⟨ha, hH⟩ | ⟨ha, hH⟩
  · rw [decide_eq_false (by omega : ¬ at_ = -1), cond_false, hiw, bnd_some_eq, decide_eq_false (by omega : ¬ at_ = ((WW.getD k []).length : Int)), cond_false]
    simp only [bnd_some_eq]
    rw [show decide True = true from rfl, cond_true]
    obtain ⟨a, rfl⟩ : ∃ a : Nat, at_ = (a : Int) := ⟨at_.toNat, by omega⟩
    have hal : a < (WW.getD k []).length := by omega
    have hia : idx (WW.getD k []) (a : Int) = some ((WW.getD k []).getD a 0) := by rw [idx_nat hal, getDl 0 hal]
    simp only [hiw, hia, bnd_some_eq, impl_isRule]
    have hxin : 0 ≤ (WW.getD k []).getD a 0 ∧ (WW.getD k []).getD a 0 < m.Symbols := by
      have := (hwl _ (List.getElem_mem hkw)).2 _ (List.getElem_mem (by rw [← getDl [] hkw]; exact hal : a < (WW[k]).length))
      rw [getDl 0 hal]
      have e : (WW.getD k [])[a] = WW[k][a]'(by rw [← getDl [] hkw]; exact hal) := by
        simp only [getDl [] hkw]
      rw [e]
      omega
    obtain ⟨q, rfl⟩ : ∃ q : Nat, st = (q : Int) := ⟨st.toNat, by omega⟩
    have hqp : q < p := by have := M.hq; omega
    have hix : ∃ y, idx m.Rules (w64 ((w64 ((q : Int) * m.Symbols)) + (WW.getD k []).getD a 0)) = some y ∧ y ∈ m.Rules ∧ ∀ A B, ruleAt m (abC (q : Int) A ((WW.getD k []).getD a 0 :: B)) = y := by
      have hsz := M.hs
      have hb5 := M.b5
      have hlen := M.hl
      obtain ⟨x, hx⟩ : ∃ x : Nat, (WW.getD k []).getD a 0 = (x : Int) := ⟨((WW.getD k []).getD a 0).toNat, by omega⟩
      rw [hx] at hxin ⊢
      have hat := at_lt hqp (show x < s by omega)
      have hqs : q * s ≤ 6000 := by omega
      have e1 : w64 ((w64 ((q : Int) * m.Symbols)) + (x : Int)) = ((q * s + x : Nat) : Int) := by
        rw [hsz, w64_mul (by omega), w64_in (by omega) (by have := M.b2; omega)]
        omega
      have hltR : q * s + x < m.Rules.length := by rw [hlen]; exact hat
      refine ⟨m.Rules[q * s + x], by rw [e1, idx_nat hltR], List.getElem_mem hltR, fun A B => ?_⟩
      rw [ab_rule, e1, Int.toNat_natCast, getDl noR hltR]
    obtain ⟨y, hy1, hy2, hy3⟩ := hix
    rw [hy1, bnd_some_eq]
    simp only [Bool.not_not]
    by_cases hn : y = noR
    · rw [decide_eq_true hn, cond_true]
      obtain ⟨A, B, hA, _⟩ := wd_step hm C hT hf (a := a) rfl (by simpa using hal) (r := ⟨0, 1, 0⟩) (.inl rfl)
      simp only [Int.toNat_natCast] at hA
      exact ⟨_, _, hA, rfl, .inr (.inl ⟨rfl, by rw [hy3, hn]⟩)⟩
    · rw [decide_eq_false hn, cond_false]
      obtain ⟨w1, w2, w3⟩ := rule_in M hy2 hn
      obtain ⟨A, B, hA, hB⟩ := wd_step hm C hT hf (a := a) rfl (by simpa using hal) (r := y) w2
      simp only [Int.toNat_natCast] at hA hB
      have hrl : (((WW.getD k []).set a y.Write)).length ≤ 900 := by rw [List.length_set]; omega
      have hwe : w64 ((a : Int) + y.Move) = (a : Int) + y.Move := by rcases w2 with w2 | w2 <;> rw [w64_in (by omega) (by omega)]
      have hF : Frm ⟨y.Next, (k : Int), (a : Int) + y.Move, WW, RR, OO⟩ := ⟨fr.r1, fr.r3, fr.lw, fr.lo, fr.h0, fr.hr, fr.sw, fr.sr⟩
      rw [Int.toNat_natCast, hwe, tl1_eq hS hQ hF hrl]
      simp only [Int.toNat_natCast]
      obtain ⟨r, hr1, hr2⟩ := out_ok (m := m) (f := ⟨(q : Int), (k : Int), (a : Int), WW, RR, OO⟩) (counts := counts) (ns := ns) (c := abC (q : Int) A ((WW.getD k []).getD a 0 :: B)) (k := 0) (g := wdF ⟨y.Next, (k : Int), (a : Int) + y.Move, WW.set k ((WW.getD k []).set a y.Write), RR, OO⟩)
        (fun hg => .inr (.inr ⟨rfl, _, hB hg, .inl ⟨rfl, by rw [hy3]; exact hn, by rw [hy3]⟩⟩))
      exact ⟨_, r, hA, hr1, hr2⟩
  · have hkR : k < RR.length := by omega
    rw [decide_eq_false (by omega : ¬ at_ = -1), cond_false, hiw, bnd_some_eq, decide_eq_true ha, cond_true]
    simp only [bnd_some_eq]
    rw [show decide ((1 : Int) = 0) = false from rfl, cond_false]
    have hir : idx RR (k : Int) = some (RR.getD k []) := by rw [idx_nat hkR, getDl [] hkR]
    have hrw := hrp _ (List.getElem_mem hkR)
    rw [← getDl [] hkR] at hrw
    obtain ⟨q, rfl⟩ : ∃ q : Nat, st = (q : Int) := ⟨st.toNat, by omega⟩
    have hqp : q < p := by have := M.hq; omega
    obtain ⟨r0, hs1, hs2⟩ := sh_over M hqp (side := 1) (.inl rfl) (w0 := RR.getD k []) (by omega) (fun x hx => by have := hrw.2 x hx; omega)
    have hkw1 : k + 1 < WW.length := by omega
    have hiw1 : idx WW ((k + 1 : Nat) : Int) = some (WW.getD (k + 1) []) := by rw [idx_nat hkw1, getDl [] hkw1]
    have hk1 : w64 ((k : Int) + 1) = ((k + 1 : Nat) : Int) := w64_nat1 (by omega)
    have hwk1 : (WW.getD (k + 1) []).length ≤ 900 := by rw [getDl [] hkw1]; have := (hwl _ (List.getElem_mem hkw1)).1; omega
    simp only [hiw, hir, bnd_some_eq]
    rw [hs1, bnd_some_eq]
    by_cases h0 : r0.2.2 = 0
    · obtain ⟨w, j, rfl, j1, j2, hwl', hwx, hR⟩ := hs2 h0
      rw [decide_eq_true h0, cond_true, show decide True = true from rfl, cond_true, bnd_some_eq]
      simp only [Out.elim]
      rw [show decide ((1 : Int) = -1) = false from rfl, cond_false, hk1, hiw1, bnd_some_eq, Int.toNat_natCast]
      have hF : Frm ⟨(q : Int), ((k + 1 : Nat) : Int), 0, WW, RR.set k w, OO⟩ := ⟨by simpa using r1, by simpa using r3, by simpa using lw, by simpa using lo, by simp only; omega, by simp only [List.length_set]; omega, fr.sw, fun x hx => by
        rcases List.mem_or_eq_of_mem_set hx with hx | rfl
        · exact fr.sr x hx
        · rw [hwl']; omega⟩
      rw [tl2_eq hS hQ hF hwk1 (by omega)]
      simp only [Int.toNat_natCast]
      rw [set_same WW [] hkw1]
      obtain ⟨c, c', hc, hst', hcg⟩ := shR_step hm C hT hf (by simpa using ha) hH (w := w) (j := j) (by simpa using hwl') (by simpa using hR)
      simp only [Int.toNat_natCast] at hst' hcg
      obtain ⟨r, hr1, hr2⟩ := out_ok (m := m) (f := ⟨(q : Int), (k : Int), at_, WW, RR, OO⟩) (counts := counts) (ns := ns) (c := c) (k := 1) (g := wdF ⟨(q : Int), ((k + 1 : Nat) : Int), 0, WW, RR.set k w, OO⟩)
        (fun hg => .inr (.inr ⟨rfl, c', hcg hg, .inr (.inr ⟨rfl, k, 1, w, j, hkR, .inl ⟨rfl, by simp only; omega, rfl⟩, hs1, j1, j2, hst'⟩)⟩))
      exact ⟨c, r, hc, hr1, hr2⟩
    · have hjl : ([WW.getD k [], RR.getD k []] : List (List Int)).flatten.length ≤ 1048576 := by
        simp only [List.flatten_cons, List.flatten_nil, List.length_append, List.length_nil]
        omega
      rw [decide_eq_false h0, cond_false, show decide True = true from rfl, cond_true, impl_joined _ (by simp) hjl, bnd_some_eq]
      have hio : idx OO (k : Int) = some (OO.getD k 0) := by rw [idx_nat (by omega : k < OO.length), getDl 0 (by omega : k < OO.length)]
      rw [hio, bnd_some_eq]
      have hob := hof (OO.getD k 0) (by rw [getDl 0 (by omega : k < OO.length)]; exact List.getElem_mem _)
      rw [w64_in (n := OO.getD k 0 - 1) (by omega) (by omega), Int.toNat_natCast]
      have e2 : ([WW.getD k [], RR.getD k []] : List (List Int)).flatten = WW.getD k [] ++ RR.getD k [] := by simp
      rw [e2]
      have hF : Frm ⟨(q : Int), (k : Int), at_, WW.set k (WW.getD k [] ++ RR.getD k []), RR, OO.set k (OO.getD k 0 - 1)⟩ := ⟨fr.r1, fr.r3, by simpa using lw, by simpa using lo, fr.h0, fr.hr, fun x hx => by
        rcases List.mem_or_eq_of_mem_set hx with hx | rfl
        · exact fr.sw x hx
        · rw [List.length_append]; omega, fr.sr⟩
      rw [end_eq hS hQ hF]
      obtain ⟨c, hc, hcg⟩ := unR_step hm C hf (by simpa using ha) hH (by simpa using h2 k hkR)
      simp only [Int.toNat_natCast] at hcg
      obtain ⟨r, hr1, hr2⟩ := out_ok (m := m) (f := ⟨(q : Int), (k : Int), at_, WW, RR, OO⟩) (counts := counts) (ns := ns) (c := c) (k := 2) (g := ⟨(q : Int), (k : Int), at_, WW.set k (WW.getD k [] ++ RR.getD k []), RR, OO.set k (OO.getD k 0 - 1)⟩)
        (fun hg => .inr (.inr ⟨rfl, c, hcg hg, .inr (.inl ⟨rfl, rfl⟩)⟩))
      exact ⟨c, r, hc, hr1, hr2⟩
  · obtain ⟨k, rfl⟩ : ∃ j : Nat, k = j + 1 := ⟨k - 1, by omega⟩
    have hkR : k < RR.length := by omega
    have hkw0 : k < WW.length := by omega
    rw [decide_eq_true ha, cond_true]
    simp only [bnd_some_eq]
    rw [show decide ((-1 : Int) = 0) = false from rfl, cond_false]
    have hk1 : w64 (((k + 1 : Nat) : Int) - 1) = (k : Int) := by rw [w64_in (by omega) (by omega)]; omega
    have hir : idx RR (k : Int) = some (RR.getD k []) := by rw [idx_nat hkR, getDl [] hkR]
    have hrw := hrp _ (List.getElem_mem hkR)
    rw [← getDl [] hkR] at hrw
    obtain ⟨q, rfl⟩ : ∃ q : Nat, st = (q : Int) := ⟨st.toNat, by omega⟩
    have hqp : q < p := by have := M.hq; omega
    obtain ⟨r0, hs1, hs2⟩ := sh_over M hqp (side := -1) (.inr rfl) (w0 := RR.getD k []) (by omega) (fun x hx => by have := hrw.2 x hx; omega)
    have hiw0 : idx WW (k : Int) = some (WW.getD k []) := by rw [idx_nat hkw0, getDl [] hkw0]
    have hk1' : w64 ((k : Int) + 1) = ((k + 1 : Nat) : Int) := w64_nat1 (by omega)
    have hwk0 : (WW.getD k []).length ≤ 900 := by rw [getDl [] hkw0]; have := (hwl _ (List.getElem_mem hkw0)).1; omega
    have hwl0 : w64 (((WW.getD k []).length : Int) - 1) = ((WW.getD k []).length : Int) - 1 := w64_in (by omega) (by omega)
    rw [hk1]
    simp only [hiw, hir, hiw0, bnd_some_eq]
    rw [hs1, bnd_some_eq]
    by_cases h0 : r0.2.2 = 0
    · obtain ⟨w, j, rfl, j1, j2, hwl', hwx, hR⟩ := hs2 h0
      rw [decide_eq_true h0, cond_true, show decide ((-1 : Int) = 1) = false from rfl, cond_false, bnd_some_eq]
      simp only [Out.elim]
      rw [show decide True = true from rfl, cond_true]
      simp only [hiw0, bnd_some_eq, F_impl_size_int64]
      rw [hwl0, Int.toNat_natCast]
      have hF : Frm ⟨(q : Int), (k : Int), ((WW.getD k []).length : Int) - 1, WW, RR.set k w, OO⟩ := ⟨by simpa using r1, by simpa using r3, by simpa using lw, by simpa using lo, by simp only; omega, by simp only [List.length_set]; omega, fr.sw, fun x hx => by
        rcases List.mem_or_eq_of_mem_set hx with hx | rfl
        · exact fr.sr x hx
        · rw [hwl']; omega⟩
      rw [tl1_eq hS hQ hF hwk0]
      simp only [Int.toNat_natCast]
      rw [set_same WW [] hkw0]
      obtain ⟨c, c', hc, hst', hcg⟩ := shL_step hm C hT hf (by simpa using ha) hH (k := k) rfl (w := w) (j := j) (by simpa using hwl') (by simpa using hR)
      simp only at hcg
      obtain ⟨r, hr1, hr2⟩ := out_ok (m := m) (f := ⟨(q : Int), ((k + 1 : Nat) : Int), at_, WW, RR, OO⟩) (counts := counts) (ns := ns) (c := c) (k := 1) (g := wdF ⟨(q : Int), (k : Int), ((WW.getD k []).length : Int) - 1, WW, RR.set k w, OO⟩)
        (fun hg => .inr (.inr ⟨rfl, c', hcg hg, .inr (.inr ⟨rfl, k, -1, w, j, hkR, .inr ⟨rfl, by simp only; omega, rfl⟩, hs1, j1, j2, hst'⟩)⟩))
      exact ⟨c, r, hc, hr1, hr2⟩
    · rw [decide_eq_false h0, cond_false, show decide ((-1 : Int) = 1) = false from rfl, cond_false, hk1']
      have hio : idx OO (k : Int) = some (OO.getD k 0) := by rw [idx_nat (by omega : k < OO.length), getDl 0 (by omega : k < OO.length)]
      have hjl : ([RR.getD k [], WW.getD (k + 1) []] : List (List Int)).flatten.length ≤ 1048576 := by
        simp only [List.flatten_cons, List.flatten_nil, List.length_append, List.length_nil]
        omega
      simp only [hiw, bnd_some_eq]
      rw [impl_joined _ (by simp) hjl, bnd_some_eq]
      simp only [Out.elim, bnd_some_eq, hio, F_impl_size_int64, Int.toNat_natCast]
      have hob := hof (OO.getD k 0) (by rw [getDl 0 (by omega : k < OO.length)]; exact List.getElem_mem _)
      rw [w64_in (n := OO.getD k 0 - 1) (by omega) (by omega), w64_in (n := ((RR.getD k []).length : Int) - 1) (by omega) (by omega)]
      have e2 : ([RR.getD k [], WW.getD (k + 1) []] : List (List Int)).flatten = RR.getD k [] ++ WW.getD (k + 1) [] := by simp
      rw [e2]
      have hF : Frm ⟨(q : Int), ((k + 1 : Nat) : Int), ((RR.getD k []).length : Int) - 1, WW.set (k + 1) (RR.getD k [] ++ WW.getD (k + 1) []), RR, OO.set k (OO.getD k 0 - 1)⟩ := ⟨fr.r1, fr.r3, by simpa using lw, by simpa using lo, fr.h0, fr.hr, fun x hx => by
        rcases List.mem_or_eq_of_mem_set hx with hx | rfl
        · exact fr.sw x hx
        · rw [List.length_append]; omega, fr.sr⟩
      rw [end_eq hS hQ hF]
      obtain ⟨c, hc, hcg⟩ := unL_step hm C hf (by simpa using ha) (k := k) rfl (by simpa using h2 k hkR)
      simp only at hcg
      obtain ⟨r, hr1, hr2⟩ := out_ok (m := m) (f := ⟨(q : Int), ((k + 1 : Nat) : Int), at_, WW, RR, OO⟩) (counts := counts) (ns := ns) (c := c) (k := 2) (g := ⟨(q : Int), ((k + 1 : Nat) : Int), ((RR.getD k []).length : Int) - 1, WW.set (k + 1) (RR.getD k [] ++ WW.getD (k + 1) []), RR, OO.set k (OO.getD k 0 - 1)⟩)
        (fun hg => .inr (.inr ⟨rfl, c, hcg hg, .inr (.inl ⟨rfl, rfl⟩)⟩))
      exact ⟨c, r, hc, hr1, hr2⟩
end Go.Fn
namespace Go.Fn
open Go Go.Tc
theorem flat_run {p0 : Gl00Src} : ∀ (m : Nat) (a : Int) (sd : Ik .u64) (out : List Int) (n : Int), SrcOk ⟨p0.code, a, sd⟩ n → n + m ≤ 1099511627776 → m ≤ 1000 → out.length + m ≤ 1000 → Let 2 out →
  ∃ ws a' sd', run (F_spec_l27DrawFlat_L1 p0) (a, sd, out, (m : Int)) = some (.brk (a', sd', out ++ ws, 0)) ∧ ws.length = m ∧ Let 2 (out ++ ws) ∧ SrcOk ⟨p0.code, a', sd'⟩ (n + m) := by
 intro m
 induction m with
 | zero =>
  intro a sd out n h _ _ _ hl
  refine ⟨[], a, sd, run_done ?_, rfl, by rwa [List.append_nil], by simpa using h⟩
  simp only [F_spec_l27DrawFlat_L1]
  rw [decide_eq_false (by omega), cond_false, List.append_nil]
  rfl
 | succ m ih =>
  intro a sd out n h hn hm ho hl
  obtain ⟨v, a1, sd1, e, h0, h1, h2⟩ := src_pick 2 h (by omega) (by omega)
  have hv : 0 ≤ v ∧ v < 2 := ⟨h0, by omega⟩
  obtain ⟨ws, a', sd', e2, l1, l2, l3⟩ := ih a1 sd1 (out ++ [v]) (n + 1) h2 (by omega) (by omega) (by simp; omega) (by
   intro x hx
   rcases List.mem_append.1 hx with hx | hx
   ·exact hl x hx
   ·rw [List.mem_singleton.1 hx]; exact hv)
  refine ⟨v :: ws, a', sd', ?_, by simp [l1], by simpa using l2, by rw [show n + ((m + 1 : Nat) : Int) = n + 1 + (m : Int) by omega]; exact l3⟩
  have hb : F_spec_l27DrawFlat_L1 p0 (a, sd, out, ((m + 1 : Nat) : Int)) = some (.inl (a1, sd1, out ++ [v], (m : Int))) := by
   simp only [F_spec_l27DrawFlat_L1]
   rw [decide_eq_true (by omega), cond_true, e, bnd_some_eq, app_ok (by simp; omega), bnd_some_eq, w64_in (by omega) (by omega), show ((m + 1 : Nat) : Int) - 1 = (m : Int) by omega]
  rw [run_next hb, e2]
  simp
theorem src_flat {s : Gl00Src} {n : Int} (least most : Int) (h : SrcOk s n) (hn : n ≤ 1000000000) (h0 : 0 ≤ least) (h1 : least ≤ most) (h2 : most ≤ 100) :
  ∃ ws a sd, F_spec_l27DrawFlat s least most = some (ws, (a, sd)) ∧ Let 2 ws ∧ least ≤ (ws.length : Int) ∧ (ws.length : Int) ≤ most ∧ SrcOk ⟨s.code, a, sd⟩ (n + 1 + most) := by
 unfold F_spec_l27DrawFlat
 rw [w64_in (n := most - least) (by omega) (by omega), w64_in (n := most - least + 1) (by omega) (by omega)]
 obtain ⟨v, a, sd, e, v0, v1, v2⟩ := src_pick (most - least + 1) h (by omega) (by omega)
 rw [e, bnd_some_eq]
 simp only
 rw [w64_in (n := least + v) (by omega) (by omega)]
 obtain ⟨ws, a', sd', e2, l1, l2, l3⟩ := flat_run (p0 := s) (least + v).toNat a sd [] (n + 1) v2 (by omega) (by omega) (by simp; omega) (fun x hx => by simp at hx)
 rw [show (((least + v).toNat : Nat) : Int) = least + v by omega] at e2
 rw [e2, bnd_some_eq]
 simp only [Out.elim, List.nil_append] at l2 ⊢
 refine ⟨ws, a', sd', rfl, l2, by omega, by omega, l3.bytes, l3.lo, ?_⟩
 have := l3.hi
 simp only at this ⊢
 omega
structure DrF (i r : Nat) (WW RR : List (List Int)) (OO : List Int) : Prop where
 lw : WW.length = i
 lr : RR.length = min i r
 lo : OO.length = min i r
 w3 : ∀ w ∈ WW, w.length ≤ 3 ∧ Let 2 w
 r3 : ∀ w ∈ RR, (1 ≤ w.length ∧ w.length ≤ 3) ∧ Let 2 w
 o2 : ∀ x ∈ OO, -2 ≤ x ∧ x ≤ 2
theorem mem_snoc {α : Type} {p : α → Prop} {xs : List α} {x : α} (h : ∀ y ∈ xs, p y) (hx : p x) : ∀ y ∈ xs ++ [x], p y := fun y hy => by
 rcases List.mem_append.1 hy with hy | hy
 ·exact h y hy
 ·rw [List.mem_singleton.1 hy]; exact hx
theorem drF_run {c : List (Ik .u8)} (z : Int × Ik .u64) (z1 : Int × Ik .u64) {r : Nat} (hr : 1 ≤ r ∧ r ≤ 3) : ∀ (m i : Nat) (a : Int) (sd : Ik .u64) (WW RR : List (List Int)) (OO : List Int) (n : Int), i + m = r + 1 → SrcOk ⟨c, a, sd⟩ n → n + 10 * m ≤ 1000000 → DrF i r WW RR OO →
  ∃ a' sd' WW' RR' OO' n', run (F_spec_R8Formula_L1 (c, z) (z1.1, z1.2, (r : Int))) (a, sd, WW, RR, OO, (i : Int)) = some (.brk (a', sd', WW', RR', OO', ((r + 1 : Nat) : Int))) ∧ DrF (r + 1) r WW' RR' OO' ∧ SrcOk ⟨c, a', sd'⟩ n' ∧ n' ≤ n + 10 * m := by
 intro m
 induction m with
 | zero =>
  intro i a sd WW RR OO n hi h hn hD
  obtain rfl : i = r + 1 := by omega
  refine ⟨a, sd, WW, RR, OO, n, run_done ?_, hD, h, by omega⟩
  simp only [F_spec_R8Formula_L1]
  rw [decide_eq_false (by omega), cond_false]
 | succ m ih =>
  intro i a sd WW RR OO n hi h hn hD
  obtain ⟨w, a1, sd1, e1, w1, w2, w3, k1⟩ := src_flat 0 3 h (by omega) (by omega) (by omega) (by omega)
  simp only at e1 k1
  have hlw := hD.lw
  have hlr := hD.lr
  have hlo := hD.lo
  by_cases hir : i < r
  ·obtain ⟨u, a2, sd2, e2, u1, u2, u3, k2⟩ := src_flat 1 3 k1 (by omega) (by omega) (by omega) (by omega)
   simp only at e2 k2
   obtain ⟨v, a3, sd3, e3, v0, v1, k3⟩ := src_pick 5 k2 (by omega) (by omega)
   simp only at e3 k3
   have hb : F_spec_R8Formula_L1 (c, z) (z1.1, z1.2, (r : Int)) (a, sd, WW, RR, OO, (i : Int)) = some (.inl (a3, sd3, WW ++ [w], RR ++ [u], OO ++ [v - 2], ((i + 1 : Nat) : Int))) := by
    simp only [F_spec_R8Formula_L1]
    rw [decide_eq_true (by omega), cond_true, e1, bnd_some_eq, app_ok (by simp; omega), bnd_some_eq, bnd_some_eq]
    simp only [Out.elim]
    rw [decide_eq_true (by omega), cond_true, e2, bnd_some_eq, app_ok (by simp; omega), bnd_some_eq, bnd_some_eq]
    simp only [Out.elim]
    rw [e3, bnd_some_eq]
    simp only
    rw [app_ok (by simp; omega), bnd_some_eq, w64_in (n := v - 2) (by omega) (by omega), w64_nat1 (by omega)]
   rw [run_next hb]
   obtain ⟨a', sd', WW', RR', OO', n', e, hD', k', hn'⟩ := ih (i + 1) a3 sd3 _ _ _ _ (by omega) k3 (by omega) ⟨by simp; omega, by simp; omega, by simp; omega, mem_snoc hD.w3 ⟨by omega, w1⟩, mem_snoc hD.r3 ⟨by omega, u1⟩, mem_snoc (x := v - 2) hD.o2 ⟨by omega, by omega⟩⟩
   exact ⟨a', sd', WW', RR', OO', n', e, hD', k', by omega⟩
  ·have hb : F_spec_R8Formula_L1 (c, z) (z1.1, z1.2, (r : Int)) (a, sd, WW, RR, OO, (i : Int)) = some (.inl (a1, sd1, WW ++ [w], RR, OO, ((i + 1 : Nat) : Int))) := by
    simp only [F_spec_R8Formula_L1]
    rw [decide_eq_true (by omega), cond_true, e1, bnd_some_eq, app_ok (by simp; omega), bnd_some_eq, bnd_some_eq]
    simp only [Out.elim]
    rw [decide_eq_false (by omega), cond_false, w64_nat1 (by omega)]
   rw [run_next hb]
   obtain ⟨a', sd', WW', RR', OO', n', e, hD', k', hn'⟩ := ih (i + 1) a1 sd1 _ _ _ _ (by omega) k1 (by omega) ⟨by simp; omega, by omega, by omega, mem_snoc hD.w3 ⟨by omega, w1⟩, hD.r3, hD.o2⟩
   exact ⟨a', sd', WW', RR', OO', n', e, hD', k', by omega⟩
def CtOk (cs : List Int) : Prop := ∀ x ∈ cs, 4 ≤ x ∧ x ≤ 7
theorem cnt_runG {X : Type} {c : List (Ik .u8)} {R : Nat} {body : Int × Ik .u64 × List Int × Int → Option ((Int × Ik .u64 × List Int × Int) ⊕ Out (Int × Ik .u64 × List Int × Int) X)}
  (hB : ∀ s, body s = (cond (decide (s.2.2.2 < (R : Int))) (bnd (F_spec_l00Src_pick (⟨c, s.1, s.2.1⟩ : Gl00Src) 4) fun r => bnd (app s.2.2.1 ([(w64 (4 + r.1))] : List Int)) fun z => some (.inl (r.2.1, r.2.2, z, (w64 (s.2.2.2 + 1))))) (some (.inr (.brk (s.1, s.2.1, s.2.2.1, s.2.2.2))))))
  (hR : R ≤ 3) : ∀ (m i : Nat) (a : Int) (sd : Ik .u64) (cs : List Int) (n : Int), i + m = R → SrcOk ⟨c, a, sd⟩ n → n + m ≤ 1000000 → cs.length = i → CtOk cs →
  ∃ t cs', run body (a, sd, cs, (i : Int)) = some (.brk t) ∧ t.2.2.1 = cs' ∧ cs'.length = R ∧ CtOk cs' := by
 intro m
 induction m with
 | zero =>
  intro i a sd cs n hi h hn hl hc
  obtain rfl : i = R := by omega
  refine ⟨_, cs, run_done (by rw [hB]; simp only; rw [decide_eq_false (by omega), cond_false]), rfl, hl, hc⟩
 | succ m ih =>
  intro i a sd cs n hi h hn hl hc
  obtain ⟨v, a1, sd1, e1, v0, v1, k1⟩ := src_pick 4 h (by omega) (by omega)
  simp only at e1 k1
  have hb : body (a, sd, cs, (i : Int)) = some (.inl (a1, sd1, cs ++ [4 + v], ((i + 1 : Nat) : Int))) := by
   rw [hB]
   simp only
   rw [decide_eq_true (by omega), cond_true, e1, bnd_some_eq, app_ok (by simp; omega), bnd_some_eq, w64_in (n := 4 + v) (by omega) (by omega), w64_nat1 (by omega)]
  rw [run_next hb]
  exact ih (i + 1) a1 sd1 _ (n + 1) (by omega) k1 (by omega) (by simp; omega) (mem_snoc hc (by omega))
theorem im_symbols {m : GMachine} (hS : 2 ≤ m.Symbols ∧ m.Symbols ≤ 6) (w : List Int) (k : Int) (hl : w.length ≤ 1000) (hw : Let 2 w) : F_spec_l27Symbols m w k = some (decide ((w.length : Int) ≤ k)) := by
 unfold F_spec_l27Symbols
 rw [run_allp w (by omega) (fun _ => true) (.ret false) (.brk (w.length : Int)) (fun i hi => by
  have := hw _ (List.getElem_mem hi)
  simp only [F_spec_l27Symbols_L1]
  rw [decide_eq_true (by omega), cond_true, idx_nat hi, bnd_some_eq, w64_in (n := m.Symbols - 1) (by omega) (by omega)]
  unfold F_spec_l00In
  rw [decide_eq_true (by omega), cond_true, bnd_some_eq, decide_eq_true (by omega)]
  rfl) (by simp [F_spec_l27Symbols_L1])]
 rw [show (w.all fun _ => true) = true from List.all_eq_true.2 fun _ _ => rfl, cond_true, bnd_some_eq]
 rfl
theorem sp_in (x lo hi : Int) : F_spec_l00In x lo hi = some (inB x lo hi) := by
 unfold F_spec_l00In inB
 by_cases h : lo ≤ x
 ·rw [decide_eq_true h]
  rfl
 ·rw [decide_eq_false h]
  rfl
theorem sp_is {m : GMachine} (hS : 2 ≤ m.Symbols ∧ m.Symbols ≤ 6) (hQ : 1 ≤ m.States ∧ m.States ≤ 1000) {r : Nat} (hr : 1 ≤ r ∧ r ≤ 3) {WW RR : List (List Int)} {OO : List Int} (hD : DrF (r + 1) r WW RR OO) {st at_ : Int} {k : Nat} (hst : 0 ≤ st ∧ st < m.States) (hk : k ≤ r) (ha : -1 ≤ at_ ∧ at_ ≤ ((WW.getD k []).length : Int)) :
  ∃ b, F_spec_l27Is m ⟨st, (k : Int), at_, WW, RR, OO⟩ = some b ∧ (b = true → atB ⟨st, (k : Int), at_, WW, RR, OO⟩ = true) := by
 have lw := hD.lw
 have lr : RR.length = r := by rw [hD.lr]; omega
 have lo : OO.length = r := by rw [hD.lo]; omega
 have hkw : k < WW.length := by omega
 have hwk := (hD.w3 _ (List.getElem_mem hkw)).1
 rw [← getDl [] hkw] at hwk
 have hiw : idx WW (k : Int) = some (WW.getD k []) := by rw [idx_nat hkw, getDl [] hkw]
 unfold F_spec_l27Is
 simp only
 rw [sp_in, bnd_some_eq, w64_in (n := m.States - 1) (by omega) (by omega), inB_iff.2 (by omega : 0 ≤ st ∧ st ≤ m.States - 1), Bool.not_true, cond_false, decide_eq_false (by omega), cond_false, decide_eq_false (by omega), cond_false, w64_nat1 (by omega), decide_eq_false (by omega), cond_false, decide_eq_false (by omega), cond_false, sp_in, bnd_some_eq, inB_iff.2 (by omega : 0 ≤ (k : Int) ∧ (k : Int) ≤ (RR.length : Int)), Bool.not_true, cond_false, bnd_some_eq]
 simp only [Out.elim]
 rw [run_all (r + 1) (by omega) (fun _ => true) (.ret false) (.brk ((r + 1 : Nat) : Int)) (fun i hi _ => by
  have hiw : i < WW.length := by omega
  have hw := hD.w3 _ (List.getElem_mem hiw)
  simp only [F_spec_l27Is_L1]
  rw [decide_eq_true (by omega), cond_true, idx_nat hiw, bnd_some_eq, im_symbols hS _ 100 (by omega) hw.2, bnd_some_eq, decide_eq_true (by omega), Bool.not_true, cond_false]) (fun i hi hp => by cases hp) (by
   simp only [F_spec_l27Is_L1]
   rw [decide_eq_false (by omega), cond_false]), if_pos (fun _ _ => rfl), bnd_some_eq]
 rw [run_all r (by omega) (fun _ => true) (.ret false) (.brk (r : Int)) (fun i hi _ => by
  have hiR : i < RR.length := by omega
  have hiO : i < OO.length := by omega
  have hw := hD.r3 _ (List.getElem_mem hiR)
  have ho := hD.o2 _ (List.getElem_mem hiO)
  simp only [F_spec_l27Is_L2]
  rw [decide_eq_true (by omega), cond_true, idx_nat hiR, bnd_some_eq, decide_eq_false (by omega), cond_false, bnd_some_eq, im_symbols hS _ 20 (by omega) hw.2, bnd_some_eq, decide_eq_true (by omega), Bool.not_true, cond_false, idx_nat hiO, bnd_some_eq, sp_in, bnd_some_eq, inB_iff.2 (by omega), Bool.not_true, cond_false]) (fun i hi hp => by cases hp) (by
   simp only [F_spec_l27Is_L2]
   rw [decide_eq_false (by omega), cond_false]), if_pos (fun _ _ => rfl), bnd_some_eq]
 rw [hiw, bnd_some_eq]
 unfold atB
 simp only [Int.toNat_natCast, sp_in, bnd_some_eq]
 rw [w64_in (n := ((WW.getD k []).length : Int) - 1) (by omega) (by omega)]
 have fin : ∀ lo hi : Int, lo = (if 0 < (k : Int) then -1 else 0) → hi = (if (k : Int) = (RR.length : Int) then ((WW.getD k []).length : Int) - 1 else ((WW.getD k []).length : Int)) → inB at_ lo hi = true → (inB at_ 0 (((WW.getD k []).length : Int) - 1) || (decide (at_ = ((WW.getD k []).length : Int)) && decide ((k : Int) < (RR.length : Int)) || decide (at_ = -1) && decide (0 < (k : Int)))) = true := by
  intro lo hi hlo hhi h
  have h := inB_iff.1 h
  simp only [Bool.or_eq_true, Bool.and_eq_true, decide_eq_true_eq, inB_iff]
  split at hlo <;> split at hhi <;> omega
 by_cases h0 : 0 < (k : Int)
 ·rw [decide_eq_true h0, cond_true, bnd_some_eq]
  simp only [Out.elim]
  by_cases h1 : (k : Int) = (RR.length : Int)
  ·rw [decide_eq_true h1, cond_true]
   refine ⟨_, rfl, fun hb => ?_⟩
   have := fin (-1) (((WW.getD k []).length : Int) - 1) (by rw [if_pos h0]) (by rw [if_pos h1]) hb
   rwa [decide_eq_true h0] at this
  ·rw [decide_eq_false h1, cond_false]
   refine ⟨_, rfl, fun hb => ?_⟩
   have := fin (-1) (((WW.getD k []).length : Int)) (by rw [if_pos h0]) (by rw [if_neg h1]) hb
   rwa [decide_eq_true h0] at this
 ·rw [decide_eq_false h0, cond_false, bnd_some_eq]
  simp only [Out.elim]
  by_cases h1 : (k : Int) = (RR.length : Int)
  ·rw [decide_eq_true h1, cond_true]
   refine ⟨_, rfl, fun hb => ?_⟩
   have := fin 0 (((WW.getD k []).length : Int) - 1) (by rw [if_neg h0]) (by rw [if_pos h1]) hb
   rwa [decide_eq_false h0] at this
  ·rw [decide_eq_false h1, cond_false]
   refine ⟨_, rfl, fun hb => ?_⟩
   have := fin 0 (((WW.getD k []).length : Int)) (by rw [if_neg h0]) (by rw [if_neg h1]) hb
   rwa [decide_eq_false h0] at this
def nsF (cs OO : List Int) : List Nat := (List.range OO.length).map fun i => (cs.getD i 0 + OO.getD i 0).toNat
theorem nsF_at (cs OO : List Int) {i : Nat} (h : i < OO.length) : (nsF cs OO).getD i 0 = (cs.getD i 0 + OO.getD i 0).toNat := by
 unfold nsF
 rw [getDl 0 (by simpa using h)]
 simp
theorem dr_ok {m : GMachine} (hS : 2 ≤ m.Symbols ∧ m.Symbols ≤ 6) {r : Nat} (hr : 1 ≤ r ∧ r ≤ 3) {WW RR : List (List Int)} {OO cs : List Int} {st at_ : Int} {k : Nat} (lw : WW.length = r + 1) (lr : RR.length = r) (lo : OO.length = r) (lc : cs.length = r) (w3 : ∀ w ∈ WW, w.length ≤ 4 ∧ Let 2 w) (r3 : ∀ w ∈ RR, (1 ≤ w.length ∧ w.length ≤ 3) ∧ Let 2 w) (o2 : ∀ x ∈ OO, -2 ≤ x ∧ x ≤ 2) (hc : CtOk cs)
  (hst : 0 ≤ st ∧ st < m.States) (hk : k ≤ r) (ha : atB ⟨st, (k : Int), at_, WW, RR, OO⟩ = true) :
  FmC ⟨st, (k : Int), at_, WW, RR, OO⟩ cs (nsF cs OO) ∧ (cellsF ⟨st, (k : Int), at_, WW, RR, OO⟩ (nsF cs OO)).length ≤ 140 ∧ formB m ⟨st, (k : Int), at_, WW, RR, OO⟩ = true ∧ ∀ i, i < r → 2 ≤ (nsF cs OO).getD i 0 := by
 have hn : ∀ i, i < r → (4 ≤ cs.getD i 0 ∧ cs.getD i 0 ≤ 7) ∧ (-2 ≤ OO.getD i 0 ∧ OO.getD i 0 ≤ 2) ∧ (nsF cs OO).getD i 0 = (cs.getD i 0 + OO.getD i 0).toNat := fun i hi => by
  refine ⟨?_, ?_, nsF_at cs OO (by omega)⟩
  ·rw [getDl 0 (by omega : i < cs.length)]
   exact hc _ (List.getElem_mem _)
  ·rw [getDl 0 (by omega : i < OO.length)]
   exact o2 _ (List.getElem_mem _)
 have hcl : (cellsF ⟨st, (k : Int), at_, WW, RR, OO⟩ (nsF cs OO)).length ≤ 140 := by
  have key : ∀ j, (preF ⟨st, (k : Int), at_, WW, RR, OO⟩ (nsF cs OO) j).length ≤ j * 31 := by
   intro j
   induction j with
   | zero => exact Nat.le_refl _
   | succ j ih =>
    rw [pre_succ, List.length_append]
    have h1 : (WW.getD j []).length ≤ 4 := by
     by_cases h : j < WW.length
     ·rw [getDl [] h]
      exact (w3 _ (List.getElem_mem h)).1
     ·rw [getD_out _ _ (by omega)]
      exact Nat.zero_le _
    have h2 : (rpF ((nsF cs OO).getD j 0) (RR.getD j [])).length ≤ 27 := by
     rw [rp_len]
     by_cases h : j < RR.length
     ·rw [getDl [] h]
      have h3 := (r3 _ (List.getElem_mem h)).1.2
      obtain ⟨h4, h5, h6⟩ := hn j (by omega)
      exact Nat.mul_le_mul (by omega : (nsF cs OO).getD j 0 ≤ 9) h3
     ·rw [getD_out RR _ (by omega)]
      simp
    unfold sgF
    simp only
    rw [List.length_append]
    omega
  have := key (r + 1)
  unfold cellsF
  rw [lw]
  omega
 refine ⟨⟨⟨by simp only; omega, by simp only; omega, by simp only; omega, by simp only; omega, by simp only; omega, by simp only; omega, fun w hw => by have := (w3 w hw).1; omega, fun w hw => by have := (r3 w hw).1; omega⟩, by simp only; omega, by simp only; unfold nsF; simp; omega, fun i hi => ?_, fun i hi => ?_, fun i hi => ?_, fun w hw => by have := (r3 w hw).1; omega, by omega⟩, hcl, ?_, fun i hi => ?_⟩
 ·obtain ⟨h4, h5, h6⟩ := hn i (by simp only at hi; omega)
  omega
 ·obtain ⟨h4, h5, h6⟩ := hn i (by simp only at hi; omega)
  simp only
  omega
 ·obtain ⟨h4, h5, h6⟩ := hn i (by simp only at hi; omega)
  omega
 ·have hsy : ∀ w : List Int, Let 2 w → (w.all fun x => inB x 0 (m.Symbols - 1)) = true := fun w hw => List.all_eq_true.2 fun x hx => inB_iff.2 (by have := hw x hx; omega)
  unfold formB
  simp only [Bool.and_eq_true, List.all_eq_true]
  refine ⟨inB_iff.2 (by omega), fun w hw => ?_, fun w hw => ?_, fun x hx => inB_iff.2 (by have := o2 x hx; omega), ha⟩
  ·unfold wallB
   rw [hsy w (w3 w hw).2, decide_eq_true (by have := (w3 w hw).1; omega)]
   rfl
  ·unfold repB
   rw [hsy w (r3 w hw).2, inB_iff.2 (by have := (r3 w hw).1; omega)]
   rfl
 ·obtain ⟨h4, h5, h6⟩ := hn i hi
  omega
theorem src_formula {d : List (Ik .u8)} (h : Bytes d) {m : GMachine} (hm : machB m = true) (hq : m.States ≤ 100) :
  ∃ f cs ns, F_spec_R8Formula d m = some (f, cs) ∧ FmC f cs ns ∧ (cellsF f ns).length ≤ 140 ∧ formB m f = true ∧ ∀ i, i < f.Repeats.length → 2 ≤ ns.getD i 0 := by
 obtain ⟨s, p, M⟩ := machB_mai hm
 have hS : 2 ≤ m.Symbols ∧ m.Symbols ≤ 6 := by rw [M.hs]; have := M.b1; have := M.b2; omega
 have hQ : 1 ≤ m.States ∧ m.States ≤ 1000 := by rw [M.hq]; have := M.b3; have := M.b4; omega
 unfold F_spec_R8Formula F_spec_l00From
 rw [bnd_some_eq]
 obtain ⟨u, a0, sd0, e0, u0, u1, k0⟩ := src_pick (s := ⟨d, 0, ⟨0⟩⟩) (n := 0) 2 ⟨h, by simp, by simp⟩ (by omega) (by omega)
 simp only at e0 k0 ⊢
 rw [e0, bnd_some_eq]
 simp only
 obtain ⟨b, a1, sd1, e1, k1⟩ := src_one 8 k0 (by omega) (by omega)
 simp only at e1 k1
 rw [e1, bnd_some_eq]
 simp only
 have hr : ∃ r : Nat, (1 ≤ r ∧ r ≤ 3) ∧ (cond b (some (.brk (a1, sd1, 3))) (some (.brk (a1, sd1, w64 (1 + u)))) : Option (Out (Int × (Ik .u64) × Int) (Option (GFormula × List Int)))) = some (.brk (a1, sd1, (r : Int))) := by
  cases b with
  | true => exact ⟨3, by omega, rfl⟩
  | false => exact ⟨(1 + u).toNat, by omega, by rw [cond_false, w64_in (by omega) (by omega), show (((1 + u).toNat : Nat) : Int) = 1 + u by omega]⟩
 obtain ⟨r, hr, er⟩ := hr
 rw [er, bnd_some_eq]
 simp only [Out.elim]
 obtain ⟨st, a2, sd2, e2, s0, s1, k2⟩ := src_pick m.States k1 (by omega) (by omega)
 simp only at e2 k2
 rw [e2, bnd_some_eq]
 simp only
 rw [w64_nat1 (by omega)]
 obtain ⟨hd, a3, sd3, e3, h0, h1, k3⟩ := src_pick ((r + 1 : Nat) : Int) k2 (by omega) (by omega)
 simp only at e3 k3
 rw [e3, bnd_some_eq]
 simp only
 obtain ⟨k, rfl⟩ : ∃ k : Nat, hd = (k : Int) := ⟨hd.toNat, by omega⟩
 have hk : k ≤ r := by omega
 obtain ⟨a4, sd4, WW, RR, OO, n4, e4, hD, k4, hn4⟩ := drF_run (c := d) (0, ⟨0⟩) (a1, sd1) hr (r + 1) 0 a3 sd3 [] [] [] _ (by omega) k3 (by omega) ⟨rfl, by simp, by simp, fun _ h => (by cases h), fun _ h => (by cases h), fun _ h => (by cases h)⟩
 rw [show ((0 : Nat) : Int) = 0 from rfl] at e4
 rw [e4, bnd_some_eq]
 simp only [Out.elim]
 have lw := hD.lw
 have lr : RR.length = r := by rw [hD.lr]; omega
 have lo : OO.length = r := by rw [hD.lo]; omega
 have hkw : k < WW.length := by omega
 have hwk := hD.w3 _ (List.getElem_mem hkw)
 rw [← getDl [] hkw] at hwk
 have hiw : idx WW (k : Int) = some (WW.getD k []) := by rw [idx_nat hkw, getDl [] hkw]
 rw [hiw, bnd_some_eq, w64_in (n := ((WW.getD k []).length : Int) + 2) (by omega) (by omega)]
 obtain ⟨v, a5, sd5, e5, v0, v1, k5⟩ := src_pick (((WW.getD k []).length : Int) + 2) k4 (by omega) (by omega)
 simp only at e5 k5
 rw [e5, bnd_some_eq]
 simp only
 rw [w64_in (n := v - 1) (by omega) (by omega), Int.toNat_natCast, set_same WW [] hkw]
 obtain ⟨b2, hb2, hat⟩ := sp_is hS hQ hr hD (st := st) (at_ := v - 1) (k := k) (by omega) hk (by omega)
 rw [hb2, bnd_some_eq]
 have hw4 : ∀ w ∈ WW, w.length ≤ 4 ∧ Let 2 w := fun w hw => ⟨by have := (hD.w3 w hw).1; omega, (hD.w3 w hw).2⟩
 cases b2 with
 | true =>
  rw [Bool.not_true, cond_false]
  obtain ⟨t, cs, et, e6, lc, hc⟩ := cnt_runG (X := GFormula × List Int) (c := d) (R := r) (body := F_spec_R8Formula_L3 (d, 0, ⟨0⟩) (a4, sd4, WW, RR, OO, ((r + 1 : Nat) : Int))) (fun s => by simp only [F_spec_R8Formula_L3, lr]) hr.2 r 0 a5 sd5 [] _ (by omega) k5 (by omega) rfl (fun _ h => by cases h)
  rw [show ((0 : Nat) : Int) = 0 from rfl] at et
  rw [et, bnd_some_eq]
  simp only [Out.elim, e6]
  obtain ⟨g1, g2, g3, g4⟩ := dr_ok hS hr lw lr lo lc hw4 hD.r3 hD.o2 hc (st := st) (at_ := v - 1) (k := k) (by omega) hk (hat rfl)
  exact ⟨_, _, _, rfl, g1, g2, g3, by simp only [lr]; exact g4⟩
 | false =>
  rw [Bool.not_false, cond_true, app_ok (by rw [List.length_singleton]; omega), bnd_some_eq]
  obtain ⟨t, cs, et, e6, lc, hc⟩ := cnt_runG (X := GFormula × List Int) (c := d) (R := r) (body := F_spec_R8Formula_L2 (d, 0, ⟨0⟩) (a4, sd4, WW, RR, OO, ((r + 1 : Nat) : Int))) (fun s => by simp only [F_spec_R8Formula_L2, lr]) hr.2 r 0 a5 sd5 [] _ (by omega) k5 (by omega) rfl (fun _ h => by cases h)
  rw [show ((0 : Nat) : Int) = 0 from rfl] at et
  rw [et, bnd_some_eq]
  simp only [Out.elim, e6]
  have hz : ∀ w ∈ WW.set k (WW.getD k [] ++ [1]), w.length ≤ 4 ∧ Let 2 w := fun w hw => by
   rcases List.mem_or_eq_of_mem_set hw with hw | rfl
   ·exact hw4 w hw
   ·exact ⟨by rw [List.length_append, List.length_singleton]; omega, mem_snoc hwk.2 (by omega)⟩
  obtain ⟨g1, g2, g3, g4⟩ := dr_ok hS hr (by simpa using lw) lr lo lc hz hD.r3 hD.o2 hc (st := st) (at_ := 0) (k := k) (by omega) hk (by
   unfold atB
   refine Bool.or_eq_true_iff.2 (.inl (inB_iff.2 ?_))
   simp only [Int.toNat_natCast]
   rw [getD_set_eq _ _ _ hkw, List.length_append, List.length_singleton]
   omega)
  exact ⟨_, _, _, rfl, g1, g2, g3, by simp only [lr]; exact g4⟩
end Go.Fn
namespace Go.Fn
open Go Go.Tc
def known25 : List ByteArray := [(⟨#[49, 82, 48, 44, 49, 82, 48]⟩ : ByteArray), (⟨#[48, 82, 48, 44, 48, 82, 48]⟩ : ByteArray), (⟨#[49, 76, 48, 44, 48, 82, 48]⟩ : ByteArray), (⟨#[49, 82, 49, 44, 45, 45, 45, 59, 49, 76, 48, 44, 48, 82, 49]⟩ : ByteArray), (⟨#[49, 82, 49, 44, 48, 76, 48, 59, 49, 76, 48, 44, 49, 82, 49]⟩ : ByteArray), (⟨#[48, 76, 49, 44, 49, 82, 48, 59, 49, 82, 48, 44, 48, 76, 49]⟩ : ByteArray), (⟨#[49, 82, 49, 44, 48, 82, 49, 59, 49, 76, 48, 44, 48, 76, 48]⟩ : ByteArray), (⟨#[49, 76, 49, 44, 49, 76, 49, 59, 49, 82, 48, 44, 48, 82, 48]⟩ : ByteArray), (⟨#[49, 82, 49, 44, 49, 76, 49, 59, 48, 76, 48, 44, 48, 82, 49]⟩ : ByteArray)]
def known27 : List ByteArray := [(⟨#[49, 76, 49, 44, 49, 82, 48, 59, 49, 82, 48, 44, 49, 76, 49]⟩ : ByteArray), (⟨#[49, 76, 49, 44, 48, 82, 48, 59, 49, 82, 48, 44, 49, 76, 49]⟩ : ByteArray), (⟨#[48, 76, 49, 44, 49, 82, 48, 59, 49, 82, 48, 44, 49, 76, 49]⟩ : ByteArray), (⟨#[49, 82, 49, 44, 49, 82, 48, 59, 48, 76, 50, 44, 49, 82, 49, 59, 49, 82, 48, 44, 49, 76, 50]⟩ : ByteArray), (⟨#[49, 76, 49, 44, 49, 82, 48, 59, 49, 82, 48, 44, 48, 76, 49]⟩ : ByteArray), (⟨#[49, 76, 49, 44, 49, 82, 48, 59, 48, 82, 50, 44, 49, 76, 49, 59, 49, 82, 48, 44, 49, 82, 50]⟩ : ByteArray), (⟨#[49, 82, 49, 44, 49, 76, 50, 59, 49, 76, 48, 44, 49, 82, 49, 59, 49, 82, 48, 44, 48, 76, 50]⟩ : ByteArray)]
set_option maxRecDepth 100000 in
theorem known25_all : known25.all knownOk = true := by decide +kernel
set_option maxRecDepth 100000 in
theorem known27_all : known27.all knownOk = true := by decide +kernel
theorem read_ok {t : ByteArray} (h1 : knownOk t = true) : ∃ m, F_spec_l05Read t = some (m, true) ∧ machB m = true ∧ m.States ≤ 100 := by
 unfold knownOk at h1
 split at h1
 ·rename_i m b e
  rw [Bool.and_eq_true, Bool.and_eq_true, decide_eq_true_eq] at h1
  exact ⟨m, by rw [le_spec_l05Read t _ e, h1.1], h1.2⟩
 ·cases h1
theorem src_texts {s : Gl00Src} {n : Int} {L : List ByteArray} (h : SrcOk s n) (hn : n ≤ 1000000000) (hL : 1 ≤ L.length ∧ L.length ≤ 200) (ha : L.all knownOk = true) : ∃ t a sd m, F_spec_l00Src_text s L = some (t, (a, sd)) ∧ F_spec_l05Read t = some (m, true) ∧ machB m = true ∧ m.States ≤ 100 ∧ SrcOk ⟨s.code, a, sd⟩ (n + 1) := by
 obtain ⟨v, a, sd, e, v0, v1, k⟩ := src_pick (L.length : Int) h (by omega) (by omega)
 have hlt : v.toNat < L.length := by omega
 obtain ⟨m, hm, h1, h2⟩ := read_ok (List.all_eq_true.1 ha _ (List.getElem_mem hlt))
 refine ⟨L[v.toNat], a, sd, m, ?_, hm, h1, h2, k⟩
 unfold F_spec_l00Src_text
 rw [e, bnd_some_eq]
 simp only
 have hi : idx L v = some L[v.toNat] := by
  have := idx_nat hlt
  rwa [show ((v.toNat : Nat) : Int) = v by omega] at this
 rw [hi, bnd_some_eq]
end Go.Fn
namespace Go.Fn
open Go Go.Tc
section
variable {m : GMachine} {s q : Nat}
structure Rm (s q n : Nat) (c : GConfig) (h : Int) (j : Nat) : Prop where
 cf : CfT s q c
 ll : c.Left.length + n ≤ 150
 lr : c.Right.length + 2 * n ≤ 150
 nj : n + j ≤ 1000
 h0 : -500 + (n : Int) ≤ h
 h1 : h ≤ 500 - (n : Int)
theorem Rm.move (M : MaI m s q) {n : Nat} {c : GConfig} {h : Int} {j : Nat} (X : Rm s q n c h j) (hn : ruleAt m c ≠ noR) : (ruleAt m c).Move = 1 ∨ (ruleAt m c).Move = -1 := (rule_in M (ruleAt_idx M X.cf.cf).2 hn).2.1
end
end Go.Fn
namespace Go.Fn
open Go Go.Tc
theorem cyc_l25 {s : Gl00Src} {n : Int} (h : SrcOk s n) (hn : n ≤ 1000000) : ∃ m r, F_spec_l25DrawMachine s = some (m, r) ∧ machB m = true ∧ m.States ≤ 100 := by
 unfold F_spec_l25DrawMachine
 obtain ⟨b, a1, sd1, e1, k1⟩ := src_one 3 h (by omega) (by omega)
 rw [e1, bnd_some_eq]
 cases b with
 | true =>
  obtain ⟨t, a, sd, m, e, hm, h1, h2, k⟩ := src_texts (L := known25) k1 (by omega) (by decide) known25_all
  unfold known25 at e
  simp only at e ⊢
  rw [cond_true, e, bnd_some_eq]
  simp only
  rw [hm, bnd_some_eq]
  exact ⟨m, _, rfl, h1, h2⟩
 | false =>
  obtain ⟨u, a4, sd4, e4, u0, u1, k4⟩ := src_pick 3 k1 (by omega) (by omega)
  simp only at e4 k4 ⊢
  rw [cond_false, e4, bnd_some_eq]
  simp only
  rw [w64_in (n := 1 + u) (by omega) (by omega)]
  obtain ⟨m, a, sd, e, h1, h2, k⟩ := src_size k4 (by omega) (p1 := 2) (p2 := 1 + u) (by omega) (by omega)
  rw [e, bnd_some_eq]
  exact ⟨m, _, rfl, h1, h2⟩
theorem cyc_l27 {s : Gl00Src} {n : Int} (h : SrcOk s n) (hn : n ≤ 1000000) : ∃ m r, F_spec_l27DrawMachine s = some (m, r) ∧ machB m = true ∧ m.States ≤ 100 := by
 unfold F_spec_l27DrawMachine
 obtain ⟨b, a1, sd1, e1, b0, b1, k1⟩ := src_pick 3 h (by omega) (by omega)
 rw [e1, bnd_some_eq]
 simp only
 by_cases hb : 0 < b
 ·obtain ⟨t, a, sd, m, e, hm, h1, h2, k⟩ := src_texts (L := known27) k1 (by omega) (by decide) known27_all
  unfold known27 at e
  rw [decide_eq_true hb, cond_true, e, bnd_some_eq]
  simp only
  rw [hm, bnd_some_eq]
  exact ⟨m, _, rfl, h1, h2⟩
 ·obtain ⟨u, a4, sd4, e4, u0, u1, k4⟩ := src_pick 2 k1 (by omega) (by omega)
  simp only at e4 k4
  rw [decide_eq_false hb, cond_false, e4, bnd_some_eq]
  simp only
  rw [w64_in (n := 2 + u) (by omega) (by omega)]
  obtain ⟨m, a, sd, e, h1, h2, k⟩ := src_size k4 (by omega) (p1 := 2) (p2 := 2 + u) (by omega) (by omega)
  rw [e, bnd_some_eq]
  exact ⟨m, _, rfl, h1, h2⟩
theorem cyc_runner {c : List (Ik .u8)} (h : Bytes c) : ∃ m, F_spec_R8Runner c = some m ∧ machB m = true ∧ m.States ≤ 100 := by
 unfold F_spec_R8Runner F_spec_l00From F_spec_l31DrawMachine
 rw [bnd_some_eq]
 obtain ⟨v, a, sd, e, v0, v1, k⟩ := src_pick (s := ⟨c, 0, ⟨0⟩⟩) (n := 0) 4 ⟨h, by simp, by simp⟩ (by omega) (by omega)
 simp only at e k ⊢
 rw [e, bnd_some_eq]
 simp only
 by_cases h0 : v = 0
 ·obtain ⟨m, a, sd, e, h1, h2, _⟩ := src_known k (by omega)
  rw [decide_eq_true h0, cond_true, e, bnd_some_eq, bnd_some_eq]
  exact ⟨m, rfl, h1, h2⟩
 rw [decide_eq_false h0, cond_false]
 by_cases h1 : v = 1
 ·obtain ⟨m, r, e, h1'⟩ := cyc_l27 k (by omega)
  rw [decide_eq_true h1, cond_true, e, bnd_some_eq, bnd_some_eq]
  exact ⟨m, rfl, h1'⟩
 rw [decide_eq_false h1, cond_false]
 by_cases h2 : v = 2
 ·obtain ⟨m, r, e, h1'⟩ := cyc_l25 k (by omega)
  rw [decide_eq_true h2, cond_true, e, bnd_some_eq, bnd_some_eq]
  exact ⟨m, rfl, h1'⟩
 rw [decide_eq_false h2, cond_false]
 obtain ⟨u, a4, sd4, e4, u0, u1, k4⟩ := src_pick 2 k (by omega) (by omega)
 simp only at e4 k4
 rw [e4, bnd_some_eq]
 simp only
 rw [w64_in (n := 1 + u) (by omega) (by omega)]
 obtain ⟨m, a, sd, e, h1, h2, k⟩ := src_size k4 (by omega) (p1 := 2) (p2 := 1 + u) (by omega) (by omega)
 rw [e, bnd_some_eq, bnd_some_eq]
 exact ⟨m, rfl, h1, h2⟩
section
variable {m : GMachine} {s q : Nat}
end
end Go.Fn
namespace Go.Fn
open Go Go.Tc
theorem Sts.conf {m : GMachine} {s p : Nat} (M : MaI m s p) {n : Nat} {c x : GConfig} (h : Sts m n c x) (hT : CfT s p c) : CfT s p x := by
 induction h with
 | zero _ => exact hT
 | succ g1 e g2 _ ih =>
  subst e
  exact ih (hT.step M g1 g2)
theorem fm_len {m : GMachine} (hm : machB m = true) {f : GFormula} {counts : List Int} {ns : List Nat} (C : FmC f counts ns) (hf : formB m f = true) {c : GConfig} (h : F_impl_FormulaAt m f counts = some (c, 0)) : c.Left.length ≤ 150 ∧ c.Right.length ≤ 150 := by
 obtain ⟨h1, _, _, _, h5⟩ := formB_in hf
 have fr := C.fr
 have h0 := fr.h0
 have hr := fr.hr
 have lw := fr.lw
 have hk : f.Head.toNat < f.Walls.length := by omega
 have hsp := congrArg List.length (cells_split f ns hk)
 unfold sgF at hsp
 simp only [List.length_append] at hsp
 have hlo : 0 ≤ ((preF f ns f.Head.toNat).length : Int) + f.At := by
  rcases h5 with h5 | h5 | h5
  ·omega
  ·omega
  ·have hne := pre_ne C (k := f.Head.toNat) (by omega) (by omega)
   have : 0 < (preF f ns f.Head.toNat).length := List.length_pos_iff.2 hne
   omega
 have e := fm_at hm C hf (h := (((preF f ns f.Head.toNat).length : Int) + f.At).toNat) (by omega) (by omega)
 rw [h] at e
 have e2 := congrArg Prod.fst (Option.some.inj e)
 simp only at e2
 have tot := C.tot
 rw [e2]
 unfold abC
 simp only
 have a1 := trimL_len ((cellsF f ns).take (((preF f ns f.Head.toNat).length : Int) + f.At).toNat).reverse
 have a2 := trimL_len ((cellsF f ns).drop (((preF f ns f.Head.toNat).length : Int) + f.At).toNat)
 rw [List.length_reverse, List.length_take] at a1
 rw [List.length_drop] at a2
 omega
theorem im_shift {m : GMachine} (hm : machB m = true) {q side : Int} {w : List Int} (hq : 0 ≤ q ∧ q ≤ m.States - 1) (hs : side = 1 ∨ side = -1) (hw : 1 ≤ w.length ∧ w.length ≤ 20) (hx : ∀ x ∈ w, 0 ≤ x ∧ x ≤ m.Symbols - 1) : F_impl_ShiftOver m q w side = F_impl_shiftOver m q w side := by
 obtain ⟨s, p, M⟩ := machB_mai hm
 have hS : 2 ≤ m.Symbols ∧ m.Symbols ≤ 6 := by rw [M.hs]; have := M.b1; have := M.b2; omega
 have hQ : 1 ≤ m.States ∧ m.States ≤ 1000 := by rw [M.hq]; have := M.b3; have := M.b4; omega
 unfold F_impl_ShiftOver
 have hwd : F_impl_IsWord w = some true := by
  rw [impl_word w (by omega)]
  congr 1
  unfold wordB
  rw [decide_eq_true (by omega), Bool.true_and]
  exact List.all_eq_true.2 fun x h => inB_iff.2 (by have := hx x h; omega)
 have hal : (w.all fun x => inB x 0 (m.Symbols - 1)) = true := List.all_eq_true.2 fun x h => inB_iff.2 (hx x h)
 rw [impl_mach m (machB_sml hm), bnd_some_eq, hm, Bool.not_true, cond_false, hwd, bnd_some_eq, Bool.not_true, cond_false, decide_eq_false (by omega), cond_false, bnd_some_eq]
 simp only [Out.elim]
 rw [impl_in, bnd_some_eq, w64_in (n := m.States - 1) (by omega) (by omega), inB_iff.2 hq, Bool.not_true, cond_false, impl_allWithin _ _ _ (by omega), bnd_some_eq, w64_in (n := m.Symbols - 1) (by omega) (by omega), hal, Bool.not_true, cond_false]
 have he : ∀ o : Option (List Int × Int × Int), (bnd o fun r => some (r.1, r.2.1, r.2.2)) = o := fun o => by cases o <;> rfl
 rcases hs with rfl | rfl
 ·rw [decide_eq_false (by decide), cond_false, he]
 ·rw [decide_eq_true (by decide), cond_true, decide_eq_false (by decide), cond_false, he]
theorem law_FormulaSteps (c d : List (Ik .u8)) (w0 : Wf.wf c) (w1 : Wf.wf d) : F_laws_FnFormulaSteps c d = some true := by
 unfold F_laws_FnFormulaSteps
 rw [r8_long, bnd_some_eq]
 by_cases hl : 1048576 < c.length
 ·rw [decide_eq_true hl, Bool.true_or, cond_true]
 rw [decide_eq_false hl, Bool.false_or]
 by_cases hl2 : 1048576 < d.length
 ·rw [decide_eq_true hl2, cond_true]
 rw [decide_eq_false hl2, cond_false]
 have hc := bytes_of w0 (by omega)
 have hd := bytes_of w1 (by omega)
 obtain ⟨m, e1, hm, hq⟩ := cyc_runner hc
 obtain ⟨f, cs, ns, e2, C, hT, hf, h2⟩ := src_formula hd hm hq
 obtain ⟨x0, r, e3, e4, hS⟩ := stp_all hm C hT hf h2
 obtain ⟨s, p, M⟩ := machB_mai hm
 have hcf := fm_conf hm C hf e3
 have hX := CfT.of M hcf
 have hv := fm_valid hm C.fr hf
 have hll := hX.cf.ll
 have hrl := hX.cf.rl
 rw [e1, bnd_some_eq, e2, bnd_some_eq]
 simp only
 rw [e3, bnd_some_eq, e4, bnd_some_eq, hv, bnd_some_eq]
 simp only
 rw [decide_eq_false (by simp), cond_false, Bool.not_true, cond_false, bnd_some_eq]
 simp only [Out.elim]
 obtain ⟨g, kind, code⟩ := r
 rcases hS with h | ⟨h, hn⟩ | ⟨h, x, hx, hcase⟩
 ·simp only at h ⊢
  subst h
  rw [decide_eq_true (by decide), cond_true, impl_StepM hm M hcf, bnd_some_eq]
  rfl
 ·simp only at h ⊢
  subst h
  rw [decide_eq_true (by decide), cond_true, impl_StepM hm M hcf, bnd_some_eq, if_pos hn]
  rfl
 ·simp only at h hx hcase ⊢
  subst h
  rw [decide_eq_false (by decide), cond_false, hx, bnd_some_eq]
  simp only
  rw [decide_eq_false (by decide), cond_false]
  rcases hcase with ⟨rfl, hn, rfl⟩ | ⟨rfl, rfl⟩ | ⟨rfl, k, side, w, j, hkR, hside, hsh, j1, j2, hst⟩
  ·rw [decide_eq_true rfl, cond_true, impl_StepM hm M hcf, bnd_some_eq, if_neg hn]
   have hg := stepC_len (ruleAt m x0) x0
   have h150 := fm_len hm C hf e3
   have hk : small (stepC (ruleAt m x0) x0) = true := by
    unfold small
    rw [decide_eq_true (by omega), decide_eq_true (by omega)]
    rfl
   rw [if_pos hk]
   simp only [decide_true, cond_true]
   rw [r8_config _ (by omega) (by omega)]
   rfl
  ·rw [decide_eq_false (by decide), cond_false, decide_eq_true rfl, cond_true, r8_config _ (by omega) (by omega)]
   rfl
  ·rw [decide_eq_false (by decide), cond_false, decide_eq_false (by decide), cond_false, decide_eq_true rfl, cond_true]
   obtain ⟨hqs, _, hrp, _, _⟩ := formB_in hf
   have hrw := hrp _ (List.getElem_mem hkR)
   rw [← getDl [] hkR] at hrw
   have fr := C.fr
   have r3 := fr.r3
   have lo := fr.lo
   have lc := C.lc
   have hnk := C.n1 k hkR
   have hcn := C.cn k hkR
   have hck := C.c0 k hkR
   have hsd : side = 1 ∨ side = -1 := by omega
   have hp : (cond (decide (f.At < 0)) (some (.brk ((-1), (w64 (f.Head - 1))))) (some (.brk (1, f.Head))) : Option (Out (Int × Int) Bool)) = some (.brk (side, (k : Int))) := by
    rcases hside with ⟨rfl, h1, h2⟩ | ⟨rfl, h1, h2⟩
    ·rw [decide_eq_false (by omega), cond_false, h2]
    ·rw [decide_eq_true h1, cond_true, h2, w64_in (by omega) (by omega), show ((k + 1 : Nat) : Int) - 1 = (k : Int) by omega]
   have hir : idx f.Repeats (k : Int) = some (f.Repeats.getD k []) := by rw [idx_nat hkR, getDl [] hkR]
   have hic : idx cs (k : Int) = some (cs.getD k 0) := by rw [idx_nat (by omega : k < cs.length), getDl 0 (by omega : k < cs.length)]
   have hio : idx f.Offsets (k : Int) = some (f.Offsets.getD k 0) := by rw [idx_nat (by omega : k < f.Offsets.length), getDl 0 (by omega : k < f.Offsets.length)]
   rw [hp, bnd_some_eq]
   simp only [Out.elim]
   rw [decide_eq_false (by omega), cond_false, decide_eq_false (by omega), cond_false, bnd_some_eq]
   rw [hir, bnd_some_eq, im_shift hm hqs hsd hrw.1 hrw.2, hsh, bnd_some_eq]
   simp only
   rw [decide_eq_false (by decide), cond_false, decide_eq_false (by omega), cond_false, decide_eq_false (by omega), cond_false, bnd_some_eq]
   rw [hic, bnd_some_eq, hio, bnd_some_eq, hcn, w64_in (n := ((ns.getD k 0 : Nat) : Int)) (by omega) (by omega)]
   have hle : ns.getD k 0 * j ≤ 4000 := Nat.mul_le_mul (by omega : ns.getD k 0 ≤ 20) j2
   have hge : 1 ≤ ns.getD k 0 * j := Nat.mul_le_mul hnk.1 j1
   have hmul : (j : Int) * ((ns.getD k 0 : Nat) : Int) = ((ns.getD k 0 * j : Nat) : Int) := by rw [Int.mul_comm]; exact (Int.natCast_mul _ _).symm
   rw [hmul, w64_in (by omega) (by omega)]
   have hrun := impl_run hm hcf (n := ns.getD k 0 * j) hge (by omega)
   rw [hst.go] at hrun
   have hx2 := hst.conf M hX
   have hxl := hx2.cf.ll
   have hxr := hx2.cf.rl
   unfold F_laws_r8After
   rw [decide_eq_false (by omega), cond_false, hrun, bnd_some_eq]
   simp only [decide_true, cond_true, bnd_some_eq]
   rw [r8_config _ (by omega) (by omega)]
   rfl
end Go.Fn
