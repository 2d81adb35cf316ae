/-
  Dominoes: words, lists of dominoes, matches; the plain law of MatchWord. No program in sight. No condition.
-/
import Derived.Test.YtabpcmbohmodnaaDoorPRun
import Derived.Test.YtabpcmbohmodnaaDoorLaw
namespace Go.Fn
open Go Go.Tc
def wordB (xs : List Int) : Bool := decide (xs.length ≤ 400) && xs.all fun x => inB x 0 9
theorem dec_le {a b : Nat} {x y : Int} (hx : x = a) (hy : y = b) : decide (x ≤ y) = decide (a ≤ b) := by
  subst hx; subst hy
  rw [decide_eq_decide]; omega
theorem dec_lt {a b : Nat} {x y : Int} (hx : x = a) (hy : y = b) : decide (x < y) = decide (a < b) := by
  subst hx; subst hy
  rw [decide_eq_decide]; omega
theorem spec_word (xs : List Int) (h : xs.length ≤ 1048576) : F_spec_l03Is xs = some (wordB xs) := by
  unfold F_spec_l03Is wordB
  rw [run_allp xs (by omega) (fun x => inB x 0 9) (.ret false) (.brk (xs.length : Int)) (fun i hi => by
    simp only [F_spec_l03Is_L1, Int.ofNat_lt, hi, decide_true, cond_true, idx_nat hi, bnd_some_eq, spec_in]
    cases inB xs[i] 0 9 <;> rfl) (by simp [F_spec_l03Is_L1])]
  rw [← dec_le (x := (xs.length : Int)) (y := 400) rfl rfl]
  cases xs.all fun x => inB x 0 9
  · simp [Out.elim]
  · simp [Out.elim]
theorem impl_word (xs : List Int) (h : xs.length ≤ 1048576) : F_impl_IsWord xs = some (wordB xs) := by
  unfold F_impl_IsWord F_impl_isLetters wordB
  rw [impl_allWithin xs 0 9 h, ← dec_le (x := (xs.length : Int)) (y := 400) rfl rfl]
  cases decide ((xs.length : Int) ≤ 400) <;> rfl
theorem impl_areWords (xs : List (List Int)) (h : Sml xs) : F_impl_areWords xs = some (xs.all wordB) := by
  unfold F_impl_areWords F_slices_ContainsFunc_SSint64_Sint64 F_slices_IndexFunc_SSint64_Sint64
  have h1 := h.1
  rw [run_find xs (by omega) (fun x => !wordB x) (fun i hi => by
    simp only [F_slices_IndexFunc_SSint64_Sint64_L1, F_impl_areWords_1, Int.ofNat_lt, hi, decide_true, cond_true, idx_nat hi, bnd_some_eq, impl_word _ (h.mem hi).1]
    cases wordB xs[i] <;> rfl) (by simp [F_slices_IndexFunc_SSint64_Sint64_L1])]
  simp only [bnd_some_eq]
  rw [find_any, any_not]
def domB (d : GDomino) : Bool := wordB d.Top && wordB d.Bottom && decide (0 < d.Top.length + d.Bottom.length)
def domsB (ds : List GDomino) : Bool := decide (1 ≤ ds.length) && decide (ds.length ≤ 80) && ds.all domB
theorem spec_doms (ds : List GDomino) (h : Sml ds) : F_spec_l32Is ds = some (domsB ds) := by
  have h1 := h.1
  unfold F_spec_l32Is domsB
  rw [dec_lt (x := (ds.length : Int)) (y := (1 : Int)) rfl rfl, dec_lt (x := (80 : Int)) (y := (ds.length : Int)) rfl rfl]
  by_cases l1 : ds.length < 1
  · rw [decide_eq_true l1, decide_eq_false (by omega : ¬ 1 ≤ ds.length)]; rfl
  by_cases l2 : 80 < ds.length
  · rw [decide_eq_false l1, decide_eq_true l2, decide_eq_false (by omega : ¬ ds.length ≤ 80), Bool.and_false]; rfl
  rw [decide_eq_false l1, decide_eq_false l2, decide_eq_true (by omega : ds.length ≤ 80), decide_eq_true (by omega : 1 ≤ ds.length)]
  simp only [cond_false, bnd_some_eq, Out.elim, Bool.true_and]
  rw [run_allp ds (by omega) domB (.ret false) (.brk (ds.length : Int)) (fun i hi => by
    have hd := h.mem hi
    have e1 := hd.1.1
    have e2 := hd.2.1
    simp only [F_spec_l32Is_L1, Int.ofNat_lt, hi, decide_true, cond_true, idx_nat hi, bnd_some_eq, spec_word _ e1, spec_word _ e2]
    rw [w64_add (by omega)]
    unfold domB
    cases wordB ds[i].Top
    · rfl
    cases wordB ds[i].Bottom
    · rfl
    by_cases e : ds[i].Top.length + ds[i].Bottom.length = 0
    · rw [decide_eq_true (by omega : ((ds[i].Top.length + ds[i].Bottom.length : Nat) : Int) = 0), decide_eq_false (by omega : ¬ 0 < ds[i].Top.length + ds[i].Bottom.length)]; rfl
    · rw [decide_eq_false (by omega : ¬ ((ds[i].Top.length + ds[i].Bottom.length : Nat) : Int) = 0), decide_eq_true (by omega : 0 < ds[i].Top.length + ds[i].Bottom.length)]; rfl) (by simp [F_spec_l32Is_L1])]
  cases ds.all domB <;> rfl
theorem impl_dom (d : GDomino) (h : Sml d) : F_impl_validDomino d = some (domB d) := by
  have e1 := h.1.1
  have e2 := h.2.1
  unfold F_impl_validDomino domB
  rw [impl_areWords [d.Top, d.Bottom] ⟨by simp, by simp only [List.mem_cons, List.not_mem_nil, or_false]; exact fun x hx => hx.elim (fun e => e ▸ h.1) (fun e => e ▸ h.2)⟩, w64_add (by omega), dec_lt (x := (0 : Int)) (y := ((d.Top.length + d.Bottom.length : Nat) : Int)) rfl rfl]
  simp only [bnd_some_eq, List.all_cons, List.all_nil, Bool.and_true]
  cases wordB d.Top && wordB d.Bottom <;> rfl
theorem impl_doms (ds : List GDomino) (h : Sml ds) : F_impl_ValidDominoes ds = some (domsB ds) := by
  have h1 := h.1
  unfold F_impl_ValidDominoes F_impl_size_impl_Domino F_slices_ContainsFunc_Simpl_Domino_impl_Domino F_slices_IndexFunc_Simpl_Domino_impl_Domino domsB
  simp only [bnd_some_eq, impl_in]
  rw [run_find ds (by omega) (fun x => !domB x) (fun i hi => by
    simp only [F_slices_IndexFunc_Simpl_Domino_impl_Domino_L1, F_impl_ValidDominoes_1, Int.ofNat_lt, hi, decide_true, cond_true, idx_nat hi, bnd_some_eq, impl_dom _ (h.mem hi)]
    cases domB ds[i] <;> rfl) (by simp [F_slices_IndexFunc_Simpl_Domino_impl_Domino_L1])]
  simp only [bnd_some_eq]
  rw [find_any, any_not]
  have : inB (ds.length : Int) 1 80 = (decide (1 ≤ ds.length) && decide (ds.length ≤ 80)) := by
    unfold inB
    rw [dec_le (x := (1 : Int)) (y := (ds.length : Int)) rfl rfl, dec_le (x := (ds.length : Int)) (y := (80 : Int)) rfl rfl]
  rw [this]
  cases decide (1 ≤ ds.length) && decide (ds.length ≤ 80) <;> rfl
theorem domsB_len {ds : List GDomino} (h : domsB ds = true) : 1 ≤ ds.length ∧ ds.length ≤ 80 := by
  unfold domsB at h
  simp only [Bool.and_eq_true, decide_eq_true_eq] at h
  exact h.1
theorem domsB_mem {ds : List GDomino} (h : domsB ds = true) {d : GDomino} (hd : d ∈ ds) : d.Top.length ≤ 400 ∧ d.Bottom.length ≤ 400 := by
  unfold domsB at h
  simp only [Bool.and_eq_true, decide_eq_true_eq] at h
  have := List.all_eq_true.1 h.2 d hd
  unfold domB wordB at this
  simp only [Bool.and_eq_true, decide_eq_true_eq] at this
  exact ⟨this.1.1.1, this.1.2.1⟩
theorem spec_same (a b : List Int) (h : a.length ≤ 1048576) : F_spec_l00Same a b = some (decide (a = b)) := by
  have := impl_equal a b h
  unfold F_slices_Equal_Sint64_int64 at this
  unfold F_spec_l00Same
  exact this
theorem ints_fit {xs : List Int} (h : xs.length ≤ 1048576) : Med xs ∧ Cnt.cnt xs ≤ 1152921504606846976 := ⟨⟨by omega, fun _ _ => trivial⟩, by rw [cnt_ints]; omega⟩
end Go.Fn
