/-
  Texts of tiles: decimal numerals, told by digits from the right and by the kit's numeral. No program in sight. No condition.
-/
import Derived.Test.YtnpkepfmicgelaaDoorPValidTiles
import Derived.Test.YtnpkepfmicgelaaDoorPRun
import Derived.Test.YtnpkepfmicgelaaDoorLaw
namespace Go.Fn
open Go Go.Tc
theorem wk8_in {x : Int} (h0 : 0 ≤ x) (h1 : x ≤ 100) : wk .u8 x = x := by
  have h : x % (2 ^ IntKind.bits .u8 : Int) = x := Int.emod_eq_of_lt h0 (by show x < 256; omega)
  have hs : IntKind.signed .u8 = false := rfl
  unfold wk IntKind.wrap
  simp only [h, hs, Bool.false_and]
  rfl
theorem catT_ok {a b : ByteArray} (h : a.size + b.size ≤ 1099511627776) : cat a b = some (a ++ b) := by unfold cat; rw [if_pos h]
def blT (b : ByteArray) : List UInt8 := b.data.toList
theorem blT_app (a b : ByteArray) : blT (a ++ b) = blT a ++ blT b := by
  unfold blT
  rw [ByteArray.data_append, Array.toList_append]
theorem blT_ext {a b : ByteArray} (h : blT a = blT b) : a = b := by
  apply ByteArray.ext
  exact Array.ext' h
theorem blT_size (a : ByteArray) : (blT a).length = a.size := by
  unfold blT
  rw [Array.length_toList]
  rfl
/-! ### Numerals -/
/-- The digits from the right. -/
def lowD (u : Nat) : List (Ik .u8) := if h : u = 0 then [] else ⟨((48 + u % 10 : Nat) : Int)⟩ :: lowD (u / 10)
termination_by u
decreasing_by omega
theorem lowD_zero : lowD 0 = [] := by rw [lowD, dif_pos rfl]
theorem lowD_pos {u : Nat} (h : u ≠ 0) : lowD u = ⟨((48 + u % 10 : Nat) : Int)⟩ :: lowD (u / 10) := by rw [lowD, dif_neg h]
theorem lowD_len : ∀ (k u : Nat), u < 10 ^ k → (lowD u).length ≤ k
  | 0, u, h => by
    have : u = 0 := by simpa using h
    rw [this, lowD_zero]
    exact Nat.zero_le _
  | k + 1, u, h => by
    by_cases h0 : u = 0
    · rw [h0, lowD_zero]
      exact Nat.zero_le _
    · rw [lowD_pos h0, List.length_cons]
      have := lowD_len k (u / 10) (by rw [Nat.pow_succ] at h; omega)
      omega
theorem lowD_dec : ∀ (k u : Nat), u ≤ k → u ≠ 0 → ((lowD u).reverse.map fun x : Ik .u8 => UInt8.ofNat x.val.toNat) = Lib.decDigits u
  | 0, u, h, h0 => absurd (by omega) h0
  | k + 1, u, h, h0 => by
    rw [lowD_pos h0, List.reverse_cons, List.map_append, Lib.decDigits]
    by_cases h1 : u < 10
    · rw [dif_pos h1, show u / 10 = 0 by omega, lowD_zero]
      simp only [List.reverse_nil, List.map_nil, List.nil_append, List.map_cons, Int.toNat_natCast]
      rw [Nat.mod_eq_of_lt h1]
    · rw [dif_neg h1, lowD_dec k (u / 10) (by omega) (by omega)]
      simp only [List.map_cons, List.map_nil, Int.toNat_natCast]
theorem impl_dec {u : Nat} (h : u ≤ 9999) : F_impl_Decimal (u : Int) = some ⟨(Lib.decDigits u).toArray⟩ := by
  unfold F_impl_Decimal fmtG
  rw [if_pos ⟨rfl, by omega, by omega⟩, bnd_some_eq, Lib.itoa_nonneg]
/-! ### Tiles -/
def dcT (x : Int) : ByteArray := ⟨(Lib.decDigits x.toNat).toArray⟩
theorem impl_dcT {x : Int} (h : 0 ≤ x ∧ x ≤ 9999) : F_impl_Decimal x = some (dcT x) := by
  have := impl_dec (u := x.toNat) (by omega)
  rwa [show ((x.toNat : Nat) : Int) = x by omega] at this
theorem dcT_size {x : Int} (h : 0 ≤ x ∧ x ≤ 9999) : (dcT x).size ≤ 4 := by
  have hs : (dcT x).size = (Lib.decDigits x.toNat).length := by
    unfold dcT
    simp [ByteArray.size]
  rw [hs]
  by_cases h0 : x.toNat = 0
  · rw [h0, Lib.decDigits_one (by omega)]
    exact Nat.le_of_ble_eq_true rfl
  · rw [← lowD_dec _ _ (Nat.le_refl _) h0, List.length_map, List.length_reverse]
    exact lowD_len 4 _ (by omega)
def ttxt (t : GTile) : ByteArray := ((((((dcT t.Left ++ ⟨#[46]⟩) ++ dcT t.Bottom) ++ ⟨#[46]⟩) ++ dcT t.Right) ++ ⟨#[46]⟩) ++ dcT t.Top)
structure TOk (t : GTile) : Prop where
  l : 0 ≤ t.Left ∧ t.Left ≤ 9999
  b : 0 ≤ t.Bottom ∧ t.Bottom ≤ 9999
  r : 0 ≤ t.Right ∧ t.Right ≤ 9999
  t : 0 ≤ t.Top ∧ t.Top ≤ 9999
theorem ttxt_size {t : GTile} (h : TOk t) : (ttxt t).size ≤ 19 := by
  have h1 := dcT_size h.l
  have h2 := dcT_size h.b
  have h3 := dcT_size h.r
  have h4 := dcT_size h.t
  have z : (⟨#[46]⟩ : ByteArray).size = 1 := rfl
  unfold ttxt
  simp only [ByteArray.size_append]
  omega
theorem inB_twoT {x lo hi : Int} : inB x lo hi = true ↔ lo ≤ x ∧ x ≤ hi := by
  unfold inB
  simp only [Bool.and_eq_true, decide_eq_true_eq]
theorem all_tok {ts : List GTile} (h : validT ts = true) : ts.length ≤ 300 ∧ ∀ t ∈ ts, TOk t := by
  unfold validT at h
  simp only [Bool.and_eq_true, decide_eq_true_eq] at h
  refine ⟨h.1.1.2, fun t ht => ?_⟩
  have hc := List.all_eq_true.1 h.1.2 t ht
  unfold colB at hc
  simp only [Bool.and_eq_true] at hc
  exact ⟨inB_twoT.1 hc.1.1.1, inB_twoT.1 hc.1.1.2, inB_twoT.1 hc.1.2, inB_twoT.1 hc.2⟩
def spT (s : ByteArray × Bool) (d : GTile) : ByteArray × Bool := ((cond s.2 (s.1 ++ ⟨#[32]⟩) s.1) ++ ttxt d, true)
theorem foldl_listT {α β : Type} (f : α → β) : ∀ (xs : List α) (a : List β), xs.foldl (fun s x => s ++ [f x]) a = a ++ xs.map f
  | [], a => by simp
  | x :: xs, a => by rw [List.foldl_cons, foldl_listT f xs]; simp
theorem impl_decs {t : GTile} (h : TOk t) : F_impl_decimals [t.Left, t.Bottom, t.Right, t.Top] (⟨#[46]⟩ : ByteArray) = some (ttxt t) := by
  have hx : ∀ x ∈ [t.Left, t.Bottom, t.Right, t.Top], 0 ≤ x ∧ x ≤ 9999 := by
    intro x hx
    simp only [List.mem_cons, List.not_mem_nil, or_false] at hx
    rcases hx with rfl | rfl | rfl | rfl
    · exact h.l
    · exact h.b
    · exact h.r
    · exact h.t
  unfold F_impl_decimals
  have hr : ∀ xs : List Int, xs.length ≤ 100 → (∀ x ∈ xs, 0 ≤ x ∧ x ≤ 9999) → run (F_impl_decimals_L1 xs) ([], 0) = some (.brk (xs.map dcT, (xs.length : Int))) := by
    intro xs hl hx
    have := (run_rowf (body := F_impl_decimals_L1 xs) xs (by omega) (fun (a : List ByteArray) i => (a, i)) (fun s x => s ++ [dcT x]) (fun i a => a.length = i) (fun i hi a hk => by
      refine ⟨?_, by rw [List.length_append, List.length_singleton, hk]⟩
      simp only [F_impl_decimals_L1, Int.ofNat_lt, hi, decide_true, cond_true, idx_nat hi, bnd_some_eq]
      rw [impl_dcT (hx _ (List.getElem_mem hi)), bnd_some_eq, app_ok (by simp; omega), bnd_some_eq, w64_nat1 (by omega)]) [] rfl).1
    rw [this, foldl_listT, List.nil_append, run_done (x := .brk (xs.map dcT, (xs.length : Int))) (by simp [F_impl_decimals_L1])]
  have hj : Lib.join (([t.Left, t.Bottom, t.Right, t.Top].map dcT).map (·.data.toList)) (⟨#[46]⟩ : ByteArray).data.toList = blT (ttxt t) := by
    unfold ttxt
    simp only [blT_app]
    simp [Lib.join, Lib.joinTail, blT]
  rw [hr _ (by simp) hx, bnd_some_eq]
  simp only [Out.elim]
  unfold joinG
  rw [hj, if_pos ⟨by simp, by have := ttxt_size h; rw [blT_size]; omega⟩, bnd_some_eq]
  congr 1
theorem impl_tparts {ts : List GTile} (hl : ts.length ≤ 300) (ha : ∀ t ∈ ts, TOk t) : run (F_impl_TilesText_L1 ts) ([], 0) = some (.brk (ts.map ttxt, (ts.length : Int))) := by
  have := (run_rowf (body := F_impl_TilesText_L1 ts) ts (by omega) (fun (a : List ByteArray) i => (a, i)) (fun s x => s ++ [ttxt x]) (fun i a => a.length = i) (fun i hi a hk => by
    refine ⟨?_, by rw [List.length_append, List.length_singleton, hk]⟩
    simp only [F_impl_TilesText_L1, Int.ofNat_lt, hi, decide_true, cond_true, idx_nat hi, bnd_some_eq]
    rw [impl_decs (ha _ (List.getElem_mem hi)), bnd_some_eq, app_ok (by simp; omega), bnd_some_eq, w64_nat1 (by omega)]) [] rfl).1
  rw [this, foldl_listT, List.nil_append, run_done (x := .brk (ts.map ttxt, (ts.length : Int))) (by simp [F_impl_TilesText_L1])]
theorem spT_tail : ∀ (ds : List GTile) (a : ByteArray), blT (ds.foldl spT (a, true)).1 = blT a ++ Lib.joinTail [32] (ds.map fun d => blT (ttxt d))
  | [], a => by simp [Lib.joinTail]
  | d :: ds, a => by
    rw [List.foldl_cons]
    show blT (ds.foldl spT ((a ++ ⟨#[32]⟩) ++ ttxt d, true)).1 = _
    rw [spT_tail ds, blT_app, blT_app]
    have : blT (⟨#[32]⟩ : ByteArray) = [32] := rfl
    rw [this]
    simp [Lib.joinTail]
theorem spT_join (ds : List GTile) : blT (ds.foldl spT (⟨#[]⟩, false)).1 = Lib.join ((ds.map ttxt).map blT) [32] := by
  cases ds with
  | nil => rfl
  | cons d ds =>
    rw [List.foldl_cons, List.map_cons, List.map_cons, Lib.join_cons]
    show blT (ds.foldl spT ((⟨#[]⟩ : ByteArray) ++ ttxt d, true)).1 = _
    rw [spT_tail, blT_app, List.map_map]
    rfl
theorem spT_size {ds : List GTile} (ha : ∀ d ∈ ds, TOk d) : ∀ (a : ByteArray × Bool), (ds.foldl spT a).1.size ≤ a.1.size + 1000 * ds.length := by
  induction ds with
  | nil => intro a; simp
  | cons d ds ih =>
    intro a
    rw [List.foldl_cons]
    have h1 := ih (fun e he => ha e (List.mem_cons_of_mem _ he)) (spT a d)
    have h2 := ttxt_size (ha d (List.mem_cons_self ..))
    have z1 : (⟨#[32]⟩ : ByteArray).size = 1 := rfl
    have h3 : (spT a d).1.size ≤ a.1.size + 1000 := by
      show ((cond a.2 (a.1 ++ ⟨#[32]⟩) a.1) ++ ttxt d).size ≤ _
      rw [ByteArray.size_append]
      cases a.2
      · rw [cond_false]; omega
      · rw [cond_true, ByteArray.size_append]; omega
    rw [List.length_cons]
    omega
end Go.Fn
