/-
  Texts of words and of dominoes. No program in sight. No condition.
-/
import Derived.Test.YtnpkepfmicgelaaDoorPPlain
namespace Go.Fn
open Go Go.Tc
theorem wk_u8 {x : Int} (h0 : 0 ≤ x) (h1 : x ≤ 100) : wk .u8 x = x := by
  have h : x % (2 ^ IntKind.bits .u8 : Int) = x := Int.emod_eq_of_lt h0 (by show x < 256; omega)
  have hs : IntKind.signed .u8 = false := rfl
  unfold wk IntKind.wrap
  simp only [h, hs, Bool.false_and]
  rfl
theorem wk_u32 {x : Int} (h0 : 0 ≤ x) (h1 : x ≤ 100) : wk .u32 x = x := by
  have h : x % (2 ^ IntKind.bits .u32 : Int) = x := Int.emod_eq_of_lt h0 (by show x < 4294967296; omega)
  have hs : IntKind.signed .u32 = false := rfl
  unfold wk IntKind.wrap
  simp only [h, hs, Bool.false_and]
  rfl
theorem wk_i32 {x : Int} (h0 : 0 ≤ x) (h1 : x ≤ 100) : wk .i32 x = x := by
  have h : x % (2 ^ IntKind.bits .i32 : Int) = x := Int.emod_eq_of_lt h0 (by show x < 4294967296; omega)
  have hs : IntKind.signed .i32 = true := rfl
  have hn : decide (x ≥ (2 ^ (IntKind.bits .i32 - 1) : Int)) = false := decide_eq_false (by show ¬ (2147483648 : Int) ≤ x; omega)
  unfold wk IntKind.wrap
  simp only [h, hs, Bool.true_and, hn]
  rfl
theorem inB_two {x lo hi : Int} : inB x lo hi = true ↔ lo ≤ x ∧ x ≤ hi := by
  unfold inB
  simp only [Bool.and_eq_true, decide_eq_true_eq]
def digB (w : List Int) : List (Ik .u8) := w.map fun x => ⟨48 + x⟩
theorem digB_len (w : List Int) : (digB w).length = w.length := List.length_map ..
theorem strOf_size (xs : List (Ik .u8)) : (strOf xs).size = xs.length := by
  unfold strOf
  simp [ByteArray.size]
def wtxt (w : List Int) : ByteArray := if w.length = 0 then ⟨#[45]⟩ else strOf (digB w)
theorem wtxt_size (w : List Int) (h : w.length ≤ 400) : (wtxt w).size ≤ 401 := by
  unfold wtxt
  split
  · show 1 ≤ 401
    omega
  · rw [strOf_size, digB_len]
    omega
theorem cat_ok {a b : ByteArray} (h : a.size + b.size ≤ 1099511627776) : cat a b = some (a ++ b) := by unfold cat; rw [if_pos h]
theorem foldl_dig (w : List Int) (a : List (Ik .u8)) : w.foldl (fun s x => s ++ [(⟨48 + x⟩ : Ik .u8)]) a = a ++ digB w := foldl_snoc _ w a
theorem spec_wtxt {w : List Int} (hl : w.length ≤ 400) (h : ∀ x ∈ w, 0 ≤ x ∧ x ≤ 9) : F_spec_l03Text w = some (wtxt w) := by
  unfold F_spec_l03Text wtxt
  by_cases h0 : w.length = 0
  · rw [decide_eq_true (by omega), cond_true, if_pos h0]
  · rw [decide_eq_false (by omega), cond_false, if_neg h0]
    have := (run_rowf (body := F_spec_l03Text_L1 w) w (by omega) (fun (a : List (Ik .u8)) i => (a, i)) (fun s x => s ++ [(⟨48 + x⟩ : Ik .u8)]) (fun i a => a.length = i) (fun i hi a hk => by
      refine ⟨?_, by rw [List.length_append, List.length_singleton, hk]⟩
      have hx := h w[i] (List.getElem_mem hi)
      simp only [F_spec_l03Text_L1, Int.ofNat_lt, hi, decide_true, cond_true, idx_nat hi, bnd_some_eq]
      have e : wk .u8 (w64 (48 + w[i])) = 48 + w[i] := by
        rw [w64_in (by omega) (by omega)]
        exact wk_u8 (by omega) (by omega)
      rw [e, app_ok (by simp; omega), bnd_some_eq, w64_nat1 (by omega)]) [] rfl).1
    rw [this, foldl_dig, List.nil_append, run_done (x := .brk (digB w, (w.length : Int))) (by simp [F_spec_l03Text_L1])]
    rfl
theorem impl_dtxt {w : List Int} (hl : w.length ≤ 400) (h : ∀ x ∈ w, 0 ≤ x ∧ x ≤ 9) : F_impl_digitsText w = some (strOf (digB w)) := by
  unfold F_impl_digitsText
  have := (run_rowf (body := F_impl_digitsText_L1 w) w (by omega) (fun (a : Bool × List (Ik .u8)) i => (a.1, a.2, i)) (fun s x => (false, s.2 ++ [(⟨48 + x⟩ : Ik .u8)])) (fun i a => a.2.length = i) (fun i hi a hk => by
    refine ⟨?_, by rw [List.length_append, List.length_singleton, hk]⟩
    have hx := h w[i] (List.getElem_mem hi)
    simp only [F_impl_digitsText_L1, Int.ofNat_lt, hi, decide_true, cond_true, idx_nat hi, bnd_some_eq]
    have e1 : wk .i32 w[i] = w[i] := wk_i32 (by omega) (by omega)
    have e2 : wk .i32 (48 + w[i]) = 48 + w[i] := wk_i32 (by omega) (by omega)
    have e3 : wk .u8 (48 + w[i]) = 48 + w[i] := wk_u8 (by omega) (by omega)
    have e4 : wk .u32 (48 + w[i]) = 48 + w[i] := wk_u32 (by omega) (by omega)
    rw [e1, e2, e3, e4, decide_eq_true (by omega : 48 + w[i] ≤ 127), app_ok (by simp; omega), w64_nat1 (by omega)]
    cases a.1 <;> rfl) (true, []) rfl).1
  have hf : ∀ (l : List Int) (b : Bool) (a : List (Ik .u8)), (l.foldl (fun (s : Bool × List (Ik .u8)) x => (false, s.2 ++ [(⟨48 + x⟩ : Ik .u8)])) (b, a)).2 = a ++ digB l := by
    intro l
    induction l with
    | nil => intro b a; simp [digB]
    | cons x l ih => intro b a; rw [List.foldl_cons, ih]; simp [digB]
  have hf' := hf w true []
  rw [List.nil_append] at hf'
  rw [this, run_done (x := .brk ((w.foldl (fun (s : Bool × List (Ik .u8)) x => (false, s.2 ++ [(⟨48 + x⟩ : Ik .u8)])) (true, [])).1, (w.foldl (fun (s : Bool × List (Ik .u8)) x => (false, s.2 ++ [(⟨48 + x⟩ : Ik .u8)])) (true, [])).2, (w.length : Int))) (by simp [F_impl_digitsText_L1]), hf']
  rfl
theorem impl_wtxt {w : List Int} (hl : w.length ≤ 400) (h : ∀ x ∈ w, 0 ≤ x ∧ x ≤ 9) : F_impl_wordText w = some (wtxt w) := by
  unfold F_impl_wordText wtxt
  by_cases h0 : w.length = 0
  · rw [decide_eq_true (by omega), cond_true, if_pos h0]
  · rw [decide_eq_false (by omega), cond_false, if_neg h0, impl_dtxt hl h, bnd_some_eq]
/-! ### Dominoes -/
def dtxt (d : GDomino) : ByteArray := (wtxt d.Top ++ ⟨#[47]⟩) ++ wtxt d.Bottom
theorem word_in {w : List Int} (h : wordB w = true) : w.length ≤ 400 ∧ ∀ x ∈ w, 0 ≤ x ∧ x ≤ 9 := by
  unfold wordB at h
  simp only [Bool.and_eq_true, decide_eq_true_eq] at h
  exact ⟨h.1, fun x hx => inB_two.1 (List.all_eq_true.1 h.2 x hx)⟩
theorem dom_in {d : GDomino} (h : domB d = true) : wordB d.Top = true ∧ wordB d.Bottom = true := by
  unfold domB at h
  simp only [Bool.and_eq_true] at h
  exact h.1
theorem dtxt_size {d : GDomino} (h : domB d = true) : (dtxt d).size ≤ 803 := by
  obtain ⟨h1, h2⟩ := dom_in h
  have a := wtxt_size d.Top (word_in h1).1
  have b := wtxt_size d.Bottom (word_in h2).1
  unfold dtxt
  rw [ByteArray.size_append, ByteArray.size_append]
  show (wtxt d.Top).size + 1 + (wtxt d.Bottom).size ≤ 803
  omega
def spF (s : ByteArray × Bool) (d : GDomino) : ByteArray × Bool := ((cond s.2 (s.1 ++ ⟨#[32]⟩) s.1) ++ dtxt d, true)
theorem all_dom {ds : List GDomino} (h : domsB ds = true) : ∀ d ∈ ds, domB d = true := by
  unfold domsB at h
  simp only [Bool.and_eq_true] at h
  exact List.all_eq_true.1 h.2
theorem spec_txt {ds : List GDomino} (h : domsB ds = true) : F_spec_l32Text ds = some (ds.foldl spF (⟨#[]⟩, false)).1 := by
  have hl := domsB_len h
  have ha := all_dom h
  unfold F_spec_l32Text
  have := (run_rowf (body := F_spec_l32Text_L1 ds) ds (by omega) (fun (a : ByteArray × Bool) i => (a.1, i)) spF (fun i a => a.1.size ≤ 1000 * i ∧ a.2 = decide (0 < i)) (fun i hi a hk => by
    have hd := ha _ (List.getElem_mem hi)
    have hsz := dtxt_size hd
    obtain ⟨k1, k2⟩ := hk
    obtain ⟨w1, w2⟩ := dom_in hd
    have s1 := wtxt_size ds[i].Top (word_in w1).1
    have s2 := wtxt_size ds[i].Bottom (word_in w2).1
    have z1 : (⟨#[32]⟩ : ByteArray).size = 1 := rfl
    have z2 : (⟨#[47]⟩ : ByteArray).size = 1 := rfl
    refine ⟨?_, ?_, by show true = _; rw [decide_eq_true (by omega)]⟩
    · simp only [F_spec_l32Text_L1, Int.ofNat_lt, hi, decide_true, cond_true, idx_nat hi, bnd_some_eq]
      have e : (cond (decide (0 < (i : Int))) (bnd (cat a.1 (⟨#[32]⟩ : ByteArray)) fun z7 => some (.brk z7)) (some (.brk a.1)) : Option (Out ByteArray ByteArray)) = some (.brk (cond a.2 (a.1 ++ ⟨#[32]⟩) a.1)) := by
        rw [k2]
        by_cases h0 : 0 < i
        · rw [decide_eq_true h0, decide_eq_true (by omega : 0 < (i : Int)), cond_true, cond_true, cat_ok (by omega), bnd_some_eq]
        · rw [decide_eq_false h0, decide_eq_false (by omega : ¬ 0 < (i : Int)), cond_false, cond_false]
      rw [e, bnd_some_eq]
      simp only [Out.elim]
      have hc : (cond a.2 (a.1 ++ ⟨#[32]⟩) a.1).size ≤ 1000 * i + 1 := by
        cases a.2
        · rw [cond_false]; omega
        · rw [cond_true, ByteArray.size_append]; omega
      rw [spec_wtxt (word_in w1).1 (word_in w1).2, bnd_some_eq, cat_ok (by omega), bnd_some_eq, spec_wtxt (word_in w2).1 (word_in w2).2, bnd_some_eq, cat_ok (by rw [ByteArray.size_append]; omega), bnd_some_eq]
      have hdt : wtxt ds[i].Top ++ ⟨#[47]⟩ ++ wtxt ds[i].Bottom = dtxt ds[i] := rfl
      rw [hdt, cat_ok (by omega), bnd_some_eq, w64_nat1 (by omega)]
      rfl
    · show ((cond a.2 (a.1 ++ ⟨#[32]⟩) a.1) ++ dtxt ds[i]).size ≤ _
      rw [ByteArray.size_append]
      cases a.2
      · rw [cond_false]; omega
      · rw [cond_true, ByteArray.size_append]; omega) (⟨#[]⟩, false) ⟨Nat.le_refl _, rfl⟩).1
  rw [this, run_done (x := .brk ((ds.foldl spF (⟨#[]⟩, false)).1, (ds.length : Int))) (by simp [F_spec_l32Text_L1])]
  rfl
theorem foldl_list {α β : Type} (f : α → β) : ∀ (xs : List α) (a : List β), xs.foldl (fun s x => s ++ [f x]) a = a ++ xs.map f
  | [], a => by simp
  | x :: xs, a => by rw [List.foldl_cons, foldl_list f xs]; simp
theorem impl_parts {ds : List GDomino} (h : domsB ds = true) : run (F_impl_DominoesText_L1 ds) ([], 0) = some (.brk (ds.map dtxt, (ds.length : Int))) := by
  have hl := domsB_len h
  have ha := all_dom h
  have := (run_rowf (body := F_impl_DominoesText_L1 ds) ds (by omega) (fun (a : List ByteArray) i => (a, i)) (fun s d => s ++ [dtxt d]) (fun i a => a.length = i) (fun i hi a hk => by
    have hd := ha _ (List.getElem_mem hi)
    obtain ⟨w1, w2⟩ := dom_in hd
    have s1 := wtxt_size ds[i].Top (word_in w1).1
    have s2 := wtxt_size ds[i].Bottom (word_in w2).1
    have z2 : (⟨#[47]⟩ : ByteArray).size = 1 := rfl
    refine ⟨?_, by rw [List.length_append, List.length_singleton, hk]⟩
    simp only [F_impl_DominoesText_L1, Int.ofNat_lt, hi, decide_true, cond_true, idx_nat hi, bnd_some_eq]
    rw [impl_wtxt (word_in w1).1 (word_in w1).2, bnd_some_eq, cat_ok (by omega), bnd_some_eq, impl_wtxt (word_in w2).1 (word_in w2).2, bnd_some_eq, cat_ok (by rw [ByteArray.size_append]; omega), bnd_some_eq, app_ok (by simp; omega), bnd_some_eq, w64_nat1 (by omega)]
    rfl) [] rfl).1
  rw [this, foldl_list, List.nil_append, run_done (x := .brk (ds.map dtxt, (ds.length : Int))) (by simp [F_impl_DominoesText_L1])]
def bl (b : ByteArray) : List UInt8 := b.data.toList
theorem bl_app (a b : ByteArray) : bl (a ++ b) = bl a ++ bl b := by
  unfold bl
  rw [ByteArray.data_append, Array.toList_append]
theorem bl_ext {a b : ByteArray} (h : bl a = bl b) : a = b := by
  apply ByteArray.ext
  exact Array.ext' h
theorem spF_tail : ∀ (ds : List GDomino) (a : ByteArray), bl (ds.foldl spF (a, true)).1 = bl a ++ Lib.joinTail [32] (ds.map fun d => bl (dtxt d))
  | [], a => by simp [Lib.joinTail]
  | d :: ds, a => by
    rw [List.foldl_cons]
    show bl (ds.foldl spF ((a ++ ⟨#[32]⟩) ++ dtxt d, true)).1 = _
    rw [spF_tail ds, bl_app, bl_app]
    have : bl (⟨#[32]⟩ : ByteArray) = [32] := rfl
    rw [this]
    simp [Lib.joinTail]
theorem spF_join (ds : List GDomino) : bl (ds.foldl spF (⟨#[]⟩, false)).1 = Lib.join ((ds.map dtxt).map bl) [32] := by
  cases ds with
  | nil => rfl
  | cons d ds =>
    rw [List.foldl_cons, List.map_cons, List.map_cons, Lib.join_cons]
    show bl (ds.foldl spF ((⟨#[]⟩ : ByteArray) ++ dtxt d, true)).1 = _
    rw [spF_tail, bl_app, List.map_map]
    rfl
theorem spF_size {ds : List GDomino} (ha : ∀ d ∈ ds, domB d = true) : ∀ (a : ByteArray × Bool), (ds.foldl spF a).1.size ≤ a.1.size + 1000 * ds.length := by
  induction ds with
  | nil => intro a; simp
  | cons d ds ih =>
    intro a
    rw [List.foldl_cons]
    have h1 := ih (fun e he => ha e (List.mem_cons_of_mem _ he)) (spF a d)
    have h2 := dtxt_size (ha d (List.mem_cons_self ..))
    have z1 : (⟨#[32]⟩ : ByteArray).size = 1 := rfl
    have h3 : (spF a d).1.size ≤ a.1.size + 1000 := by
      show ((cond a.2 (a.1 ++ ⟨#[32]⟩) a.1) ++ dtxt d).size ≤ _
      rw [ByteArray.size_append]
      cases a.2
      · rw [cond_false]; omega
      · rw [cond_true, ByteArray.size_append]; omega
    rw [List.length_cons]
    omega
end Go.Fn
