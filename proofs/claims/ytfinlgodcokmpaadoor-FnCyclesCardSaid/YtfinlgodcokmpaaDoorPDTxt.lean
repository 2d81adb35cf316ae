/-
  Texts of words and of dominoes. No program in sight. No condition.
-/
import Derived.Test.YtfinlgodcokmpaaDoorPPlain
namespace Go.Fn
open Go Go.Tc
theorem wk_u8 {x : Int} (h0 : 0 ≤ x) (h1 : x ≤ 100) : wk .u8 x = x := by
  have h : x % (2 ^ IntKind.bits .u8 : Int) = x := Int.emod_eq_of_lt h0 (by show x < 256; omega)
  have hs : IntKind.signed .u8 = false := rfl
  unfold wk IntKind.wrap
  simp only [h, hs, Bool.false_and]
  rfl
theorem wk_u32 {x : Int} (h0 : 0 ≤ x) (h1 : x ≤ 100) : wk .u32 x = x := by
  have h : x % (2 ^ IntKind.bits .u32 : Int) = x := Int.emod_eq_of_lt h0 (by show x < 4294967296; omega)
  have hs : IntKind.signed .u32 = false := rfl
  unfold wk IntKind.wrap
  simp only [h, hs, Bool.false_and]
  rfl
theorem wk_i32 {x : Int} (h0 : 0 ≤ x) (h1 : x ≤ 100) : wk .i32 x = x := by
  have h : x % (2 ^ IntKind.bits .i32 : Int) = x := Int.emod_eq_of_lt h0 (by show x < 4294967296; omega)
  have hs : IntKind.signed .i32 = true := rfl
  have hn : decide (x ≥ (2 ^ (IntKind.bits .i32 - 1) : Int)) = false := decide_eq_false (by show ¬ (2147483648 : Int) ≤ x; omega)
  unfold wk IntKind.wrap
  simp only [h, hs, Bool.true_and, hn]
  rfl
theorem inB_two {x lo hi : Int} : inB x lo hi = true ↔ lo ≤ x ∧ x ≤ hi := by
  unfold inB
  simp only [Bool.and_eq_true, decide_eq_true_eq]
def digB (w : List Int) : List (Ik .u8) := w.map fun x => ⟨48 + x⟩
theorem digB_len (w : List Int) : (digB w).length = w.length := List.length_map ..
theorem strOf_size (xs : List (Ik .u8)) : (strOf xs).size = xs.length := by
  unfold strOf
  simp [ByteArray.size]
def wtxt (w : List Int) : ByteArray := if w.length = 0 then ⟨#[45]⟩ else strOf (digB w)
theorem wtxt_size (w : List Int) (h : w.length ≤ 400) : (wtxt w).size ≤ 401 := by
  unfold wtxt
  split
  · show 1 ≤ 401
    omega
  · rw [strOf_size, digB_len]
    omega
theorem cat_ok {a b : ByteArray} (h : a.size + b.size ≤ 1099511627776) : cat a b = some (a ++ b) := by unfold cat; rw [if_pos h]
theorem foldl_dig (w : List Int) (a : List (Ik .u8)) : w.foldl (fun s x => s ++ [(⟨48 + x⟩ : Ik .u8)]) a = a ++ digB w := foldl_snoc _ w a
theorem impl_dtxt {w : List Int} (hl : w.length ≤ 400) (h : ∀ x ∈ w, 0 ≤ x ∧ x ≤ 9) : F_impl_digitsText w = some (strOf (digB w)) := by
  unfold F_impl_digitsText
  have := (run_rowf (body := F_impl_digitsText_L1 w) w (by omega) (fun (a : Bool × List (Ik .u8)) i => (a.1, a.2, i)) (fun s x => (false, s.2 ++ [(⟨48 + x⟩ : Ik .u8)])) (fun i a => a.2.length = i) (fun i hi a hk => by
    refine ⟨?_, by rw [List.length_append, List.length_singleton, hk]⟩
    have hx := h w[i] (List.getElem_mem hi)
    simp only [F_impl_digitsText_L1, Int.ofNat_lt, hi, decide_true, cond_true, idx_nat hi, bnd_some_eq]
    have e1 : wk .i32 w[i] = w[i] := wk_i32 (by omega) (by omega)
    have e2 : wk .i32 (48 + w[i]) = 48 + w[i] := wk_i32 (by omega) (by omega)
    have e3 : wk .u8 (48 + w[i]) = 48 + w[i] := wk_u8 (by omega) (by omega)
    have e4 : wk .u32 (48 + w[i]) = 48 + w[i] := wk_u32 (by omega) (by omega)
    rw [e1, e2, e3, e4, decide_eq_true (by omega : 48 + w[i] ≤ 127), app_ok (by simp; omega), w64_nat1 (by omega)]
    cases a.1 <;> rfl) (true, []) rfl).1
  have hf : ∀ (l : List Int) (b : Bool) (a : List (Ik .u8)), (l.foldl (fun (s : Bool × List (Ik .u8)) x => (false, s.2 ++ [(⟨48 + x⟩ : Ik .u8)])) (b, a)).2 = a ++ digB l := by
    intro l
    induction l with
    | nil => intro b a; simp [digB]
    | cons x l ih => intro b a; rw [List.foldl_cons, ih]; simp [digB]
  have hf' := hf w true []
  rw [List.nil_append] at hf'
  rw [this, run_done (x := .brk ((w.foldl (fun (s : Bool × List (Ik .u8)) x => (false, s.2 ++ [(⟨48 + x⟩ : Ik .u8)])) (true, [])).1, (w.foldl (fun (s : Bool × List (Ik .u8)) x => (false, s.2 ++ [(⟨48 + x⟩ : Ik .u8)])) (true, [])).2, (w.length : Int))) (by simp [F_impl_digitsText_L1]), hf']
  rfl
theorem word_in {w : List Int} (h : wordB w = true) : w.length ≤ 400 ∧ ∀ x ∈ w, 0 ≤ x ∧ x ≤ 9 := by
  unfold wordB at h
  simp only [Bool.and_eq_true, decide_eq_true_eq] at h
  exact ⟨h.1, fun x hx => inB_two.1 (List.all_eq_true.1 h.2 x hx)⟩
theorem foldl_list {α β : Type} (f : α → β) : ∀ (xs : List α) (a : List β), xs.foldl (fun s x => s ++ [f x]) a = a ++ xs.map f
  | [], a => by simp
  | x :: xs, a => by rw [List.foldl_cons, foldl_list f xs]; simp
def bl (b : ByteArray) : List UInt8 := b.data.toList
theorem bl_app (a b : ByteArray) : bl (a ++ b) = bl a ++ bl b := by
  unfold bl
  rw [ByteArray.data_append, Array.toList_append]
theorem bl_ext {a b : ByteArray} (h : bl a = bl b) : a = b := by
  apply ByteArray.ext
  exact Array.ext' h
end Go.Fn
