/-
  Machines that are drawn for runs (R8Runner). No program in sight. No condition.
-/
import Derived.Test.YtfinlgodcokmpaaDoorPMDraw
namespace Go.Fn
open Go Go.Tc
def known25 : List ByteArray := [(⟨#[49, 82, 48, 44, 49, 82, 48]⟩ : ByteArray), (⟨#[48, 82, 48, 44, 48, 82, 48]⟩ : ByteArray), (⟨#[49, 76, 48, 44, 48, 82, 48]⟩ : ByteArray), (⟨#[49, 82, 49, 44, 45, 45, 45, 59, 49, 76, 48, 44, 48, 82, 49]⟩ : ByteArray), (⟨#[49, 82, 49, 44, 48, 76, 48, 59, 49, 76, 48, 44, 49, 82, 49]⟩ : ByteArray), (⟨#[48, 76, 49, 44, 49, 82, 48, 59, 49, 82, 48, 44, 48, 76, 49]⟩ : ByteArray), (⟨#[49, 82, 49, 44, 48, 82, 49, 59, 49, 76, 48, 44, 48, 76, 48]⟩ : ByteArray), (⟨#[49, 76, 49, 44, 49, 76, 49, 59, 49, 82, 48, 44, 48, 82, 48]⟩ : ByteArray), (⟨#[49, 82, 49, 44, 49, 76, 49, 59, 48, 76, 48, 44, 48, 82, 49]⟩ : ByteArray)]
def known27 : List ByteArray := [(⟨#[49, 76, 49, 44, 49, 82, 48, 59, 49, 82, 48, 44, 49, 76, 49]⟩ : ByteArray), (⟨#[49, 76, 49, 44, 48, 82, 48, 59, 49, 82, 48, 44, 49, 76, 49]⟩ : ByteArray), (⟨#[48, 76, 49, 44, 49, 82, 48, 59, 49, 82, 48, 44, 49, 76, 49]⟩ : ByteArray), (⟨#[49, 82, 49, 44, 49, 82, 48, 59, 48, 76, 50, 44, 49, 82, 49, 59, 49, 82, 48, 44, 49, 76, 50]⟩ : ByteArray), (⟨#[49, 76, 49, 44, 49, 82, 48, 59, 49, 82, 48, 44, 48, 76, 49]⟩ : ByteArray), (⟨#[49, 76, 49, 44, 49, 82, 48, 59, 48, 82, 50, 44, 49, 76, 49, 59, 49, 82, 48, 44, 49, 82, 50]⟩ : ByteArray), (⟨#[49, 82, 49, 44, 49, 76, 50, 59, 49, 76, 48, 44, 49, 82, 49, 59, 49, 82, 48, 44, 48, 76, 50]⟩ : ByteArray)]
set_option maxRecDepth 100000 in
theorem known25_all : known25.all knownOk = true := by decide +kernel
set_option maxRecDepth 100000 in
theorem known27_all : known27.all knownOk = true := by decide +kernel
theorem read_ok {t : ByteArray} (h1 : knownOk t = true) : ∃ m, F_spec_l05Read t = some (m, true) ∧ machB m = true ∧ m.States ≤ 100 := by
  unfold knownOk at h1
  split at h1
  · rename_i m b e
    rw [Bool.and_eq_true, Bool.and_eq_true, decide_eq_true_eq] at h1
    exact ⟨m, by rw [le_spec_l05Read t _ e, h1.1], h1.2⟩
  · cases h1
theorem src_texts {s : Gl00Src} {n : Int} {L : List ByteArray} (h : SrcOk s n) (hn : n ≤ 1000000000) (hL : 1 ≤ L.length ∧ L.length ≤ 200) (ha : L.all knownOk = true) : ∃ t a sd m, F_spec_l00Src_text s L = some (t, (a, sd)) ∧ F_spec_l05Read t = some (m, true) ∧ machB m = true ∧ m.States ≤ 100 ∧ SrcOk ⟨s.code, a, sd⟩ (n + 1) := by
  obtain ⟨v, a, sd, e, v0, v1, k⟩ := src_pick (L.length : Int) h (by omega) (by omega)
  have hlt : v.toNat < L.length := by omega
  obtain ⟨m, hm, h1, h2⟩ := read_ok (List.all_eq_true.1 ha _ (List.getElem_mem hlt))
  refine ⟨L[v.toNat], a, sd, m, ?_, hm, h1, h2, k⟩
  unfold F_spec_l00Src_text
  rw [e, bnd_some_eq]
  simp only
  have hi : idx L v = some L[v.toNat] := by
    have := idx_nat hlt
    rwa [show ((v.toNat : Nat) : Int) = v by omega] at this
  rw [hi, bnd_some_eq]
theorem src_l25 {s : Gl00Src} {n : Int} (h : SrcOk s n) (hn : n ≤ 1000000) : ∃ m r, F_spec_l25DrawMachine s = some (m, r) ∧ machB m = true := by
  unfold F_spec_l25DrawMachine
  obtain ⟨b, a1, sd1, e1, k1⟩ := src_one 3 h (by omega) (by omega)
  rw [e1, bnd_some_eq]
  cases b with
  | true =>
    obtain ⟨t, a, sd, m, e, hm, h1, h2, k⟩ := src_texts (L := known25) k1 (by omega) (by decide) known25_all
    unfold known25 at e
    simp only at e ⊢
    rw [cond_true, e, bnd_some_eq]
    simp only
    rw [hm, bnd_some_eq]
    exact ⟨m, _, rfl, h1⟩
  | false =>
    obtain ⟨u, a4, sd4, e4, u0, u1, k4⟩ := src_pick 3 k1 (by omega) (by omega)
    simp only at e4 k4 ⊢
    rw [cond_false, e4, bnd_some_eq]
    simp only
    rw [w64_in (n := 1 + u) (by omega) (by omega)]
    obtain ⟨m, a, sd, e, h1, h2, k⟩ := src_size k4 (by omega) (p1 := 2) (p2 := 1 + u) (by omega) (by omega)
    rw [e, bnd_some_eq]
    exact ⟨m, _, rfl, h1⟩
theorem src_l27 {s : Gl00Src} {n : Int} (h : SrcOk s n) (hn : n ≤ 1000000) : ∃ m r, F_spec_l27DrawMachine s = some (m, r) ∧ machB m = true := by
  unfold F_spec_l27DrawMachine
  obtain ⟨b, a1, sd1, e1, b0, b1, k1⟩ := src_pick 3 h (by omega) (by omega)
  rw [e1, bnd_some_eq]
  simp only
  by_cases hb : 0 < b
  · obtain ⟨t, a, sd, m, e, hm, h1, h2, k⟩ := src_texts (L := known27) k1 (by omega) (by decide) known27_all
    unfold known27 at e
    rw [decide_eq_true hb, cond_true, e, bnd_some_eq]
    simp only
    rw [hm, bnd_some_eq]
    exact ⟨m, _, rfl, h1⟩
  · obtain ⟨u, a4, sd4, e4, u0, u1, k4⟩ := src_pick 2 k1 (by omega) (by omega)
    simp only at e4 k4
    rw [decide_eq_false hb, cond_false, e4, bnd_some_eq]
    simp only
    rw [w64_in (n := 2 + u) (by omega) (by omega)]
    obtain ⟨m, a, sd, e, h1, h2, k⟩ := src_size k4 (by omega) (p1 := 2) (p2 := 2 + u) (by omega) (by omega)
    rw [e, bnd_some_eq]
    exact ⟨m, _, rfl, h1⟩
theorem src_r8Runner {c : List (Ik .u8)} (h : Bytes c) : ∃ m, F_spec_R8Runner c = some m ∧ machB m = true := by
  unfold F_spec_R8Runner F_spec_l00From F_spec_l31DrawMachine
  rw [bnd_some_eq]
  obtain ⟨v, a, sd, e, v0, v1, k⟩ := src_pick (s := ⟨c, 0, ⟨0⟩⟩) (n := 0) 4 ⟨h, by simp, by simp⟩ (by omega) (by omega)
  simp only at e k ⊢
  rw [e, bnd_some_eq]
  simp only
  by_cases h0 : v = 0
  · obtain ⟨m, a, sd, e, h1, h2, _⟩ := src_known k (by omega)
    rw [decide_eq_true h0, cond_true, e, bnd_some_eq, bnd_some_eq]
    exact ⟨m, rfl, h1⟩
  rw [decide_eq_false h0, cond_false]
  by_cases h1 : v = 1
  · obtain ⟨m, r, e, h1'⟩ := src_l27 k (by omega)
    rw [decide_eq_true h1, cond_true, e, bnd_some_eq, bnd_some_eq]
    exact ⟨m, rfl, h1'⟩
  rw [decide_eq_false h1, cond_false]
  by_cases h2 : v = 2
  · obtain ⟨m, r, e, h1'⟩ := src_l25 k (by omega)
    rw [decide_eq_true h2, cond_true, e, bnd_some_eq, bnd_some_eq]
    exact ⟨m, rfl, h1'⟩
  rw [decide_eq_false h2, cond_false]
  obtain ⟨u, a4, sd4, e4, u0, u1, k4⟩ := src_pick 2 k (by omega) (by omega)
  simp only at e4 k4
  rw [e4, bnd_some_eq]
  simp only
  rw [w64_in (n := 1 + u) (by omega) (by omega)]
  obtain ⟨m, a, sd, e, h1, h2, k⟩ := src_size k4 (by omega) (p1 := 2) (p2 := 1 + u) (by omega) (by omega)
  rw [e, bnd_some_eq, bnd_some_eq]
  exact ⟨m, rfl, h1⟩
end Go.Fn
