/-
  What is drawn out of bytes: numbers within their bounds. No program in sight. No condition.
-/
import Derived.Test.YtneglngdbcefgaaFn
import Derived.Test.YtneglngdbcefgaaPure
import Derived.Test.YtneglngdbcefgaaWf
namespace Go.Fn
open Go Go.Tc
def Bytes (xs : List (Ik .u8)) : Prop := xs.length ≤ 1048576 ∧ ∀ x ∈ xs, 0 ≤ x.val ∧ x.val ≤ 255
theorem bytes_of {xs : List (Ik .u8)} (h : Wf.wf xs) (hl : xs.length ≤ 1048576) : Bytes xs := by
  refine ⟨hl, fun x hx => ?_⟩
  have := h.2 x hx
  simpa [Wf.wf, IntKind.min, IntKind.max, IntKind.signed, IntKind.bits] using this
theorem kand255 (x : Int) : 0 ≤ kand .u64 x 255 ∧ kand .u64 x 255 ≤ 255 := by
  have h : (BitVec.ofInt 64 x &&& BitVec.ofInt 64 255).toNat ≤ 255 := by
    rw [BitVec.toNat_and]
    exact Nat.and_le_right
  have e : kand .u64 x 255 = (((BitVec.ofInt 64 x &&& BitVec.ofInt 64 255).toNat : Nat) : Int) := by
    unfold kand
    show IntKind.wrap .u64 (((BitVec.ofInt 64 x &&& BitVec.ofInt 64 255).toNat : Nat) : Int) = _
    generalize (BitVec.ofInt 64 x &&& BitVec.ofInt 64 255).toNat = n at h
    simp [IntKind.wrap, IntKind.bits, IntKind.signed]
    omega
  rw [e]
  omega
/-- A source that has not come too far. -/
structure SrcOk (s : Gl00Src) (n : Int) : Prop where
  bytes : Bytes s.code
  lo : 0 ≤ s.at_
  hi : s.at_ ≤ n
theorem src_next {s : Gl00Src} {n : Int} (h : SrcOk s n) (hn : n ≤ 1099511627776) : ∃ v a sd, F_spec_l00Src_next s = some (v, (a, sd)) ∧ 0 ≤ v ∧ v ≤ 255 ∧ SrcOk ⟨s.code, a, sd⟩ (n + 1) := by
  obtain ⟨hb, h0, h1⟩ := h
  have e : s.at_ = ((s.at_.toNat : Nat) : Int) := by omega
  have ew : w64 (s.at_ + 1) = s.at_ + 1 := w64_in (by omega) (by omega)
  unfold F_spec_l00Src_next
  rw [ew]
  by_cases hlt : s.at_.toNat < s.code.length
  · have hv := hb.2 _ (List.getElem_mem hlt)
    rw [decide_eq_true (by omega : s.at_ < (s.code.length : Int)), cond_true, e, idx_nat hlt, bnd_some_eq, bnd_some_eq]
    simp only [Out.elim]
    rw [decide_eq_true (by omega), cond_true]
    refine ⟨_, _, _, rfl, ?_, ?_, hb, by simp only; omega, by simp only; omega⟩
    · rw [w64_in (by omega) (by omega)]; exact hv.1
    · rw [w64_in (by omega) (by omega)]; exact hv.2
  · rw [decide_eq_false (by omega : ¬ s.at_ < (s.code.length : Int)), cond_false, bnd_some_eq]
    simp only [Out.elim]
    rw [decide_eq_false (by omega), cond_false]
    have hk := kand255 (Int.fdiv (wk .u64 ((wk .u64 ((wk .u64 (s.seed.val * 6364136223846793005)) + (wk .u64 0))) + 1442695040888963407)) (2 ^ min (40 : Int).toNat (IntKind.bits .u64)))
    refine ⟨_, _, _, rfl, ?_, ?_, hb, by simp only; omega, by simp only; omega⟩
    · rw [w64_in (by omega) (by omega)]; exact hk.1
    · rw [w64_in (by omega) (by omega)]; exact hk.2
theorem nz_src {b : Int} (h : b ≠ 0) : nz b = some () := by unfold nz; rw [if_neg h]
theorem src_pick {s : Gl00Src} {n : Int} (k : Int) (h : SrcOk s n) (hn : n ≤ 1099511627776) (hk : k ≤ 200) : ∃ v a sd, F_spec_l00Src_pick s k = some (v, (a, sd)) ∧ 0 ≤ v ∧ (v < k ∨ v = 0) ∧ SrcOk ⟨s.code, a, sd⟩ (n + 1) := by
  unfold F_spec_l00Src_pick
  by_cases h1 : k ≤ 1
  · rw [decide_eq_true h1, cond_true]
    exact ⟨_, _, _, rfl, by omega, .inr rfl, h.bytes, h.lo, by have := h.hi; simp only; omega⟩
  · obtain ⟨v, a, sd, e, h0, h2, h3⟩ := src_next h hn
    rw [decide_eq_false h1, cond_false, e, bnd_some_eq, decide_eq_false (by omega : ¬ 200 < k), cond_false, nz_src (by omega), bnd_some_eq]
    refine ⟨_, _, _, rfl, ?_, ?_, h3⟩
    · simp only
      rw [Int.tmod_eq_emod_of_nonneg h0]
      exact Int.emod_nonneg _ (by omega)
    · left
      simp only
      rw [Int.tmod_eq_emod_of_nonneg h0]
      exact Int.emod_lt_of_pos _ (by omega)
def Let (k : Int) (w : List Int) : Prop := ∀ x ∈ w, 0 ≤ x ∧ x < k
theorem drawWord_run {c : List (Ik .u8)} {p0 : Gl00Src} (hc : p0.code = c) (k : Int) (hk : 1 ≤ k ∧ k ≤ 200) : ∀ (m : Nat) (a : Int) (sd : Ik .u64) (out : List Int) (n : Int), SrcOk ⟨c, a, sd⟩ n → n + m ≤ 1099511627776 → m ≤ 1000 → out.length + m ≤ 1000 → Let k out →
    ∃ ws a' sd', run (F_spec_l10DrawWord_L1 p0 k) (a, sd, out, (m : Int)) = some (.brk (a', sd', out ++ ws, 0)) ∧ ws.length = m ∧ Let k (out ++ ws) ∧ SrcOk ⟨c, a', sd'⟩ (n + m) := by
  intro m
  induction m with
  | zero =>
    intro a sd out n h _ _ _ hl
    refine ⟨[], a, sd, run_done ?_, rfl, by rwa [List.append_nil], by simpa using h⟩
    simp only [F_spec_l10DrawWord_L1]
    rw [decide_eq_false (by omega), cond_false, List.append_nil]
    rfl
  | succ m ih =>
    intro a sd out n h hn hm ho hl
    obtain ⟨v, a1, sd1, e, h0, h1, h2⟩ := src_pick k h (by omega) hk.2
    have hv : 0 ≤ v ∧ v < k := ⟨h0, by omega⟩
    obtain ⟨ws, a', sd', e2, l1, l2, l3⟩ := ih a1 sd1 (out ++ [v]) (n + 1) h2 (by omega) (by omega) (by simp; omega) (by
      intro x hx
      rcases List.mem_append.1 hx with hx | hx
      · exact hl x hx
      · rw [List.mem_singleton.1 hx]; exact hv)
    refine ⟨v :: ws, a', sd', ?_, by simp [l1], by simpa using l2, by rw [show n + ((m + 1 : Nat) : Int) = n + 1 + (m : Int) by omega]; exact l3⟩
    have hb : F_spec_l10DrawWord_L1 p0 k (a, sd, out, ((m + 1 : Nat) : Int)) = some (.inl (a1, sd1, out ++ [v], (m : Int))) := by
      simp only [F_spec_l10DrawWord_L1]
      rw [decide_eq_true (by omega), cond_true, hc, e, bnd_some_eq, app_ok (by simp; omega), bnd_some_eq, w64_in (by omega) (by omega), show ((m + 1 : Nat) : Int) - 1 = (m : Int) by omega]
    rw [run_next hb, e2]
    simp
theorem src_word {s : Gl00Src} {n : Int} (least most k : Int) (h : SrcOk s n) (hn : n ≤ 1000000000) (h0 : 0 ≤ least) (h1 : least ≤ most) (h2 : most ≤ 100) (hk : 1 ≤ k ∧ k ≤ 200) :
    ∃ ws a sd, F_spec_l10DrawWord s least most k = some (ws, (a, sd)) ∧ Let k ws ∧ least ≤ (ws.length : Int) ∧ (ws.length : Int) ≤ most ∧ SrcOk ⟨s.code, a, sd⟩ (n + 1 + most) := by
  unfold F_spec_l10DrawWord
  rw [w64_in (n := most - least) (by omega) (by omega), w64_in (n := most - least + 1) (by omega) (by omega)]
  obtain ⟨v, a, sd, e, v0, v1, v2⟩ := src_pick (most - least + 1) h (by omega) (by omega)
  rw [e, bnd_some_eq]
  simp only
  rw [w64_in (n := least + v) (by omega) (by omega)]
  obtain ⟨ws, a', sd', e2, l1, l2, l3⟩ := drawWord_run (p0 := s) rfl k hk (least + v).toNat a sd [] (n + 1) v2 (by omega) (by omega) (by simp; omega) (fun x hx => by simp at hx)
  rw [show (((least + v).toNat : Nat) : Int) = least + v by omega] at e2
  rw [e2, bnd_some_eq]
  simp only [Out.elim, List.nil_append] at l2 ⊢
  refine ⟨ws, a', sd', rfl, l2, by omega, by omega, l3.bytes, l3.lo, ?_⟩
  have := l3.hi
  simp only at this ⊢
  omega
/-- A rule that is drawn. -/
def RuleD (r : GRewrite) : Prop := Let 4 r.From ∧ Let 4 r.To ∧ 1 ≤ r.From.length ∧ r.From.length ≤ 3 ∧ r.To.length ≤ r.From.length + 1
theorem Let.mono {k l : Int} {w : List Int} (h : Let k w) (hkl : k ≤ l) : Let l w := fun x hx => ⟨(h x hx).1, by have := (h x hx).2; omega⟩
theorem SrcOk.mono {s : Gl00Src} {n n' : Int} (h : SrcOk s n) (hn : n ≤ n') : SrcOk s n' := ⟨h.bytes, h.lo, by have := h.hi; omega⟩
end Go.Fn
