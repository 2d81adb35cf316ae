/-
  The tilings of machines keep one head; the plain law of RunOfTiling. No program in sight. No condition.
-/
import Derived.Test.YtlbbchonoomafaaPConf
import Derived.Test.YtlbbchonoomafaaPTiling
namespace Go.Fn
open Go Go.Tc
def hc (S : Int) (xs : List Int) : Nat := xs.countP fun x => decide (S ≤ x)
def vc (M : Int) (xs : List Int) : Prop := ∀ x ∈ xs, 0 ≤ x ∧ x < M
/-- The five kinds of a machine's tiles. -/
def kindT (S M : Int) (x : GTile) : Prop :=
  (x.Left = 0 ∧ x.Right = 0 ∧ (0 ≤ x.Bottom ∧ x.Bottom < S) ∧ (0 ≤ x.Top ∧ x.Top < S)) ∨
  (x.Left = 0 ∧ (x.Right % 2 = 1 ∧ 1 ≤ x.Right) ∧ (S ≤ x.Bottom ∧ x.Bottom < M) ∧ (0 ≤ x.Top ∧ x.Top < S)) ∨
  ((x.Left % 2 = 0 ∧ 2 ≤ x.Left) ∧ x.Right = 0 ∧ (S ≤ x.Bottom ∧ x.Bottom < M) ∧ (0 ≤ x.Top ∧ x.Top < S)) ∨
  ((x.Left % 2 = 1 ∧ 1 ≤ x.Left) ∧ x.Right = 0 ∧ (0 ≤ x.Bottom ∧ x.Bottom < S) ∧ (S ≤ x.Top ∧ x.Top < M)) ∨
  (x.Left = 0 ∧ (x.Right % 2 = 0 ∧ 2 ≤ x.Right) ∧ (0 ≤ x.Bottom ∧ x.Bottom < S) ∧ (S ≤ x.Top ∧ x.Top < M))
theorem headC_in {m : GMachine} {s q : Nat} (hs : m.Symbols = s) (hq : m.States = q) (b1 : 2 ≤ s) (b2 : s ≤ 6) (b4 : q ≤ 1000) {p a : Nat} (hp : p < q) (ha : a < s) : m.Symbols ≤ headC m p a ∧ headC m p a < m.Symbols * (m.States + 1) := by
  have e1 : w64 ((p : Int) + 1) = ((p + 1 : Nat) : Int) := w64_nat1 (by omega)
  have h1 : s * (p + 1) ≤ s * q := Nat.mul_le_mul_left s (by omega)
  have h2 : s * q ≤ 6 * 1000 := Nat.mul_le_mul b2 b4
  have h3 : s * 1 ≤ s * (p + 1) := Nat.mul_le_mul_left s (by omega)
  have e2 : w64 (m.Symbols * ((p + 1 : Nat) : Int)) = ((s * (p + 1) : Nat) : Int) := by rw [hs]; exact w64_mul (by omega)
  unfold headC
  rw [e1, e2, w64_add (by omega), hs, hq]
  have e3 : (s : Int) * ((q : Int) + 1) = ((s * q + s : Nat) : Int) := by
    rw [Int.natCast_add, Int.natCast_mul, Int.mul_add, Int.mul_one]
  rw [e3]
  omega
theorem tiles_kind {m : GMachine} {s q : Nat} (hs : m.Symbols = s) (hq : m.States = q) (b1 : 2 ≤ s) (b2 : s ≤ 6) (b4 : q ≤ 1000) (hr : ∀ r ∈ m.Rules, ruleB m.Symbols m.States r = true) (hl : m.Rules.length = q * s) : ∀ x ∈ tilesM m s q, kindT m.Symbols (m.Symbols * (m.States + 1)) x := by
  intro x hx
  unfold tilesM at hx
  simp only [List.mem_append, List.mem_flatMap, List.mem_range] at hx
  rcases hx with (⟨a, ha, hx⟩ | ⟨p, hp, a, ha, hx⟩) | ⟨p, hp, a, ha, hx⟩
  · unfold restT at hx
    rw [List.mem_singleton] at hx
    subst hx
    exact .inl ⟨rfl, rfl, ⟨by show (0 : Int) ≤ (a : Int); omega, by show (a : Int) < _; omega⟩, ⟨by show (0 : Int) ≤ (a : Int); omega, by show (a : Int) < _; omega⟩⟩
  · have hh := headC_in hs hq b1 b2 b4 hp ha
    unfold leaveT at hx
    by_cases hn : m.Rules.getD (p * s + a) noR = noR
    · rw [decide_eq_true hn] at hx; simp at hx
    · rw [decide_eq_false hn, cond_false, List.mem_singleton] at hx
      have hlt : p * s + a < m.Rules.length := by rw [hl]; exact at_lt hp ha
      have hm : m.Rules.getD (p * s + a) noR ∈ m.Rules := by
        rw [List.getD_eq_getElem?_getD, List.getElem?_eq_getElem hlt]
        exact List.getElem_mem _
      have hb := hr _ hm
      generalize m.Rules.getD (p * s + a) noR = r at *
      unfold ruleB at hb
      rw [decide_eq_false hn, Bool.false_or, Bool.and_eq_true, Bool.and_eq_true] at hb
      have w1 := inB_iff.1 hb.1
      have w2 := inB_iff.1 hb.2.2
      have e1 : w64 (2 * r.Next) = 2 * r.Next := w64_in (by omega) (by omega)
      have e2 : w64 (1 + 2 * r.Next) = 1 + 2 * r.Next := w64_in (by omega) (by omega)
      have e3 : w64 (2 + 2 * r.Next) = 2 + 2 * r.Next := w64_in (by omega) (by omega)
      rw [e1, e2, e3] at hx
      cases hmv : decide (r.Move = 1)
      · rw [hmv, cond_false] at hx
        subst hx
        exact .inr (.inr (.inl ⟨⟨by show (2 + 2 * r.Next) % 2 = 0; omega, by show 2 ≤ 2 + 2 * r.Next; omega⟩, rfl, hh, ⟨w1.1, by show r.Write < _; omega⟩⟩))
      · rw [hmv, cond_true] at hx
        subst hx
        exact .inr (.inl ⟨rfl, ⟨by show (1 + 2 * r.Next) % 2 = 1; omega, by show 1 ≤ 1 + 2 * r.Next; omega⟩, hh, ⟨w1.1, by show r.Write < _; omega⟩⟩)
  · have hh := headC_in hs hq b1 b2 b4 hp ha
    have e1 : w64 (2 * (p : Int)) = 2 * (p : Int) := w64_in (by omega) (by omega)
    have e2 : w64 (1 + 2 * (p : Int)) = 1 + 2 * (p : Int) := w64_in (by omega) (by omega)
    have e3 : w64 (2 + 2 * (p : Int)) = 2 + 2 * (p : Int) := w64_in (by omega) (by omega)
    unfold comeT at hx
    rw [e1, e2, e3] at hx
    simp only [List.mem_cons, List.not_mem_nil, or_false] at hx
    rcases hx with rfl | rfl
    · exact .inr (.inr (.inr (.inl ⟨⟨by show (1 + 2 * (p : Int)) % 2 = 1; omega, by show 1 ≤ 1 + 2 * (p : Int); omega⟩, rfl, ⟨by show (0 : Int) ≤ (a : Int); omega, by show (a : Int) < _; omega⟩, hh⟩)))
    · exact .inr (.inr (.inr (.inr ⟨rfl, ⟨by show (2 + 2 * (p : Int)) % 2 = 0; omega, by show 2 ≤ 2 + 2 * (p : Int); omega⟩, ⟨by show (0 : Int) ≤ (a : Int); omega, by show (a : Int) < _; omega⟩, hh⟩)))
theorem idx_mem {α : Type} {xs : List α} {i : Int} {x : α} (h : idx xs i = some x) : x ∈ xs := by
  unfold idx at h
  split at h
  · cases h
  · exact List.mem_of_getElem? h
theorem row_heads {S M : Int} {ts : List GTile} (hSM : S ≤ M) (hk : ∀ x ∈ ts, kindT S M x) : ∀ (bs rs : List Int) (left : Int) (q : List Int × Int), rowGo ts bs rs left = some q → q.2 = 0 → vc M bs →
    vc M q.1 ∧ (left = 0 → hc S bs = 0 → hc S q.1 = 0) ∧ (left = 0 → hc S bs = 1 → hc S q.1 = 1) ∧ (left % 2 = 1 ∧ 1 ≤ left → hc S bs = 0 → hc S q.1 = 1) ∧ (left % 2 = 0 ∧ 2 ≤ left → hc S bs = 1 → hc S q.1 = 0) ∧ (left % 2 = 0 ∧ 2 ≤ left → hc S bs ≠ 0)
  | [], [], left, q, h, h0, _ => by
    unfold rowGo at h
    cases h
    simp only at h0
    subst h0
    refine ⟨fun x hx => by simp at hx, fun _ _ => rfl, fun _ h => by simp [hc] at h, fun h => by omega, fun h => by omega, fun h => by omega⟩
  | [], r :: rs, left, q, h, _, _ => by simp [rowGo] at h
  | b :: bs, [], left, q, h, _, _ => by simp [rowGo] at h
  | b :: bs, r :: rs, left, q, h, h0, hv => by
    unfold rowGo at h
    cases hx : idx ts r with
    | none => rw [hx] at h; simp at h
    | some x =>
      rw [hx] at h
      simp only at h
      by_cases hc1 : x.Left = left ∧ x.Bottom = b
      · rw [if_pos hc1] at h
        cases hq : rowGo ts bs rs x.Right with
        | none => rw [hq] at h; simp at h
        | some q' =>
          rw [hq] at h
          simp only [Option.map_some, Option.some.injEq] at h
          subst h
          simp only at h0
          obtain ⟨i0, i1, i2, i3, i4, i5⟩ := row_heads hSM hk bs rs x.Right q' hq h0 (fun y hy => hv y (by simp [hy]))
          have kx := hk x (idx_mem hx)
          have eb : hc S (b :: bs) = hc S bs + if S ≤ b then 1 else 0 := by
            unfold hc
            rw [List.countP_cons]
            by_cases e : S ≤ b <;> simp [e]
          have et : hc S (x.Top :: q'.1) = hc S q'.1 + if S ≤ x.Top then 1 else 0 := by
            unfold hc
            rw [List.countP_cons]
            by_cases e : S ≤ x.Top <;> simp [e]
          rw [← hc1.1, eb, ← hc1.2]
          show vc M (x.Top :: q'.1) ∧ _
          rw [et]
          unfold kindT at kx
          generalize hc S bs = hb at *
          generalize hc S q'.1 = ht at *
          generalize x.Left = xl at *
          generalize x.Right = xr at *
          generalize x.Top = xt at *
          generalize x.Bottom = xb at *
          clear hv hk eb et hq hx hc1
          refine ⟨fun y hy => ?_, ?_⟩
          · rcases List.mem_cons.1 hy with rfl | hy
            · omega
            · exact i0 y hy
          · clear i0
            rcases kx with kx | kx | kx | kx | kx
            · rw [if_neg (by omega), if_neg (by omega)]
              refine ⟨?_, ?_, ?_, ?_, ?_⟩ <;> omega
            · rw [if_pos (by omega), if_neg (by omega)]
              refine ⟨?_, ?_, ?_, ?_, ?_⟩ <;> omega
            · rw [if_pos (by omega), if_neg (by omega)]
              refine ⟨?_, ?_, ?_, ?_, ?_⟩ <;> omega
            · rw [if_neg (by omega), if_pos (by omega)]
              refine ⟨?_, ?_, ?_, ?_, ?_⟩ <;> omega
            · rw [if_neg (by omega), if_pos (by omega)]
              refine ⟨?_, ?_, ?_, ?_, ?_⟩ <;> omega
      · rw [if_neg hc1] at h; simp at h
theorem conf_iff {m : GMachine} {row : List Int} (hS : 0 < m.Symbols) (hM : m.Symbols ≤ m.Symbols * (m.States + 1)) : (confP m row).2.2 = 0 ↔ (hc m.Symbols row = 1 ∧ vc (m.Symbols * (m.States + 1)) row) := by
  have zero : ∀ xs : List Int, (xs.all fun x => inB x 0 (m.Symbols - 1)) = true ↔ (hc m.Symbols xs = 0 ∧ ∀ x ∈ xs, 0 ≤ x) := by
    intro xs
    rw [List.all_eq_true]
    unfold hc
    rw [List.countP_eq_zero]
    constructor
    · intro h
      refine ⟨fun x hx => ?_, fun x hx => (inB_iff.1 (h x hx)).1⟩
      have := inB_iff.1 (h x hx)
      simp only [decide_eq_true_eq]
      omega
    · intro h x hx
      have h1 := h.1 x hx
      have h2 := h.2 x hx
      simp only [decide_eq_true_eq] at h1
      exact inB_iff.2 ⟨h2, by omega⟩
  unfold confP
  cases hf : row.findIdx? fun x => decide (m.Symbols ≤ x) with
  | none =>
    rw [List.findIdx?_eq_none_iff] at hf
    constructor
    · intro h; simp at h
    · intro h
      have : hc m.Symbols row = 0 := by
        unfold hc
        rw [List.countP_eq_zero]
        intro x hx
        simp [hf x hx]
      omega
  | some k =>
    rw [List.findIdx?_eq_some_iff_getElem] at hf
    obtain ⟨hk, hp, hlt⟩ := hf
    simp only [decide_eq_true_eq] at hp
    have hget : row.getD k 0 = row[k] := by rw [List.getD_eq_getElem?_getD, List.getElem?_eq_getElem hk]; rfl
    have hsplit : row = row.take k ++ row[k] :: row.drop (k + 1) := by
      rw [← List.drop_eq_getElem_cons hk, List.take_append_drop]
    have hcount : hc m.Symbols row = hc m.Symbols (row.take k) + (hc m.Symbols (row.drop (k + 1)) + 1) := by
      conv => lhs; rw [hsplit]
      unfold hc
      rw [List.countP_append, List.countP_cons, if_pos (by simpa using hp)]
    have hpre : hc m.Symbols (row.take k) = 0 := by
      unfold hc
      rw [List.countP_eq_zero]
      intro x hx
      obtain ⟨j, hj, rfl⟩ := List.getElem_of_mem hx
      rw [List.length_take] at hj
      have := hlt j (by omega)
      rw [List.getElem_take]
      simpa using this
    simp only
    have hval : ((cond (okR m row k) (confR m row k) (zC, 0, 9)).2.2 = 0) ↔ okR m row k = true := by
      cases okR m row k <;> simp [confR]
    rw [hval]
    unfold okR
    rw [Bool.and_eq_true, Bool.and_eq_true, zero, zero, hget, decide_eq_true_eq]
    constructor
    · rintro ⟨⟨h1, h2⟩, h3⟩
      refine ⟨by omega, fun x hx => ?_⟩
      rw [hsplit] at hx
      rcases List.mem_append.1 hx with hx | hx
      · have z := h2.2 x hx
        have := List.countP_eq_zero.1 h2.1 x hx
        simp only [decide_eq_true_eq] at this
        exact ⟨z, by omega⟩
      · rcases List.mem_cons.1 hx with rfl | hx
        · exact ⟨by omega, h1⟩
        · have z := h3.2 x hx
          have := List.countP_eq_zero.1 h3.1 x hx
          simp only [decide_eq_true_eq] at this
          exact ⟨z, by omega⟩
    · rintro ⟨h1, h2⟩
      refine ⟨⟨(h2 _ (List.getElem_mem hk)).2, hpre, fun x hx => (h2 x (List.mem_of_mem_take hx)).1⟩, by omega, fun x hx => (h2 x (List.mem_of_mem_drop hx)).1⟩
theorem rowM_go {ts : List GTile} {bs rs t : List Int} (h : rowM ts bs rs = some t) : rowGo ts bs rs 0 = some (t, 0) := by
  unfold rowM at h
  cases hq : rowGo ts bs rs 0 with
  | none => rw [hq] at h; simp at h
  | some q =>
    rw [hq] at h
    simp only [Option.bind_some] at h
    by_cases h0 : q.2 = 0
    · rw [if_pos h0] at h
      cases h
      rw [← h0]
    · rw [if_neg h0] at h; cases h
def runC (m : GMachine) (tl : List (List Int)) : List GConfig := tl.map fun t => (confP m t).1
theorem ex_RunOfTiling (m : GMachine) (bottom : List Int) (rows : List (List Int)) (s0 : Sml m) (s1 : Sml bottom) (s2 : Sml rows) :
    ∃ w : List GConfig × Int, F_spec_RunOfTiling m bottom rows = some w ∧ F_impl_RunOfTiling m bottom rows = some w ∧ Med w.1 ∧ Cnt.cnt w.1 ≤ 1152921504606846976 := by
  have cfit : ∀ cs : List GConfig, cs.length ≤ 1000 → (∀ c ∈ cs, c.Left.length ≤ 1048576 ∧ c.Right.length ≤ 1048576) → Med cs ∧ Cnt.cnt cs ≤ 1152921504606846976 := by
    intro cs h1 h2
    refine ⟨⟨by omega, fun c hc => (conf_fit (h2 c hc).1 (h2 c hc).2).1⟩, Nat.le_trans (cnt_le (n := 1000) (m := 2097153) h1 (fun c hc => ?_)) (by decide)⟩
    have := h2 c hc
    show 1 + Cnt.cnt c.Left + Cnt.cnt c.Right ≤ _
    rw [cnt_ints, cnt_ints]; omega
  have nil : Med ([] : List GConfig) ∧ Cnt.cnt ([] : List GConfig) ≤ 1152921504606846976 := cfit [] (by simp) (by simp)
  unfold F_spec_RunOfTiling F_impl_RunOfTiling
  rw [spec_mach m s0, impl_mach m s0, bnd_some_eq, bnd_some_eq]
  cases hm : machB m
  · exact ⟨_, rfl, rfl, nil⟩
  obtain ⟨s, q, hs, hq, b1, b2, b3, b4, hl, b5, hr⟩ := machB_nat hm
  simp only [Bool.not_true, cond_false]
  rw [spec_tiles m hs hq b1 b2 b3 b4 hl b5 hr, impl_tiles m hs hq b1 b2 b3 b4 hl b5]
  have hlen := tilesM_len m s q
  simp only [bnd_some_eq]
  by_cases h300 : 300 < (tilesM m s q).length
  · rw [decide_eq_true h300, decide_eq_false (by omega : ¬ (tilesM m s q).length ≤ 300)]
    refine ⟨([], 5), ?_, rfl, nil⟩
    cases decide (300 < 2 * s * q) <;> rfl
  rw [decide_eq_false h300, decide_eq_false (by omega : ¬ 300 < 2 * s * q), decide_eq_true (by omega : (tilesM m s q).length ≤ 300)]
  simp only [cond_false, Bool.not_true]
  have hk := tiles_kind hs hq b1 b2 b4 hr hl
  generalize hT : tilesM m s q = T at *
  unfold F_impl_ConfigOfRow F_spec_l33Decode F_impl_size_int64
  rw [impl_mach m s0, hm]
  simp only [bnd_some_eq, Bool.not_true, cond_false, impl_in]
  by_cases hw' : ¬ (1 ≤ bottom.length ∧ bottom.length ≤ 30)
  · rw [inB_false (by omega)]
    refine ⟨([], 2), ?_, rfl, nil⟩
    by_cases h1 : (bottom.length : Int) < 1
    · rw [decide_eq_true h1]; rfl
    · rw [decide_eq_false h1, decide_eq_true (by omega)]; rfl
  have hw := Classical.not_not.1 hw'
  rw [inB_iff.2 ⟨by omega, by omega⟩, decide_eq_false (by omega : ¬ (bottom.length : Int) < 1), decide_eq_false (by omega : ¬ (30 : Int) < (bottom.length : Int)), spec_config m bottom hs hq b1 b2 b4 b5 hw.2, impl_config m bottom hs hq b1 b2 b4 b5 hw.2]
  simp only [Bool.not_true, cond_false, bnd_some_eq, Out.elim]
  by_cases hc0' : ¬ (confP m bottom).2.2 = 0
  · have hc9 := (confP_code m bottom).resolve_left hc0'
    rw [hc9]
    exact ⟨([], 9), rfl, rfl, nil⟩
  have hc0 := Classical.not_not.1 hc0'
  rw [hc0]
  have hcd : decide ((0 : Int) ≠ 0) = false := rfl
  simp only [decide_true, Bool.not_true, cond_false, bnd_some_eq, hcd]
  obtain ⟨qs, hqs, hcase⟩ := spec_top T bottom rows (by omega) (by omega) s2.1
  rw [hqs, impl_tops T bottom rows (by omega) (by omega) (by omega) s2]
  simp only [bnd_some_eq]
  rcases hcase with ⟨hn, rfl⟩ | ⟨tl, htl, rfl⟩
  · rw [hn]
    refine ⟨([], 7), rfl, ?_, nil⟩
    by_cases hf : fewB rows = true
    · rw [if_pos hf]; rfl
    · rw [if_neg hf]; rfl
  rw [htl]
  by_cases hf : fewB rows = true
  · rw [if_pos hf, hf]
    simp only [Bool.not_true, cond_false]
    have hrl : rows.length ≤ 40 := by
      unfold fewB at hf
      simp only [Bool.and_eq_true, decide_eq_true_eq] at hf
      exact hf.2
    have hS : 0 < m.Symbols := by omega
    have hM : m.Symbols ≤ m.Symbols * (m.States + 1) := by
      have := Int.mul_le_mul_of_nonneg_left (show (1 : Int) ≤ m.States + 1 by omega) (Int.le_of_lt hS)
      rwa [Int.mul_one] at this
    -- every top is a row with one head
    have key : ∀ (rows : List (List Int)) (cur : List Int) (tl : List (List Int)), topsM T cur rows = some tl → (confP m cur).2.2 = 0 → ∀ t ∈ tl, (confP m t).2.2 = 0 ∧ t.length = cur.length := by
      intro rows
      induction rows with
      | nil => intro cur tl h _ t ht; unfold topsM at h; cases h; simp at ht
      | cons r rs ih =>
        intro cur tl h hcur t ht
        unfold topsM at h
        cases hrow : rowM T cur r with
        | none => rw [hrow] at h; simp at h
        | some t0 =>
          rw [hrow] at h
          simp only [Option.bind_some] at h
          cases htl : topsM T t0 rs with
          | none => rw [htl] at h; simp at h
          | some tl' =>
            rw [htl] at h
            simp only [Option.map_some, Option.some.injEq] at h
            subst h
            have hl0 := rowM_len hrow
            have c0 := (conf_iff hS hM).1 hcur
            have hh := row_heads hM hk cur r 0 (t0, 0) (rowM_go hrow) rfl c0.2
            have ht0 : (confP m t0).2.2 = 0 := (conf_iff hS hM).2 ⟨hh.2.2.1 rfl c0.1, hh.1⟩
            rcases List.mem_cons.1 ht with rfl | ht
            · exact ⟨ht0, by omega⟩
            · obtain ⟨k1, k2⟩ := ih t0 tl' htl ht0 t ht
              exact ⟨k1, by omega⟩
    have hall := key rows bottom tl htl hc0
    have htlen : tl.length = rows.length := by
      have : ∀ (rows : List (List Int)) (cur : List Int) (tl : List (List Int)), topsM T cur rows = some tl → tl.length = rows.length := by
        intro rows
        induction rows with
        | nil => intro cur tl h; unfold topsM at h; cases h; rfl
        | cons r rs ih =>
          intro cur tl h
          unfold topsM at h
          cases hrow : rowM T cur r with
          | none => rw [hrow] at h; simp at h
          | some t0 =>
            rw [hrow] at h
            simp only [Option.bind_some] at h
            cases htl : topsM T t0 rs with
            | none => rw [htl] at h; simp at h
            | some tl' =>
              rw [htl] at h
              simp only [Option.map_some, Option.some.injEq] at h
              subst h
              rw [List.length_cons, List.length_cons, ih t0 tl' htl]
      exact this rows bottom tl htl
    -- the reference's loop
    have spec_loop : ∀ (k i : Nat) (out : List GConfig) (cur : List Int) (tl' : List (List Int)), i + k = rows.length → topsM T cur (rows.drop i) = some tl' → (confP m cur).2.2 = 0 → cur.length = bottom.length → out.length = i + 1 →
        ∃ now, run (F_spec_RunOfTiling_L1 m rows (T, true)) (out, cur, (i : Int)) = some (.brk (out ++ runC m tl', now, (rows.length : Int))) := by
      intro k
      induction k with
      | zero =>
        intro i out cur tl' hi htl' _ _ _
        obtain rfl : i = rows.length := by omega
        rw [List.drop_length] at htl'
        unfold topsM at htl'
        cases htl'
        exact ⟨cur, by rw [run_done (x := Out.brk (out, cur, (rows.length : Int))) (by simp [F_spec_RunOfTiling_L1])]; simp [runC]⟩
      | succ k ih =>
        intro i out cur tl' hi htl' hcur hcl hol
        have hlt : i < rows.length := by omega
        have hkey := key (rows.drop i) cur tl' htl' hcur
        rw [List.drop_eq_getElem_cons hlt] at htl'
        unfold topsM at htl'
        cases hrow : rowM T cur rows[i] with
        | none => rw [hrow] at htl'; simp at htl'
        | some t0 =>
          rw [hrow] at htl'
          simp only [Option.bind_some] at htl'
          cases htl2 : topsM T t0 (rows.drop (i + 1)) with
          | none => rw [htl2] at htl'; simp at htl'
          | some tl2 =>
            rw [htl2] at htl'
            simp only [Option.map_some, Option.some.injEq] at htl'
            subst htl'
            obtain ⟨h1, h2⟩ := hkey t0 (by simp)
            obtain ⟨qr, hqr, hqc⟩ := spec_trow T cur rows[i] (by omega) (by omega)
            have hq1 : qr.1 = t0 := by
              rcases hqc with ⟨h, _⟩ | ⟨h, _⟩
              · rw [hrow] at h; cases h
              · rw [hrow] at h; exact (Option.some.inj h).symm
            have hb : F_spec_RunOfTiling_L1 m rows (T, true) (out, cur, (i : Int)) = some (.inl (out ++ [(confP m t0).1], t0, ((i + 1 : Nat) : Int))) := by
              simp only [F_spec_RunOfTiling_L1, Int.ofNat_lt, hlt, decide_true, cond_true, idx_nat hlt, bnd_some_eq, hqr, hq1]
              rw [spec_config m t0 hs hq b1 b2 b4 b5 (by omega), bnd_some_eq, app_ok (by simp; omega), bnd_some_eq, w64_nat1 (by omega)]
            rw [run_next hb]
            obtain ⟨now, hnow⟩ := ih (i + 1) (out ++ [(confP m t0).1]) t0 tl2 (by omega) htl2 h1 (by omega) (by simp; omega)
            exact ⟨now, by rw [hnow, List.append_assoc]; rfl⟩
    obtain ⟨now, hnow⟩ := spec_loop rows.length 0 [(confP m bottom).1] bottom tl (by omega) (by rw [List.drop_zero]; exact htl) hc0 rfl rfl
    -- the program's loop
    have impl_loop := (run_rowf (body := F_impl_RunOfTiling_L1 m (tl, true)) tl (by omega) (fun (a : List GConfig) i => (a, i)) (fun a t => a ++ [(confP m t).1]) (fun i a => a.length = i + 1) (fun i hi a ha => by
      obtain ⟨h1, h2⟩ := hall _ (List.getElem_mem hi)
      refine ⟨?_, by simp [ha]⟩
      simp only [F_impl_RunOfTiling_L1, Int.ofNat_lt, hi, decide_true, cond_true, idx_nat hi, bnd_some_eq]
      rw [impl_config m _ hs hq b1 b2 b4 b5 (by omega), bnd_some_eq, h1, hcd, cond_false, app_ok (by simp; omega), bnd_some_eq]) [(confP m bottom).1] rfl).1
    have efold : ∀ (xs : List (List Int)) (a : List GConfig), xs.foldl (fun a t => a ++ [(confP m t).1]) a = a ++ runC m xs := by
      intro xs
      induction xs with
      | nil => intro a; simp [runC]
      | cons x xs ih => intro a; rw [List.foldl_cons, ih]; simp [runC]
    rw [efold] at impl_loop
    rw [show (([(confP m bottom).1] : List GConfig), bottom, (0 : Int)) = ([(confP m bottom).1], bottom, ((0 : Nat) : Int)) from rfl, hnow, impl_loop, run_done (x := Out.brk ([(confP m bottom).1] ++ runC m tl, (tl.length : Int))) (by simp [F_impl_RunOfTiling_L1])]
    refine ⟨_, rfl, rfl, cfit _ (by simp [runC]; omega) (fun c hc => ?_)⟩
    rcases List.mem_append.1 hc with hc | hc
    · rw [List.mem_singleton] at hc
      rw [hc]
      exact confP_fit m bottom (by omega)
    · obtain ⟨t, ht, rfl⟩ := List.mem_map.1 hc
      exact confP_fit m t (by have := (hall t ht).2; omega)
  · rw [if_neg hf]
    have : fewB rows = false := by simpa using hf
    rw [this]
    exact ⟨_, rfl, rfl, nil⟩
theorem law_RunOfTiling (m : GMachine) (bottom : List Int) (rows : List (List Int)) (w0 : Wf.wf m) (w1 : Wf.wf bottom) (w2 : Wf.wf rows) : F_laws_FnExactRunOfTiling m bottom rows = some true :=
  lawof_RunOfTiling m bottom rows w0 w1 w2 (ex_RunOfTiling m bottom rows)
end Go.Fn
