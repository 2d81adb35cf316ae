/-
  Machines on one half of the tape; the plain laws of FoldMachine and FoldConfig. No program in sight. No condition.
-/
import Derived.Test.YtceimgjcikkadaaPBuild
namespace Go.Fn
open Go Go.Tc
theorem idxc0 {α : Type} (a : α) (l : List α) : idx (a :: l) 0 = some a := rfl
theorem idxc1 {α : Type} (a b : α) (l : List α) : idx (a :: b :: l) 1 = some b := rfl
theorem idxc2 {α : Type} (a b c : α) (l : List α) : idx (a :: b :: c :: l) 2 = some c := rfl
theorem idxc3 {α : Type} (a b c d : α) (l : List α) : idx (a :: b :: c :: d :: l) 3 = some d := rfl
theorem rule_idx {m : GMachine} {s q : Nat} (M : MaI m s q) {p a : Nat} (hp : p < q) (ha : a < s) : idx m.Rules (w64 ((w64 ((p : Int) * m.Symbols)) + (a : Int))) = some (m.Rules.getD (p * s + a) noR) ∧ m.Rules.getD (p * s + a) noR ∈ m.Rules ∧ w64 ((w64 ((p : Int) * m.Symbols)) + (a : Int)) = ((p * s + a : Nat) : Int) ∧ p * s + a < m.Rules.length := by
  have hlt := at_lt hp ha
  have := M.b5
  have hl := M.hl
  have e : w64 ((w64 ((p : Int) * m.Symbols)) + (a : Int)) = ((p * s + a : Nat) : Int) := by
    rw [M.hs, w64_mul (by omega), w64_add (by omega)]
  have hlt' : p * s + a < m.Rules.length := by omega
  rw [e, idx_nat hlt', List.getD_eq_getElem?_getD, List.getElem?_eq_getElem hlt']
  exact ⟨rfl, List.getElem_mem _, rfl, hlt'⟩
def foldMainA (m : GMachine) (s : Nat) (q : Nat) (half : Int) (v : Nat) : Option (Int × Int × GfoldPlace) :=
  if m.Rules.getD (q * s + v) noR = noR then none
  else if (m.Rules.getD (q * s + v) noR).Move = 1 ↔ half = 0 then some ((m.Rules.getD (q * s + v) noR).Write, 1, ⟨1, (m.Rules.getD (q * s + v) noR).Next, half⟩)
  else if half = 0 then some ((m.Rules.getD (q * s + v) noR).Write, -1, ⟨2, (m.Rules.getD (q * s + v) noR).Next, 0⟩)
  else some ((m.Rules.getD (q * s + v) noR).Write, -1, ⟨4, (m.Rules.getD (q * s + v) noR).Next, 0⟩)
def foldA (m : GMachine) (s : Nat) (p : GfoldPlace) (v : Nat) : Option (Int × Int × GfoldPlace) :=
  if p.kind = 0 then (if v = s then none else foldMainA m s p.q.toNat p.half v)
  else if p.kind = 1 then (if v = s then none else some ((v : Int), 1, ⟨0, p.q, p.half⟩))
  else if p.kind = 2 then (if v = s then some ((v : Int), 1, ⟨3, p.q, 0⟩) else some ((v : Int), -1, ⟨0, p.q, 0⟩))
  else if p.kind = 3 then (if v = s then none else some ((v : Int), 1, ⟨0, p.q, 1⟩))
  else if p.kind = 4 then (if v = s then none else some ((v : Int), -1, ⟨5, p.q, 0⟩))
  else (if v = s then some ((v : Int), 1, ⟨0, p.q, 0⟩) else foldMainA m s p.q.toNat 1 v)
def foldV (Q : Nat) (p : GfoldPlace) : Prop := ((p.kind = 0 ∨ p.kind = 1) ∧ (p.half = 0 ∨ p.half = 1) ∨ (p.kind = 2 ∨ p.kind = 3 ∨ p.kind = 4 ∨ p.kind = 5) ∧ p.half = 0) ∧ 0 ≤ p.q ∧ p.q < Q
def foldE (p : GfoldPlace) : List Int := if p.kind = 0 ∨ p.kind = 1 then [p.kind, p.q, p.half] else [p.kind, p.q]
theorem foldMain_next {m : GMachine} {s q : Nat} (M : MaI m s q) {p v : Nat} (hp : p < q) (hv : v < s) {half w mv : Int} {x : GfoldPlace} (hh : half = 0 ∨ half = 1) (h : foldMainA m s p half v = some (w, mv, x)) : foldV q x := by
  obtain ⟨_, hmem, _, _⟩ := rule_idx M hp hv
  unfold foldMainA at h
  generalize m.Rules.getD (p * s + v) noR = r at *
  by_cases hn : r = noR
  · rw [if_pos hn] at h; cases h
  obtain ⟨w1, w2, w3⟩ := rule_in M hmem hn
  rw [if_neg hn] at h
  unfold foldV
  split at h
  · simp only [Option.some.injEq, Prod.mk.injEq] at h
    obtain ⟨_, _, rfl⟩ := h
    exact ⟨.inl ⟨.inr rfl, hh⟩, w3⟩
  · split at h
    · simp only [Option.some.injEq, Prod.mk.injEq] at h
      obtain ⟨_, _, rfl⟩ := h
      exact ⟨.inr ⟨.inl rfl, rfl⟩, w3⟩
    · simp only [Option.some.injEq, Prod.mk.injEq] at h
      obtain ⟨_, _, rfl⟩ := h
      exact ⟨.inr ⟨.inr (.inr (.inl rfl)), rfl⟩, w3⟩
theorem fold_cases {Q : Nat} {p : GfoldPlace} (h : foldV Q p) : ∃ q : Nat, q < Q ∧ ((∃ h, (h = 0 ∨ h = 1) ∧ p = ⟨0, q, h⟩) ∨ (∃ h, (h = 0 ∨ h = 1) ∧ p = ⟨1, q, h⟩) ∨ p = ⟨2, q, 0⟩ ∨ p = ⟨3, q, 0⟩ ∨ p = ⟨4, q, 0⟩ ∨ p = ⟨5, q, 0⟩) := by
  obtain ⟨k, q, hf⟩ := p
  obtain ⟨h1, h2, h3⟩ := h
  simp only at h1 h2 h3
  refine ⟨q.toNat, by omega, ?_⟩
  rw [show ((q.toNat : Nat) : Int) = q by omega]
  rcases h1 with ⟨rfl | rfl, h1⟩ | ⟨rfl | rfl | rfl | rfl, rfl⟩
  · exact .inl ⟨_, h1, rfl⟩
  · exact .inr (.inl ⟨_, h1, rfl⟩)
  · exact .inr (.inr (.inl rfl))
  · exact .inr (.inr (.inr (.inl rfl)))
  · exact .inr (.inr (.inr (.inr (.inl rfl))))
  · exact .inr (.inr (.inr (.inr (.inr rfl))))
theorem fold_act {m : GMachine} {s q : Nat} (M : MaI m s q) : ActOk (foldA m s) (s + 1) (foldV q) := by
  refine ⟨fun p v w mv x hp hv h => ?_⟩
  obtain ⟨a, ha, hc⟩ := fold_cases hp
  have hq : (0 : Int) ≤ (a : Int) ∧ (a : Int) < (q : Int) := ⟨by omega, by omega⟩
  rcases hc with ⟨hf, hh, rfl⟩ | ⟨hf, hh, rfl⟩ | rfl | rfl | rfl | rfl
  · simp only [foldA, if_true, Int.toNat_natCast] at h
    split at h
    · cases h
    · exact foldMain_next M ha (by omega) hh h
  · simp only [foldA, if_neg (show ¬ (1 : Int) = 0 by decide), if_true] at h
    split at h
    · cases h
    · simp only [Option.some.injEq, Prod.mk.injEq] at h
      obtain ⟨_, _, rfl⟩ := h
      exact ⟨.inl ⟨.inl rfl, hh⟩, hq⟩
  · simp only [foldA, if_neg (show ¬ (2 : Int) = 0 by decide), if_neg (show ¬ (2 : Int) = 1 by decide), if_true] at h
    split at h
    · simp only [Option.some.injEq, Prod.mk.injEq] at h
      obtain ⟨_, _, rfl⟩ := h
      exact ⟨.inr ⟨.inr (.inl rfl), rfl⟩, hq⟩
    · simp only [Option.some.injEq, Prod.mk.injEq] at h
      obtain ⟨_, _, rfl⟩ := h
      exact ⟨.inl ⟨.inl rfl, .inl rfl⟩, hq⟩
  · simp only [foldA, if_neg (show ¬ (3 : Int) = 0 by decide), if_neg (show ¬ (3 : Int) = 1 by decide), if_neg (show ¬ (3 : Int) = 2 by decide), if_true] at h
    split at h
    · cases h
    · simp only [Option.some.injEq, Prod.mk.injEq] at h
      obtain ⟨_, _, rfl⟩ := h
      exact ⟨.inl ⟨.inl rfl, .inr rfl⟩, hq⟩
  · simp only [foldA, if_neg (show ¬ (4 : Int) = 0 by decide), if_neg (show ¬ (4 : Int) = 1 by decide), if_neg (show ¬ (4 : Int) = 2 by decide), if_neg (show ¬ (4 : Int) = 3 by decide), if_true] at h
    split at h
    · cases h
    · simp only [Option.some.injEq, Prod.mk.injEq] at h
      obtain ⟨_, _, rfl⟩ := h
      exact ⟨.inr ⟨.inr (.inr (.inr rfl)), rfl⟩, hq⟩
  · simp only [foldA, if_neg (show ¬ (5 : Int) = 0 by decide), if_neg (show ¬ (5 : Int) = 1 by decide), if_neg (show ¬ (5 : Int) = 2 by decide), if_neg (show ¬ (5 : Int) = 3 by decide), if_neg (show ¬ (5 : Int) = 4 by decide), Int.toNat_natCast] at h
    split at h
    · simp only [Option.some.injEq, Prod.mk.injEq] at h
      obtain ⟨_, _, rfl⟩ := h
      exact ⟨.inl ⟨.inl rfl, .inl rfl⟩, hq⟩
    · exact foldMain_next M ha (by omega) (.inr rfl) h
/-! ### The program's -/
theorem impl_foldMain {m : GMachine} {s q : Nat} (M : MaI m s q) {p v : Nat} (hp : p < q) (hv : v < s) {half : Int} (hh : half = 0 ∨ half = 1) : ∃ a : Gaction_foldPlace, F_impl_foldMain m (p : Int) half (v : Int) = some a ∧ foldMainA m s p half v = if a.none then none else some (a.write, a.move, ⟨a.next_kind, a.next_q, a.next_half⟩) := by
  obtain ⟨hidx, hmem, _, _⟩ := rule_idx M hp hv
  unfold F_impl_foldMain foldMainA
  rw [hidx, bnd_some_eq, impl_isRule, bnd_some_eq]
  generalize m.Rules.getD (p * s + v) noR = r at *
  by_cases hn : r = noR
  · rw [if_pos hn, decide_eq_true hn]
    exact ⟨_, rfl, rfl⟩
  · obtain ⟨w1, w2, w3⟩ := rule_in M hmem hn
    rw [if_neg hn, decide_eq_false hn]
    rcases w2 with e | e <;> rcases hh with rfl | rfl <;> rw [e] <;> exact ⟨_, rfl, rfl⟩
theorem fold_at {m : GMachine} {s q : Nat} (M : MaI m s q) : AtOk (fun p v => F_impl_folded_1 p v m) (fun a => a.none) (fun a => a.write) (fun a => a.move) (fun a => (⟨a.next_kind, a.next_q, a.next_half⟩ : GfoldPlace)) (foldA m s) (s + 1) (foldV q) := by
  intro p v hp hv
  obtain ⟨a, ha, hc⟩ := fold_cases hp
  have em : decide ((v : Int) = m.Symbols) = decide (v = s) := by rw [M.hs, decide_eq_decide]; omega
  have wrap : ∀ o : Option Gaction_foldPlace, (bnd o fun r => some r) = o := fun o => by cases o <;> rfl
  have e0 : F_impl_folded_1 p (v : Int) m = F_impl_foldAction m p (v : Int) := by
    unfold F_impl_folded_1
    exact wrap _
  simp only [e0]
  unfold F_impl_foldAction foldA
  rw [em]
  by_cases hs : v = s
  · rw [decide_eq_true hs]
    rcases hc with ⟨hf, hh, rfl⟩ | ⟨hf, hh, rfl⟩ | rfl | rfl | rfl | rfl <;> simp only [hs, if_true] <;> exact ⟨_, rfl, rfl⟩
  · rw [decide_eq_false hs]
    simp only [if_neg hs]
    rcases hc with ⟨hf, hh, rfl⟩ | ⟨hf, hh, rfl⟩ | rfl | rfl | rfl | rfl
    · obtain ⟨b, hb1, hb2⟩ := impl_foldMain M ha (by omega : v < s) hh
      refine ⟨b, ?_, hb2⟩
      show (bnd (F_impl_foldMain m (a : Int) hf (v : Int)) fun r9 => some r9) = some b
      rw [hb1]
      rfl
    · exact ⟨_, rfl, rfl⟩
    · exact ⟨_, rfl, rfl⟩
    · exact ⟨_, rfl, rfl⟩
    · exact ⟨_, rfl, rfl⟩
    · obtain ⟨b, hb1, hb2⟩ := impl_foldMain M ha (by omega : v < s) (.inr rfl : (1 : Int) = 0 ∨ (1 : Int) = 1)
      refine ⟨b, ?_, hb2⟩
      show (bnd (F_impl_foldMain m (a : Int) 1 (v : Int)) fun r9 => some r9) = some b
      rw [hb1]
      rfl
/-! ### The reference's -/
theorem fold_mono : Mono (fun (rec_ : (GMachine × (List Int) × Int) → Option (Gl13Move)) (a_ : GMachine × (List Int) × Int) => F_spec_l13Fold_step (fun p0 p1 p2 => rec_ (p0, p1, p2)) a_.1 a_.2.1 a_.2.2) := by
  rintro f g h ⟨m, pl, v⟩ r hr
  simp only [F_spec_l13Fold_step] at hr ⊢
  obtain ⟨y4, h4, hr⟩ := bnd_some hr
  obtain ⟨y8, h8, hr⟩ := bnd_some hr
  rw [h4, bnd_some_eq, h8, bnd_some_eq]
  cases h1 : decide (y8 = 1)
  · rw [h1, cond_false] at hr
    rw [cond_false]
    cases h2 : decide (y8 = 2)
    · rw [h2, cond_false] at hr
      rw [cond_false]
      cases h3 : decide (y8 = 3)
      · rw [h3, cond_false] at hr
        rw [cond_false]
        cases h4 : decide (y8 = 4)
        · rw [h4, cond_false] at hr
          rw [cond_false]
          cases h5 : decide (y8 = 5)
          · rw [h5, cond_false] at hr
            rw [cond_false]
            exact hr
          · rw [h5, cond_true] at hr
            rw [cond_true]
            cases h6 : decide (v = m.Symbols)
            · rw [h6, cond_false] at hr
              rw [cond_false]
              obtain ⟨x, hx, hr⟩ := bnd_some hr
              rw [h _ _ hx]
              exact hr
            · rw [h6] at hr
              exact hr
        · rw [h4] at hr
          exact hr
      · rw [h3] at hr
        exact hr
    · rw [h2] at hr
      exact hr
  · rw [h1] at hr
    exact hr
theorem spec_fold {m : GMachine} {pl : List Int} {v : Int} {r : Gl13Move} (h : F_spec_l13Fold_step (fun a b c => F_spec_l13Fold_step (fun _ _ _ => none) a b c) m pl v = some r) : F_spec_l13Fold m pl v = some r := by
  unfold F_spec_l13Fold
  exact (fixR_iff fold_mono).2 ⟨2, h⟩
theorem spec_foldMain {m : GMachine} {s q : Nat} (M : MaI m s q) {p v : Nat} (hp : p < q) (hv : v < s) {half : Int} (hh : half = 0 ∨ half = 1) (rec_ : GMachine → (List Int) → Int → Option (Gl13Move)) : ∃ a : Gl13Move, F_spec_l13Fold_step rec_ m [0, (p : Int), half] (v : Int) = some a ∧ mvIs foldE a (foldMainA m s p half v) := by
  obtain ⟨hidx, hmem, _, _⟩ := rule_idx M hp hv
  have em : decide ((v : Int) = m.Symbols) = false := by rw [M.hs, decide_eq_false_iff_not]; omega
  have k1 : decide ((0 : Int) = 1) = false := rfl
  have k2 : decide ((0 : Int) = 2) = false := rfl
  have k3 : decide ((0 : Int) = 3) = false := rfl
  have k4 : decide ((0 : Int) = 4) = false := rfl
  have k5 : decide ((0 : Int) = 5) = false := rfl
  unfold F_spec_l13Fold_step foldMainA
  simp only [idxc0, idxc1, idxc2, bnd_some_eq, em, cond_false, F_spec_l05None, k1, k2, k3, k4, k5, F_spec_l13Go]
  rw [hidx]
  generalize m.Rules.getD (p * s + v) noR = r at *
  by_cases hn : r = noR
  · rw [if_pos hn, bnd_some_eq, show decide (r = (⟨0, 0, -1⟩ : GRule)) = true from decide_eq_true hn]
    exact ⟨_, rfl, rfl⟩
  · obtain ⟨w1, w2, w3⟩ := rule_in M hmem hn
    rw [if_neg hn, bnd_some_eq, show decide (r = (⟨0, 0, -1⟩ : GRule)) = false from decide_eq_false hn]
    simp only [cond_false, bnd_some_eq, Out.elim]
    rcases w2 with e | e <;> rcases hh with rfl | rfl <;> rw [e] <;> exact ⟨_, rfl, rfl⟩
theorem fold_mv {m : GMachine} {s q : Nat} (M : MaI m s q) : MvOk (F_spec_l13Fold m) foldE (foldA m s) (s + 1) (foldV q) := by
  refine ⟨fun p p' hp hp' e => ?_, fun p hp => ?_, fun p v hp hv => ?_⟩
  · obtain ⟨a, ha, hc⟩ := fold_cases hp
    obtain ⟨b, hb, hd⟩ := fold_cases hp'
    rcases hc with ⟨hf, hh, rfl⟩ | ⟨hf, hh, rfl⟩ | rfl | rfl | rfl | rfl <;> rcases hd with ⟨hf', hh', rfl⟩ | ⟨hf', hh', rfl⟩ | rfl | rfl | rfl | rfl <;> simp [foldE] at e ⊢ <;> exact e
  · unfold foldE
    split <;> simp
  · obtain ⟨a, ha, hc⟩ := fold_cases hp
    have em : decide ((v : Int) = m.Symbols) = decide (v = s) := by rw [M.hs, decide_eq_decide]; omega
    have lift : ∀ (pl : List Int) (o : Option (Int × Int × GfoldPlace)), (∃ a : Gl13Move, F_spec_l13Fold_step (fun a b c => F_spec_l13Fold_step (fun _ _ _ => none) a b c) m pl (v : Int) = some a ∧ mvIs foldE a o) → ∃ a : Gl13Move, F_spec_l13Fold m pl (v : Int) = some a ∧ mvIs foldE a o := by
      rintro pl o ⟨a, h1, h2⟩
      exact ⟨a, spec_fold h1, h2⟩
    refine lift _ _ ?_
    by_cases hs : v = s
    · rw [decide_eq_true hs] at em
      subst hs
      unfold F_spec_l13Fold_step foldA
      rcases hc with ⟨hf, hh, rfl⟩ | ⟨hf, hh, rfl⟩ | rfl | rfl | rfl | rfl <;> simp [mvIs, foldE, idxc0, idxc1, idxc2, em, F_spec_l13Go, Out.elim]
    · rw [decide_eq_false hs] at em
      rcases hc with ⟨hf, hh, rfl⟩ | ⟨hf, hh, rfl⟩ | rfl | rfl | rfl | rfl
      · have := spec_foldMain M ha (by omega : v < s) hh (fun a b c => F_spec_l13Fold_step (fun _ _ _ => none) a b c)
        simpa [foldE, foldA, hs] using this
      · unfold F_spec_l13Fold_step foldA
        simp [mvIs, foldE, idxc0, idxc1, idxc2, em, hs, F_spec_l13Go, Out.elim]
      · unfold F_spec_l13Fold_step foldA
        simp [mvIs, foldE, idxc0, idxc1, idxc2, em, hs, F_spec_l13Go, Out.elim]
      · unfold F_spec_l13Fold_step foldA
        simp [mvIs, foldE, idxc0, idxc1, idxc2, em, hs, F_spec_l13Go, Out.elim]
      · unfold F_spec_l13Fold_step foldA
        simp [mvIs, foldE, idxc0, idxc1, idxc2, em, hs, F_spec_l13Go, Out.elim]
      · obtain ⟨b, hb1, hb2⟩ := spec_foldMain M ha (by omega : v < s) (.inr rfl : (1 : Int) = 0 ∨ (1 : Int) = 1) (fun _ _ _ => none)
        refine ⟨b, ?_, by simpa [foldA, hs] using hb2⟩
        rw [F_spec_l13Fold_step]
        simp [foldE, idxc0, idxc1, em, hb1]
/-! ### The laws -/
theorem mach_fit {g : GMachine} (h : g.Rules.length ≤ 1048576) : Med g ∧ Cnt.cnt g.Rules ≤ 1152921504606846976 :=
  ⟨⟨by omega, fun _ _ => trivial⟩, Nat.le_trans (cnt_le (n := 1048576) (m := 3) h fun t _ => Nat.le_refl 3) (by decide)⟩
theorem num_one {P : Type} [DecidableEq P] (p : P) : NumOk [p] (mput ([] : List (P × Int)) p 0) := by
  intro x
  rw [mget_mput]
  by_cases e : p = x
  · subst e
    simp
  · simp [e]
theorem av_one {P : Type} {VP : P → Prop} {p : P} (h : VP p) : AllV VP [p] := fun q hq => by
  rw [List.mem_singleton.1 hq]
  exact h
theorem fold_start {m : GMachine} {s q : Nat} (M : MaI m s q) : foldV q ⟨0, 0, 0⟩ := ⟨.inl ⟨.inl rfl, .inl rfl⟩, by have := M.b3; simp only; omega⟩
theorem ex_FoldMachine (m : GMachine) (s0 : Sml m) :
    ∃ w : GMachine × Int, F_spec_FoldMachine m = some w ∧ F_impl_FoldMachine m = some w ∧ Med w.1 ∧ Cnt.cnt w.1.Rules ≤ 1152921504606846976 := by
  unfold F_spec_FoldMachine F_impl_FoldMachine
  rw [spec_mach m s0, impl_mach m s0, bnd_some_eq, bnd_some_eq]
  cases hm : machB m
  · exact ⟨_, rfl, rfl, mach_fit (Nat.zero_le _)⟩
  obtain ⟨s, q, M⟩ := machB_mai hm
  simp only [Bool.not_true, cond_false]
  cases h6 : decide (m.Symbols = 6)
  rotate_left
  · exact ⟨_, rfl, rfl, mach_fit (Nat.zero_le _)⟩
  simp only [cond_false]
  have b2 := M.b2
  have en : w64 (m.Symbols + 1) = ((s + 1 : Nat) : Int) := by rw [M.hs]; exact w64_nat1 (by omega)
  have hsp := sp_run (R0 := Option (GMachine × Int)) (fail := some ((⟨0, 0, ([] : (List GRule))⟩ : GMachine), 5)) (by omega : s + 1 ≤ 100) (fold_mv M) (fold_act M) 1002 0 [] [⟨0, 0, 0⟩] (by omega) (by omega) (by simp) (av_one (fold_start M)) (by simp)
  have him := im_run (R0 := Option (GMachine × Int)) (fail := some ((⟨0, 0, ([] : (List GRule))⟩ : GMachine), 5)) (by omega : s + 1 ≤ 100) (fold_at M) (fold_act M) 1002 0 [] [⟨0, 0, 0⟩] (mput [] ⟨0, 0, 0⟩ 0) (by omega) (by omega) (by simp) (av_one (fold_start M)) (num_one _) (by simp)
  have e1 : F_spec_FoldMachine_L1 m = spL1 (some ((⟨0, 0, ([] : (List GRule))⟩ : GMachine), 5)) ((s + 1 : Nat) : Int) (F_spec_l13Fold m) := by rw [← en]; rfl
  have e2 : F_impl_FoldMachine_L1 m = imL1 (some ((⟨0, 0, ([] : (List GRule))⟩ : GMachine), 5)) ((s + 1 : Nat) : Int) (fun p v => F_impl_folded_1 p v m) (fun a => a.none) (fun a => a.write) (fun a => a.move) (fun a => (⟨a.next_kind, a.next_q, a.next_half⟩ : GfoldPlace)) := by rw [← en]; rfl
  have e3 : app ([] : List GfoldPlace) [(⟨0, 0, 0⟩ : GfoldPlace)] = some [⟨0, 0, 0⟩] := rfl
  rw [e1, e2, e3]
  simp only [mget_nil, Option.isSome_none, Bool.not_false, cond_true, bnd_some_eq, Out.elim, F_impl_size_impl_foldPlace, List.length_nil, en]
  simp only [List.map_cons, List.map_nil] at hsp
  have ez : ((0 : Nat) : Int) = 0 := rfl
  rw [ez] at hsp him ⊢
  have ef : foldE ⟨0, 0, 0⟩ = [0, 0, 0] := rfl
  rw [ef] at hsp
  rw [hsp]
  cases hb : buildA (foldA m s) (s + 1) 1002 0 ([], [(⟨0, 0, 0⟩ : GfoldPlace)]) with
  | none =>
    rw [hb] at him
    simp only at him
    rw [him]
    exact ⟨_, rfl, rfl, mach_fit (Nat.zero_le _)⟩
  | some st =>
    rw [hb] at him
    obtain ⟨nums, him, _, _, _, hr⟩ := him
    rw [him]
    refine ⟨_, rfl, ?_, mach_fit (by simp only [bnd_some_eq, Out.elim]; have : 1000 * (s + 1) ≤ 1000 * 7 := Nat.mul_le_mul_left _ (by omega); omega)⟩
    simp only [bnd_some_eq, Out.elim, List.length_map]
theorem law_FoldMachine (m : GMachine) (w0 : Wf.wf m) : F_laws_FnExactFoldMachine m = some true :=
  lawof_FoldMachine m w0 (ex_FoldMachine m)
theorem run_findL {X : Type} {body : Int → Option (Int ⊕ Out Int X)} (xs : List (List Int)) (hx : xs.length ≤ 1000000) (y : List Int) (K : Int → X) (h1 : ∀ (i : Nat) (hi : i < xs.length), xs[i] = y → body (i : Int) = some (.inr (.ret (K (i : Int))))) (h2 : ∀ (i : Nat) (hi : i < xs.length), xs[i] ≠ y → body (i : Int) = some (.inl ((i + 1 : Nat) : Int))) (h3 : body (xs.length : Int) = some (.inr (.brk (xs.length : Int)))) :
    run body 0 = match xs.findIdx? (fun z => decide (z = y)) with | none => some (.brk (xs.length : Int)) | some i => some (.ret (K (i : Int))) := by
  have key : ∀ k i, i + k = xs.length → (∀ j, j < i → xs[j]? ≠ some y) → run body (i : Int) = match xs.findIdx? (fun z => decide (z = y)) with | none => some (.brk (xs.length : Int)) | some i => some (.ret (K (i : Int))) := by
    intro k
    induction k with
    | zero =>
      intro i hi hn
      obtain rfl : i = xs.length := by omega
      have : xs.findIdx? (fun z => decide (z = y)) = none := by
        rw [List.findIdx?_eq_none_iff]
        intro x hx
        obtain ⟨j, hj⟩ := List.mem_iff_getElem?.1 hx
        refine decide_eq_false fun e => ?_
        subst e
        exact hn j (List.getElem?_eq_some_iff.1 hj).1 hj
      rw [this, run_done h3]
    | succ k ih =>
      intro i hi hn
      have hlt : i < xs.length := by omega
      by_cases he : xs[i] = y
      · have : xs.findIdx? (fun z => decide (z = y)) = some i := by
          rw [List.findIdx?_eq_some_iff_getElem]
          refine ⟨hlt, decide_eq_true he, fun j hj => ?_⟩
          rw [decide_eq_true_eq]
          intro e
          exact hn j hj (by rw [List.getElem?_eq_getElem (by omega), e])
        rw [this, run_done (h1 i hlt he)]
      · rw [run_next (h2 i hlt he)]
        refine ih (i + 1) (by omega) fun j hj => ?_
        by_cases hji : j = i
        · subst hji
          rw [List.getElem?_eq_getElem hlt]
          exact fun e => he (Option.some.inj e)
        · exact hn j (by omega)
  exact key xs.length 0 (by omega) (fun j hj => by omega)
def foldR (c : GConfig) : List Int := (List.range (max c.Left.length c.Right.length)).flatMap fun i => [c.Right.getD i 0, c.Left.getD i 0]
theorem foldR_len (c : GConfig) : (foldR c).length = 2 * max c.Left.length c.Right.length := by
  unfold foldR
  rw [flat_const _ 2 (fun _ => rfl)]
  omega
theorem spec_foldR (c : GConfig) (h1 : c.Left.length ≤ 200) (h2 : c.Right.length ≤ 200) : run (F_spec_FoldConfig_L5 c) (([] : List Int), 0) = some (.brk (foldR c, ((max c.Left.length c.Right.length : Nat) : Int))) := by
  rw [run_rangeL (body := F_spec_FoldConfig_L5 c) (max c.Left.length c.Right.length) (by omega) (fun a i => (a, i)) (fun i => [c.Right.getD i 0, c.Left.getD i 0]) 2 (fun _ _ => by simp) [] 0 (by simp) (fun i a hi ha => by
    have e : (cond (decide ((i : Int) < (c.Left.length : Int))) (some (.brk true)) (some (.brk (decide ((i : Int) < (c.Right.length : Int))))) : Option (Out Bool (GConfig × Int))) = some (.brk true) := by
      by_cases k : i < c.Left.length
      · rw [decide_eq_true (by omega)]
        rfl
      · rw [decide_eq_false (by omega), decide_eq_true (by omega)]
        rfl
    simp only [F_spec_FoldConfig_L5, e, bnd_some_eq, Out.elim, cond_true, spec_cellAt]
    rw [app_ok (by simp; omega), bnd_some_eq])]
  refine run_done ?_
  have e : (cond (decide (((max c.Left.length c.Right.length : Nat) : Int) < (c.Left.length : Int))) (some (.brk true)) (some (.brk (decide (((max c.Left.length c.Right.length : Nat) : Int) < (c.Right.length : Int))))) : Option (Out Bool (GConfig × Int))) = some (.brk false) := by
    rw [decide_eq_false (by omega), decide_eq_false (by omega)]
    rfl
  simp only [F_spec_FoldConfig_L5, e, bnd_some_eq, Out.elim, cond_false]
  rfl
theorem impl_foldR (c : GConfig) (h1 : c.Left.length ≤ 200) (h2 : c.Right.length ≤ 200) : run (F_impl_FoldConfig_L3 c) (([] : List Int), 0) = some (.brk (foldR c, ((max c.Left.length c.Right.length : Nat) : Int))) := by
  have em : (if (c.Right.length : Int) > (c.Left.length : Int) then (c.Right.length : Int) else (c.Left.length : Int)) = ((max c.Left.length c.Right.length : Nat) : Int) := by split <;> omega
  rw [run_rangeL (body := F_impl_FoldConfig_L3 c) (max c.Left.length c.Right.length) (by omega) (fun a i => (a, i)) (fun i => [c.Right.getD i 0, c.Left.getD i 0]) 2 (fun _ _ => by simp) [] 0 (by simp) (fun i a hi ha => by
    have hb : decide ((i : Int) < (if (c.Right.length : Int) > (c.Left.length : Int) then (c.Right.length : Int) else (c.Left.length : Int))) = true := by rw [em]; exact decide_eq_true (by omega)
    simp only [F_impl_FoldConfig_L3, hb, cond_true, impl_cellAt, bnd_some_eq]
    rw [app_ok (by simp; omega), bnd_some_eq])]
  refine run_done ?_
  simp only [F_impl_FoldConfig_L3, em]
  rw [decide_eq_false (by omega)]
  rfl
theorem trimL_one {x : Int} (h : x ≠ 0) : trimL [x] = [x] := by
  have := trimL_snoc [] x
  rw [if_neg h] at this
  exact this
theorem ex_FoldConfig (m : GMachine) (c : GConfig) (s0 : Sml m) (s1 : Sml c) :
    ∃ w : GConfig × Int, F_spec_FoldConfig m c = some w ∧ F_impl_FoldConfig m c = some w ∧ Med w.1 ∧ Cnt.cnt w.1.Left + Cnt.cnt w.1.Right ≤ 1152921504606846976 := by
  have nil : ∀ k : Int, Med (((⟨0, [], []⟩ : GConfig), k) : GConfig × Int).1 ∧ Cnt.cnt (((⟨0, [], []⟩ : GConfig), k) : GConfig × Int).1.Left + Cnt.cnt (((⟨0, [], []⟩ : GConfig), k) : GConfig × Int).1.Right ≤ 1152921504606846976 := fun k => conf_fit (Nat.zero_le _) (Nat.zero_le _)
  unfold F_spec_FoldConfig F_impl_FoldConfig
  rw [spec_mach m s0, impl_confV m c s0 s1, bnd_some_eq, bnd_some_eq]
  cases hm : machB m
  · exact ⟨_, rfl, rfl, nil _⟩
  obtain ⟨q1, q2⟩ := machB_in hm
  rw [spec_good m c q1 q2 s1]
  simp only [Bool.not_true, cond_false, bnd_some_eq, Bool.true_and]
  cases hc : confB m c
  · exact ⟨_, rfl, rfl, nil _⟩
  simp only [Bool.not_true, cond_false, bnd_some_eq, Out.elim]
  obtain ⟨s, q, M⟩ := machB_mai hm
  cases h6 : decide (m.Symbols = 6)
  rotate_left
  · exact ⟨_, rfl, rfl, nil _⟩
  simp only [cond_false]
  have b2 := M.b2
  have hs := M.hs
  have hq := M.hq
  have b1 := M.b1
  have hlen := confB_len hc
  have en : w64 (m.Symbols + 1) = ((s + 1 : Nat) : Int) := by rw [M.hs]; exact w64_nat1 (by omega)
  have hsp := sp_run (R0 := Option (GConfig × Int)) (fail := some ((⟨0, [], []⟩ : GConfig), 5)) (by omega : s + 1 ≤ 100) (fold_mv M) (fold_act M) 1002 0 [] [⟨0, 0, 0⟩] (by omega) (by omega) (by simp) (av_one (fold_start M)) (by simp)
  have him := im_run (R0 := Option (GConfig × Int)) (fail := some ((⟨0, [], []⟩ : GConfig), 5)) (by omega : s + 1 ≤ 100) (fold_at M) (fold_act M) 1002 0 [] [⟨0, 0, 0⟩] (mput [] ⟨0, 0, 0⟩ 0) (by omega) (by omega) (by simp) (av_one (fold_start M)) (num_one _) (by simp)
  have e1 : F_spec_FoldConfig_L1 m = spL1 (some ((⟨0, [], []⟩ : GConfig), 5)) ((s + 1 : Nat) : Int) (F_spec_l13Fold m) := by rw [← en]; rfl
  have e2 : F_impl_FoldConfig_L1 m = imL1 (some ((⟨0, [], []⟩ : GConfig), 5)) ((s + 1 : Nat) : Int) (fun p v => F_impl_folded_1 p v m) (fun a => a.none) (fun a => a.write) (fun a => a.move) (fun a => (⟨a.next_kind, a.next_q, a.next_half⟩ : GfoldPlace)) := by rw [← en]; rfl
  have e3 : app ([] : List GfoldPlace) [(⟨0, 0, 0⟩ : GfoldPlace)] = some [⟨0, 0, 0⟩] := rfl
  rw [e1, e2, e3]
  simp only [mget_nil, Option.isSome_none, Bool.not_false, cond_true, bnd_some_eq, Out.elim, F_impl_size_impl_foldPlace, List.length_nil, en]
  simp only [List.map_cons, List.map_nil] at hsp
  have ez : ((0 : Nat) : Int) = 0 := rfl
  rw [ez] at hsp him ⊢
  have ef : foldE ⟨0, 0, 0⟩ = [0, 0, 0] := rfl
  rw [ef] at hsp
  rw [hsp]
  cases hb : buildA (foldA m s) (s + 1) 1002 0 ([], [(⟨0, 0, 0⟩ : GfoldPlace)]) with
  | none =>
    rw [hb] at him
    simp only at him
    rw [him]
    exact ⟨_, rfl, rfl, nil _⟩
  | some st =>
    rw [hb] at him
    obtain ⟨nums, him, hN, hV, hl, hr⟩ := him
    rw [him]
    simp only [bnd_some_eq, Out.elim]
    rw [impl_foldR c hlen.1 hlen.2.1, bnd_some_eq]
    simp only [Out.elim]
    have hVs : foldV q ⟨0, c.State, 0⟩ := ⟨.inl ⟨.inl rfl, .inl rfl⟩, by simp only; omega⟩
    have hfe := find_enc (fold_mv M) hVs st.2 hV
    have eE : foldE ⟨0, c.State, 0⟩ = [0, c.State, 0] := rfl
    rw [eE] at hfe
    have hl' : (st.2.map foldE).length = st.2.length := List.length_map _
    have hr7 : st.1.length ≤ 7000 := by have : 1000 * (s + 1) ≤ 1000 * 7 := Nat.mul_le_mul_left _ (by omega); omega
    have htr : (trimL (foldR c)).length ≤ 400 := by have := trimL_len (foldR c); rw [foldR_len] at this; omega
    have hcs : ∀ i : Int, Sml (⟨i, [m.Symbols], trimL (foldR c)⟩ : GConfig) := fun i => ⟨⟨by simp, fun _ _ => trivial⟩, ⟨by simp only; omega, fun _ _ => trivial⟩⟩
    have hg1 : 0 ≤ ((s + 1 : Nat) : Int) ∧ ((s + 1 : Nat) : Int) ≤ 1000000 := by omega
    have hg2 : 0 ≤ (st.2.length : Int) ∧ (st.2.length : Int) ≤ 1000000 := by omega
    rw [run_findL (body := F_spec_FoldConfig_L4 m c (st.2.map foldE, st.1, (st.2.length : Int))) (st.2.map foldE) (by omega) [0, c.State, 0] (fun i => cond (confB (⟨((s + 1 : Nat) : Int), (st.2.length : Int), st.1⟩ : GMachine) ⟨i, [m.Symbols], trimL (foldR c)⟩) (some ((⟨i, [m.Symbols], trimL (foldR c)⟩ : GConfig), 0)) (some ((⟨0, [], []⟩ : GConfig), 5))) (by
      intro i hi he
      have hy : ((st.2.map foldE)[i]).length ≤ 100 := by rw [he]; simp
      have hs' := same_L (xs := (st.2.map foldE)[i]) (ys := [0, c.State, 0]) (by omega) (by simp)
      have kf : decide ((i : Int) < 0) = false := decide_eq_false (by omega)
      simp only [F_spec_FoldConfig_L4, Int.ofNat_lt, hi, decide_true, cond_true, idx_nat hi, bnd_some_eq, hs', decide_eq_true he, kf, cond_false]
      rw [spec_foldR c hlen.1 hlen.2.1, bnd_some_eq]
      simp only [Out.elim]
      rw [spec_trim _ (by rw [foldR_len]; omega), bnd_some_eq, en, hl', spec_good _ _ hg1 hg2 (hcs _), bnd_some_eq]
      cases confB (⟨((s + 1 : Nat) : Int), (st.2.length : Int), st.1⟩ : GMachine) ⟨(i : Int), [m.Symbols], trimL (foldR c)⟩ <;> rfl) (by
      intro i hi he
      have hy : ((st.2.map foldE)[i]).length ≤ 100 := by
        rw [List.getElem_map]
        exact (fold_mv M).len _ (hV _ (List.getElem_mem _))
      have hs' := same_L (xs := (st.2.map foldE)[i]) (ys := [0, c.State, 0]) (by omega) (by simp)
      simp only [F_spec_FoldConfig_L4, Int.ofNat_lt, hi, decide_true, cond_true, idx_nat hi, bnd_some_eq, hs', decide_eq_false he, cond_false]
      rw [w64_nat1 (by omega)]) (by simp [F_spec_FoldConfig_L4])]
    rw [hfe]
    have e := hN ⟨0, c.State, 0⟩
    cases hi : st.2.findIdx? (fun z => decide (z = (⟨0, c.State, 0⟩ : GfoldPlace))) with
    | none =>
      rw [hi, Option.map_none] at e
      rw [e]
      exact ⟨_, rfl, rfl, nil _⟩
    | some i =>
      rw [hi, Option.map_some] at e
      rw [e]
      simp only [Option.isSome_some, Bool.not_true, cond_false, Option.getD_some, bnd_some_eq, Out.elim]
      rw [impl_trimmed _ (by simp), bnd_some_eq, trimL_one (by omega), impl_trimmed _ (by rw [foldR_len]; omega), bnd_some_eq, impl_confOf _ _ hg1 hg2 (hcs _), bnd_some_eq]
      cases confB (⟨((s + 1 : Nat) : Int), (st.2.length : Int), st.1⟩ : GMachine) ⟨(i : Int), [m.Symbols], trimL (foldR c)⟩
      · exact ⟨_, rfl, rfl, nil _⟩
      · exact ⟨_, rfl, rfl, conf_fit (by simp) (by simp only; omega)⟩
theorem law_FoldConfig (m : GMachine) (c : GConfig) (w0 : Wf.wf m) (w1 : Wf.wf c) : F_laws_FnExactFoldConfig m c = some true :=
  lawof_FoldConfig m c w0 w1 (ex_FoldConfig m c)
end Go.Fn
