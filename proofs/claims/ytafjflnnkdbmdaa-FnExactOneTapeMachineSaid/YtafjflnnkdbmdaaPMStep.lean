/-
  Machines with several tapes: a step, on both sides. No program in sight. No condition.
-/
import Derived.Test.YtafjflnnkdbmdaaPMulti
import Derived.Test.YtafjflnnkdbmdaaPConf
import Derived.Test.YtafjflnnkdbmdaaPBig
import Derived.Test.YtafjflnnkdbmdaaPPlain
namespace Go.Fn
open Go Go.Tc
/-! ### A tape -/
/-- What is known of a valid machine. -/
structure MOk (m : GMulti) : Prop where
  t2 : 2 ≤ m.Tapes
  t3 : m.Tapes ≤ 3
  len : m.Rules.length ≤ 60
  row : ∀ i (hi : i < m.Rules.length), (m.Rules[i].Read.length : Int) = m.Tapes ∧ (m.Rules[i].Write.length : Int) = m.Tapes ∧ (m.Rules[i].Move.length : Int) = m.Tapes
  ne : ∀ i (hi : i < m.Rules.length) j (hj : j < i), keyM m.Rules[j].State m.Rules[j].Read ≠ keyM m.Rules[i].State m.Rules[i].Read
theorem MOk.of {m : GMulti} (hm : multiB m = true) : MOk m := by
  unfold multiB headMM at hm
  simp only [Bool.and_eq_true, decide_eq_true_eq] at hm
  obtain ⟨⟨⟨⟨hT, _⟩, _⟩, hl⟩, hok⟩ := hm
  have hT' : 2 ≤ m.Tapes ∧ m.Tapes ≤ 3 := by simpa [inB] using hT
  have hrule : ∀ i (hi : i < m.Rules.length), ((m.Rules[i].Read.length : Int) = m.Tapes ∧ (m.Rules[i].Write.length : Int) = m.Tapes ∧ (m.Rules[i].Move.length : Int) = m.Tapes) ∧ (0 < i → befB (m.Rules.getD (i - 1) zM) m.Rules[i] = true) := fun i hi => by
    have h := hok i hi
    unfold okMR mruleB rowMN at h
    rw [mget_rule hi] at h
    simp only [Bool.and_eq_true, decide_eq_true_eq, Bool.or_eq_true] at h
    exact ⟨⟨h.1.2.1.1.1, h.1.2.1.2.1, h.1.2.2.1⟩, fun h0 => by
      rcases h.2 with h2 | h2
      · omega
      · exact h2⟩
  have hbef : ∀ i (hi : i < m.Rules.length) j (hj : j < i), befB m.Rules[j] m.Rules[i] = true := by
    intro i
    induction i with
    | zero => intro hi j hj; omega
    | succ i ih =>
      intro hi j hj
      have h1 := (hrule (i + 1) hi).2 (by omega)
      rw [Nat.add_sub_cancel, mget_rule (by omega : i < m.Rules.length)] at h1
      by_cases e : j = i
      · subst e; exact h1
      · exact befB_trans (ih (by omega) j (by omega)) h1
  refine ⟨hT'.1, hT'.2, hl, fun i hi => (hrule i hi).1, fun i hi j hj h => ?_⟩
  have e1 := (hrule i hi).1.1
  have e2 := (hrule j (by omega)).1.1
  obtain ⟨h1, h2⟩ := keyM_inj (by omega) (by omega) h
  have := hbef i hi j hj
  unfold befB at this
  rw [h1, h2, cmpL_self] at this
  simp at this
def TabOk (m : GMulti) (tb : List (Greading × Int)) : Prop := (∀ i (hi : i < m.Rules.length), mget tb (keyM m.Rules[i].State m.Rules[i].Read) = some (i : Int)) ∧ ∀ x, (∀ i (hi : i < m.Rules.length), keyM m.Rules[i].State m.Rules[i].Read ≠ x) → mget tb x = none
noncomputable def tbB {X : Type} (m : GMulti) (s19 : List (Greading × Int) × Int) : Option ((List (Greading × Int) × Int) ⊕ Out (List (Greading × Int) × Int) X) :=
  (cond (decide (s19.2 < (m.Rules.length : Int))) (bnd (idx m.Rules s19.2) fun y22 => some (.inl ((mput s19.1 (⟨y22.State, (y22.Read.getD 0 0), (y22.Read.getD 1 0), (y22.Read.getD 2 0)⟩ : Greading) s19.2), (w64 (s19.2 + 1))))) (some (.inr (.brk (s19.1, s19.2)))))
theorem mt_tableG {X : Type} {m : GMulti} (h : MOk m) : ∃ tb, run (tbB (X := X) m) (([] : List (Greading × Int)), 0) = some (.brk (tb, (m.Rules.length : Int))) ∧ TabOk m tb := by
  have hl := h.len
  have key : ∀ (n k : Nat) (tb : List (Greading × Int)), k + n = m.Rules.length → (∀ i (hi : i < m.Rules.length), i < k → mget tb (keyM m.Rules[i].State m.Rules[i].Read) = some (i : Int)) → (∀ x, (∀ i (hi : i < m.Rules.length), i < k → keyM m.Rules[i].State m.Rules[i].Read ≠ x) → mget tb x = none) →
      ∃ tb', run (tbB (X := X) m) (tb, (k : Int)) = some (.brk (tb', (m.Rules.length : Int))) ∧ TabOk m tb' := by
    intro n
    induction n with
    | zero =>
      intro k tb hk h1 h2
      obtain rfl : k = m.Rules.length := by omega
      refine ⟨tb, run_done ?_, fun i hi => h1 i hi hi, fun x hx => h2 x fun i hi _ => hx i hi⟩
      simp only [tbB]
      rw [decide_eq_false (by omega), cond_false]
    | succ n ih =>
      intro k tb hk h1 h2
      have hlt : k < m.Rules.length := by omega
      have hb : tbB (X := X) m (tb, (k : Int)) = some (.inl (mput tb (keyM m.Rules[k].State m.Rules[k].Read) (k : Int), ((k + 1 : Nat) : Int))) := by
        simp only [tbB]
        rw [decide_eq_true (by omega), cond_true, idx_nat hlt, bnd_some_eq, w64_nat1 (by omega)]
        rfl
      rw [run_next hb]
      refine ih (k + 1) _ (by omega) (fun i hi hik => ?_) (fun x hx => ?_)
      · rw [mget_mput]
        by_cases e : i = k
        · subst e; rw [if_pos rfl]
        · rw [if_neg (fun h' => h.ne k hlt i (by omega) h'.symm)]
          exact h1 i hi (by omega)
      · rw [mget_mput, if_neg (hx k hlt (by omega))]
        exact h2 x fun i hi hik => hx i hi (by omega)
  exact key m.Rules.length 0 [] (by omega) (fun i _ h => by omega) (fun x _ => rfl)
end Go.Fn
