/-
  The machine with one tape for several; the plain law of OneTapeMachine. No program in sight. No condition.
-/
import Derived.Test.YtafjflnnkdbmdaaPBuild
import Derived.Test.YtafjflnnkdbmdaaPMStep
namespace Go.Fn
open Go Go.Tc
/-! ### Small things -/
theorem ixo0 {α : Type} (a : α) (l : List α) : idx (a :: l) 0 = some a := rfl
theorem ixo1 {α : Type} (a b : α) (l : List α) : idx (a :: b :: l) 1 = some b := rfl
theorem ixo2 {α : Type} (a b c : α) (l : List α) : idx (a :: b :: c :: l) 2 = some c := rfl
theorem ixo3 {α : Type} (a b c d : α) (l : List α) : idx (a :: b :: c :: d :: l) 3 = some d := rfl
theorem ixo4 {α : Type} (a b c d e : α) (l : List α) : idx (a :: b :: c :: d :: e :: l) 4 = some e := rfl
theorem fit_one {g : GMachine} (h : g.Rules.length ≤ 1048576) : Med g ∧ Cnt.cnt g.Rules ≤ 1152921504606846976 :=
  ⟨⟨by omega, fun _ _ => trivial⟩, Nat.le_trans (cnt_le (n := 1048576) (m := 3) h fun t _ => Nat.le_refl 3) (by decide)⟩
theorem nums_one {P : Type} [DecidableEq P] (p : P) : NumOk [p] (mput ([] : List (P × Int)) p 0) := by
  intro x
  rw [mget_mput]
  by_cases e : p = x
  · subst e
    simp
  · simp [e]
theorem all_one {P : Type} {VP : P → Prop} {p : P} (h : VP p) : AllV VP [p] := fun q hq => by
  rw [List.mem_singleton.1 hq]
  exact h
/-! ### What is done in a place -/
def doneP (t d : Int) : Int := ior d (w64 (1 * 2 ^ min (t : Int).toNat 64))
def fullP (T : Int) : Int := w64 ((w64 (1 * 2 ^ min (T : Int).toNat 64)) - 1)
def befP (T t : Int) : Int := Int.tmod (w64 ((w64 (t + T)) - 1)) T
def leaveP (q k : Int) : GmultiPlace := if k = 0 then ⟨0, q, 0, 0, 0, 0, 0, 0⟩ else ⟨4, q, 0, k, 0, 0, 0, 0⟩
def ruleP (m : GMulti) (k : Int) : GMultiRule := m.Rules.getD k.toNat zM
def afterP (m : GMulti) (k t d : Int) : GmultiPlace := if d = fullP m.Tapes then leaveP (ruleP m k).Next (w64 ((w64 (t + m.Tapes)) - 1)) else ⟨3, k, befP m.Tapes t, 0, 0, 0, 0, d⟩
def putP (m : GMulti) (k t d : Int) : Int × Int × GmultiPlace :=
  if (ruleP m k).Move.getD t.toNat 0 = 0 then (w64 ((ruleP m k).Write.getD t.toNat 0 + m.Symbols), -1, afterP m k t (doneP t d))
  else ((ruleP m k).Write.getD t.toNat 0, (ruleP m k).Move.getD t.toNat 0, ⟨1, k, t, w64 (m.Tapes - 1), 0, 0, 0, doneP t d⟩)
def fndP (p : GmultiPlace) (t : Int) : Int := if t = 0 then p.found_0 else if t = 1 then p.found_1 else p.found_2
def gotP (m : GMulti) (p : GmultiPlace) (v : Int) : GmultiPlace := ⟨p.kind, p.at_, p.tape, p.count, if p.tape = 0 then w64 (w64 (v - m.Symbols) + 1) else p.found_0, if p.tape = 1 then w64 (w64 (v - m.Symbols) + 1) else p.found_1, if p.tape = 2 then w64 (w64 (v - m.Symbols) + 1) else p.found_2, p.done⟩
def symsP (T : Int) (p : GmultiPlace) : List Int := if T = 2 then [p.found_0 - 1, p.found_1 - 1] else [p.found_0 - 1, p.found_1 - 1, p.found_2 - 1]
def missP (T : Int) (p : GmultiPlace) : Bool := decide (p.found_0 = 0) || decide (p.found_1 = 0) || (decide (T = 3) && decide (p.found_2 = 0))
def turnP (m : GMulti) (p : GmultiPlace) : GmultiPlace := ⟨p.kind, p.at_, Int.tmod (w64 (p.tape + 1)) m.Tapes, p.count, p.found_0, p.found_1, p.found_2, p.done⟩
def ruleF (m : GMulti) (q : Int) (xs : List Int) : Option Nat := m.Rules.findIdx? fun r => decide (r.State = q) && decide (r.Read = xs)
def lookP (m : GMulti) (p : GmultiPlace) (v : Int) : Option (Int × Int × GmultiPlace) :=
  if m.Symbols ≤ v ∧ fndP p p.tape = 0 then
    (if missP m.Tapes (gotP m p v) = true then some (v, 1, turnP m (gotP m p v))
    else match ruleF m p.at_ (symsP m.Tapes (gotP m p v)) with
      | none => none
      | some k => some (putP m (k : Int) p.tape 0))
  else some (v, 1, turnP m p)
def moveP (m : GMulti) (k t : Int) : Int := (ruleP m k).Move.getD t.toNat 0
def oneP (m : GMulti) (p : GmultiPlace) (v : Nat) : Option (Int × Int × GmultiPlace) :=
  if p.kind = 0 then lookP m p (v : Int)
  else if p.kind = 4 then some ((v : Int), -1, leaveP p.at_ (w64 (p.count - 1)))
  else if p.kind = 3 then (if m.Symbols ≤ (v : Int) ∧ iand (Int.fdiv p.done (2 ^ min (p.tape : Int).toNat 64)) 1 = 0 then some (putP m p.at_ p.tape p.done) else some ((v : Int), -1, ⟨3, p.at_, befP m.Tapes p.tape, 0, 0, 0, 0, p.done⟩))
  else if p.kind = 1 then (if 0 < p.count then some ((v : Int), moveP m p.at_ p.tape, ⟨1, p.at_, p.tape, w64 (p.count - 1), 0, 0, 0, p.done⟩) else some (w64 (Int.tmod (v : Int) m.Symbols + m.Symbols), w64 (0 - moveP m p.at_ p.tape), ⟨2, p.at_, p.tape, w64 (m.Tapes - 1), 0, 0, 0, p.done⟩))
  else (if 0 < p.count then some ((v : Int), w64 (0 - moveP m p.at_ p.tape), ⟨2, p.at_, p.tape, w64 (p.count - 1), 0, 0, 0, p.done⟩) else some ((v : Int), -1, afterP m p.at_ p.tape p.done))
def encP (T : Int) (p : GmultiPlace) : List Int :=
  if p.kind = 0 then 0 :: p.at_ :: p.tape :: symsP T p
  else if p.kind = 4 then [4, p.at_, p.count]
  else if p.kind = 3 then [3, p.at_, p.tape, p.done]
  else [p.kind, p.at_, p.tape, p.done, p.count]
/-- The places that are reached. -/
inductive VP (m : GMulti) : GmultiPlace → Prop
  | look (q : Int) (t a b c : Nat) (ht : (t : Int) < m.Tapes) (ha : a ≤ 10) (hb : b ≤ 10) (hc : c ≤ 10) (h2 : m.Tapes = 2 → c = 0) (hz : missP m.Tapes ⟨0, q, t, 0, a, b, c, 0⟩ = true) : VP m ⟨0, q, t, 0, a, b, c, 0⟩
  | leave (q : Int) (k : Nat) (h1 : 1 ≤ k) (hk : k ≤ 10) : VP m ⟨4, q, 0, k, 0, 0, 0, 0⟩
  | work (K : Int) (hK : K = 1 ∨ K = 2) (r t k : Nat) (d : Int) (hr : r < m.Rules.length) (ht : (t : Int) < m.Tapes) (hk : k ≤ 10) : VP m ⟨K, r, t, k, 0, 0, 0, d⟩
  | sweep (r t : Nat) (d : Int) (hr : r < m.Rules.length) (ht : (t : Int) < m.Tapes) : VP m ⟨3, r, t, 0, 0, 0, 0, d⟩
/-- What is known of a valid machine. -/
structure OOk (m : GMulti) : Prop where
  ok : MOk m
  s2 : 2 ≤ m.Symbols
  s3 : m.Symbols ≤ 3
theorem OOk.of {m : GMulti} (hm : multiB m = true) : OOk m := by
  refine ⟨MOk.of hm, ?_, ?_⟩ <;>
  · unfold multiB headMM at hm
    simp only [Bool.and_eq_true, decide_eq_true_eq] at hm
    have hS : 2 ≤ m.Symbols ∧ m.Symbols ≤ 3 := by simpa [inB] using hm.1.1.1.2
    omega
theorem OOk.t23 {m : GMulti} (h : OOk m) : m.Tapes = 2 ∨ m.Tapes = 3 := by
  have := h.ok.t2
  have := h.ok.t3
  omega
theorem vp_start {m : GMulti} (h : OOk m) (q : Int) : VP m ⟨0, q, 0, 0, 0, 0, 0, 0⟩ := by
  have := h.ok.t2
  exact VP.look q 0 0 0 0 (by simp only [Int.natCast_zero]; omega) (by omega) (by omega) (by omega) (fun _ => rfl) rfl
theorem vp_leave {m : GMulti} (h : OOk m) (q : Int) (k : Nat) (hk : k ≤ 10) : VP m (leaveP q (k : Int)) := by
  unfold leaveP
  split
  · exact vp_start h q
  · exact VP.leave q k (by omega) hk
theorem bef_lt {T : Int} {t : Nat} (hT : T = 2 ∨ T = 3) (ht : (t : Int) < T) : ∃ u : Nat, befP T t = (u : Int) ∧ (u : Int) < T := by
  have : t = 0 ∨ t = 1 ∨ t = 2 := by omega
  rcases hT with rfl | rfl <;> rcases this with rfl | rfl | rfl <;> first | omega | skip
  · exact ⟨1, rfl, by decide⟩
  · exact ⟨0, rfl, by decide⟩
  · exact ⟨2, rfl, by decide⟩
  · exact ⟨0, rfl, by decide⟩
  · exact ⟨1, rfl, by decide⟩
theorem turn_lt {T : Int} {t : Nat} (hT : T = 2 ∨ T = 3) (ht : (t : Int) < T) : ∃ u : Nat, Int.tmod (w64 ((t : Int) + 1)) T = (u : Int) ∧ (u : Int) < T := by
  have : t = 0 ∨ t = 1 ∨ t = 2 := by omega
  rcases hT with rfl | rfl <;> rcases this with rfl | rfl | rfl <;> first | omega | skip
  · exact ⟨1, rfl, by decide⟩
  · exact ⟨0, rfl, by decide⟩
  · exact ⟨1, rfl, by decide⟩
  · exact ⟨2, rfl, by decide⟩
  · exact ⟨0, rfl, by decide⟩
theorem back_eq {T : Int} {t : Nat} (hT : T = 2 ∨ T = 3) (ht : (t : Int) < T) : ∃ u : Nat, w64 ((w64 ((t : Int) + T)) - 1) = (u : Int) ∧ 1 ≤ u ∧ u ≤ 10 := by
  refine ⟨t + T.toNat - 1, ?_, by omega, by omega⟩
  rw [w64_in (n := (t : Int) + T) (by omega) (by omega), w64_in (by omega) (by omega)]
  omega
theorem vp_after {m : GMulti} (h : OOk m) {r t : Nat} (hr : r < m.Rules.length) (ht : (t : Int) < m.Tapes) (d : Int) : VP m (afterP m (r : Int) (t : Int) d) := by
  unfold afterP
  split
  · obtain ⟨u, e, _, hu⟩ := back_eq h.t23 ht
    rw [e]
    exact vp_leave h _ u hu
  · obtain ⟨u, e, hu⟩ := bef_lt h.t23 ht
    rw [e]
    exact VP.sweep r u d hr hu
theorem one_less {T : Int} (hT : T = 2 ∨ T = 3) : ∃ u : Nat, w64 (T - 1) = (u : Int) ∧ u ≤ 10 := by
  rcases hT with rfl | rfl
  · exact ⟨1, rfl, by decide⟩
  · exact ⟨2, rfl, by decide⟩
theorem count_less {k : Nat} (h1 : 1 ≤ k) (hk : k ≤ 10) : w64 ((k : Int) - 1) = ((k - 1 : Nat) : Int) := by
  rw [w64_in (by omega) (by omega)]
  omega
theorem vp_put {m : GMulti} (h : OOk m) {r t : Nat} (hr : r < m.Rules.length) (ht : (t : Int) < m.Tapes) (d : Int) : VP m (putP m (r : Int) (t : Int) d).2.2 := by
  unfold putP
  split
  · exact vp_after h hr ht _
  · obtain ⟨u, e, hu⟩ := one_less h.t23
    rw [e]
    exact VP.work 1 (.inl rfl) r t u _ hr ht hu
theorem ruleF_lt {m : GMulti} {q : Int} {xs : List Int} {k : Nat} (h : ruleF m q xs = some k) : k < m.Rules.length := (List.findIdx?_eq_some_iff_getElem.1 h).1
theorem one_act {m : GMulti} (h : OOk m) : ActOk (oneP m) (2 * m.Symbols.toNat) (VP m) := by
  refine ⟨fun p v w mv x hp hv he => ?_⟩
  have s2 := h.s2
  have s3 := h.s3
  cases hp with
  | look q t a b c ht ha hb hc h2 hz =>
    simp only [oneP, if_true, lookP] at he
    obtain ⟨u, eu, hu⟩ := turn_lt h.t23 ht
    split at he
    · rename_i hc1
      have e1 : w64 (w64 ((v : Int) - m.Symbols) + 1) = ((v - m.Symbols.toNat + 1 : Nat) : Int) := by
        rw [w64_in (n := (v : Int) - m.Symbols) (by omega) (by omega), w64_in (by omega) (by omega)]
        omega
      have eg : gotP m ⟨0, q, t, 0, a, b, c, 0⟩ (v : Int) = ⟨0, q, t, 0, ((if t = 0 then v - m.Symbols.toNat + 1 else a : Nat) : Int), ((if t = 1 then v - m.Symbols.toNat + 1 else b : Nat) : Int), ((if t = 2 then v - m.Symbols.toNat + 1 else c : Nat) : Int), 0⟩ := by
        have k0 : ((t : Int) = 0) ↔ t = 0 := by omega
        have k1 : ((t : Int) = 1) ↔ t = 1 := by omega
        have k2 : ((t : Int) = 2) ↔ t = 2 := by omega
        simp only [gotP, e1, k0, k1, k2]
        split <;> split <;> split <;> rfl
      split at he
      · rename_i hm
        cases he
        rw [eg] at hm ⊢
        simp only [turnP, eu]
        refine VP.look q u _ _ _ hu (by split <;> omega) (by split <;> omega) (by split <;> omega) (fun k => by rw [if_neg (by omega)]; exact h2 k) ?_
        exact hm
      · split at he
        · cases he
        · rename_i k hk
          injection he with he
          have := vp_put h (ruleF_lt hk) ht 0
          rw [he] at this
          exact this
    · cases he
      simp only [turnP, eu]
      exact VP.look q u a b c hu ha hb hc h2 hz
  | leave q k h1 hk =>
    simp only [oneP, if_neg (show ¬ (4 : Int) = 0 by decide), if_true] at he
    cases he
    rw [count_less h1 hk]
    exact vp_leave h _ _ (by omega)
  | work K hK r t k d hr ht hk =>
    obtain ⟨u, e, hu⟩ := one_less h.t23
    rcases hK with rfl | rfl
    · simp only [oneP, if_neg (show ¬ (1 : Int) = 0 by decide), if_neg (show ¬ (1 : Int) = 4 by decide), if_neg (show ¬ (1 : Int) = 3 by decide), if_true] at he
      split at he
      · cases he
        rw [count_less (by omega) hk]
        exact VP.work 1 (.inl rfl) r t _ d hr ht (by omega)
      · cases he
        rw [e]
        exact VP.work 2 (.inr rfl) r t u d hr ht hu
    · simp only [oneP, if_neg (show ¬ (2 : Int) = 0 by decide), if_neg (show ¬ (2 : Int) = 4 by decide), if_neg (show ¬ (2 : Int) = 3 by decide), if_neg (show ¬ (2 : Int) = 1 by decide)] at he
      split at he
      · cases he
        rw [count_less (by omega) hk]
        exact VP.work 2 (.inr rfl) r t _ d hr ht (by omega)
      · cases he
        exact vp_after h hr ht d
  | sweep r t d hr ht =>
    simp only [oneP, if_neg (show ¬ (3 : Int) = 0 by decide), if_neg (show ¬ (3 : Int) = 4 by decide), if_true] at he
    split at he
    · injection he with he
      have := vp_put h hr ht d
      rw [he] at this
      exact this
    · cases he
      obtain ⟨u, e, hu⟩ := bef_lt h.t23 ht
      rw [e]
      exact VP.sweep r u d hr hu
/-! ### What both read -/
theorem nz_one {b : Int} (h : b ≠ 0) : nz b = some () := by unfold nz; rw [if_neg h]
theorem nneg_one {b : Int} (h : 0 ≤ b) : nneg b = some () := by unfold nneg; rw [if_pos h]
theorem ruleP_at {m : GMulti} {r : Nat} (hr : r < m.Rules.length) : ruleP m (r : Int) = m.Rules[r] := by
  unfold ruleP
  rw [Int.toNat_natCast]
  exact mget_rule hr
theorem getD_one {xs : List Int} {t : Nat} (h : t < xs.length) : xs.getD t 0 = xs[t] := by
  rw [List.getD_eq_getElem?_getD, List.getElem?_eq_getElem h]
  rfl
theorem look_key {m : GMulti} (h : MOk m) {tb : List (Greading × Int)} (ht : TabOk m tb) (q : Int) (xs : List Int) (hx : (xs.length : Int) = m.Tapes) : mget tb (keyM q xs) = (ruleF m q xs).map fun (i : Nat) => (i : Int) := by
  have t3 := h.t3
  unfold ruleF
  cases hq : m.Rules.findIdx? fun r => decide (r.State = q) && decide (r.Read = xs) with
  | none =>
    refine ht.2 _ fun i hi h' => ?_
    have e1 := (h.row i hi).1
    obtain ⟨h1, h2⟩ := keyM_inj (by omega) (by omega) h'
    have := List.findIdx?_eq_none_iff.1 hq _ (List.getElem_mem hi)
    rw [h1, h2] at this
    simp at this
  | some i =>
    obtain ⟨hi, hp, _⟩ := List.findIdx?_eq_some_iff_getElem.1 hq
    simp only [Bool.and_eq_true, decide_eq_true_eq] at hp
    show _ = some (i : Int)
    rw [← ht.1 i hi, hp.1, hp.2]
theorem symsP_len {T : Int} (hT : T = 2 ∨ T = 3) (p : GmultiPlace) : ((symsP T p).length : Int) = T := by
  rcases hT with rfl | rfl <;> rfl
theorem miss_iff {T : Int} (hT : T = 2 ∨ T = 3) (p : GmultiPlace) : decide ((-1 : Int) ∈ symsP T p) = missP T p := by
  have e : ∀ x : Int, ((-1 : Int) = x - 1) = (x = 0) := fun x => by rw [eq_iff_iff]; omega
  rcases hT with rfl | rfl
  · simp [symsP, missP, e]
  · simp [symsP, missP, e, Bool.or_assoc]
/-! ### The program's -/
abbrev TupO := Int × Int × Int × Int × Int × Int × Int × Int × Int × Int × Bool
def tupO (x : Int × Int × GmultiPlace) : TupO := (x.1, x.2.1, x.2.2.kind, x.2.2.at_, x.2.2.tape, x.2.2.count, x.2.2.found_0, x.2.2.found_1, x.2.2.found_2, x.2.2.done, false)
def nonO (a : TupO) : Bool := a.2.2.2.2.2.2.2.2.2.2
def placeO (a : TupO) : GmultiPlace := ⟨a.2.2.1, a.2.2.2.1, a.2.2.2.2.1, a.2.2.2.2.2.1, a.2.2.2.2.2.2.1, a.2.2.2.2.2.2.2.1, a.2.2.2.2.2.2.2.2.1, a.2.2.2.2.2.2.2.2.2.1⟩
/-- What is said of a tuple. -/
def IsO (o : Option TupO) (x : Option (Int × Int × GmultiPlace)) : Prop := ∃ a, o = some a ∧ x = if nonO a then none else some (a.1, a.2.1, placeO a)
theorem isO_tup {o : Option TupO} {x : Int × Int × GmultiPlace} (h : o = some (tupO x)) : IsO o (some x) := ⟨_, h, rfl⟩
theorem im_leave (q k : Int) : F_impl_leave q k = some (leaveP q k) := by
  unfold F_impl_leave leaveP F_impl_look
  by_cases h : k = 0
  · rw [decide_eq_true h, if_pos h]; rfl
  · rw [decide_eq_false h, if_neg h]; rfl
def eightO (z : GmultiPlace) : Int × Int × Int × Int × Int × Int × Int × Int := (z.kind, z.at_, z.tape, z.count, z.found_0, z.found_1, z.found_2, z.done)
theorem im_after {m : GMulti} (h : OOk m) {y : GmultiPlace} {r : Nat} (hr : r < m.Rules.length) (ha : y.at_ = (r : Int)) : F_impl_OneTapeMachine_L9 m y = some (eightO (afterP m (r : Int) y.tape y.done)) := by
  have t2 := h.ok.t2
  have hf : (w64 ((w64 (1 * 2 ^ min (m.Tapes : Int).toNat 64)) - 1)) = fullP m.Tapes := rfl
  have hb : (Int.tmod (w64 ((w64 (y.tape + m.Tapes)) - 1)) m.Tapes) = befP m.Tapes y.tape := rfl
  unfold F_impl_OneTapeMachine_L9 afterP
  rw [nneg_one (by omega), bnd_some_eq, ha, hf, hb, idx_nat hr, bnd_some_eq, im_leave, bnd_some_eq, nz_one (by omega), bnd_some_eq, ruleP_at hr]
  by_cases hd : y.done = fullP m.Tapes
  · rw [decide_eq_true hd, if_pos hd]; rfl
  · rw [decide_eq_false hd, if_neg hd]; rfl
noncomputable def putF (m : GMulti) (k t d : Int) : Option TupO :=
  bnd (idx m.Rules k) fun y195 => bnd (nneg t) fun _ => bnd (idx y195.Move t) fun y202 => (cond (decide (y202 = 0)) (bnd (bnd (idx y195.Write t) fun y209 => bnd (nneg m.Tapes) fun _ => (cond (decide ((ior d (w64 (1 * 2 ^ min (t : Int).toNat 64))) = (w64 ((w64 (1 * 2 ^ min (m.Tapes : Int).toNat 64)) - 1)))) (bnd (idx m.Rules k) fun y222 => bnd (F_impl_leave y222.Next (w64 ((w64 (t + m.Tapes)) - 1))) fun r230 => some (.brk ((w64 (y209 + m.Symbols)), (-1), r230.kind, r230.at_, r230.tape, r230.count, r230.found_0, r230.found_1, r230.found_2, r230.done))) (bnd (nz m.Tapes) fun _ => some (.brk ((w64 (y209 + m.Symbols)), (-1), 3, k, (Int.tmod (w64 ((w64 (t + m.Tapes)) - 1)) m.Tapes), 0, 0, 0, 0, (ior d (w64 (1 * 2 ^ min (t : Int).toNat 64))))))) : Option (Out (Int × Int × Int × Int × Int × Int × Int × Int × Int × Int) (Option TupO))) (Out.elim (fun (s207 : Int × Int × Int × Int × Int × Int × Int × Int × Int × Int) => some (s207.1, s207.2.1, s207.2.2.1, s207.2.2.2.1, s207.2.2.2.2.1, s207.2.2.2.2.2.1, s207.2.2.2.2.2.2.1, s207.2.2.2.2.2.2.2.1, s207.2.2.2.2.2.2.2.2.1, s207.2.2.2.2.2.2.2.2.2, false)) (fun (r : Option TupO) => r))) (bnd (idx y195.Write t) fun y236 => bnd (idx y195.Move t) fun y240 => some (y236, y240, 1, k, t, (w64 (m.Tapes - 1)), 0, 0, 0, (ior d (w64 (1 * 2 ^ min (t : Int).toNat 64))), false)))
theorem im_put {m : GMulti} (h : OOk m) {r t : Nat} (hr : r < m.Rules.length) (ht : (t : Int) < m.Tapes) (d : Int) : putF m (r : Int) (t : Int) d = some (tupO (putP m (r : Int) (t : Int) d)) := by
  have t2 := h.ok.t2
  obtain ⟨_, hw, hm⟩ := h.ok.row r hr
  have h1 : t < m.Rules[r].Write.length := by omega
  have h2 : t < m.Rules[r].Move.length := by omega
  have hf : (w64 ((w64 (1 * 2 ^ min (m.Tapes : Int).toNat 64)) - 1)) = fullP m.Tapes := rfl
  have hb : (Int.tmod (w64 ((w64 ((t : Int) + m.Tapes)) - 1)) m.Tapes) = befP m.Tapes t := rfl
  have hd : (ior d (w64 (1 * 2 ^ min ((t : Int)).toNat 64))) = doneP t d := rfl
  unfold putF putP afterP
  rw [hf, hb, hd]
  simp only [idx_nat hr, idx_nat h1, idx_nat h2, bnd_some_eq, nneg_one (show (0 : Int) ≤ (t : Int) by omega), nneg_one (show (0 : Int) ≤ m.Tapes by omega), nz_one (show m.Tapes ≠ 0 by omega), im_leave, ruleP_at hr, Int.toNat_natCast, getD_one h1, getD_one h2]
  by_cases e : m.Rules[r].Move[t] = 0
  · rw [decide_eq_true e, if_pos e]
    by_cases e2 : doneP t d = fullP m.Tapes
    · rw [decide_eq_true e2, if_pos e2]; rfl
    · rw [decide_eq_false e2, if_neg e2]; rfl
  · rw [decide_eq_false e, if_neg e]; rfl
def gF (x : Int) : Int := if (w64 (x - 1)) > 0 then (w64 (x - 1)) else 0
theorem gF_pos {x : Int} (h0 : 0 ≤ x) (h1 : x ≤ 100) (h : x ≠ 0) : gF x = x - 1 := by
  unfold gF
  rw [w64_in (by omega) (by omega)]
  split <;> omega
noncomputable def lkB {X : Type} (T : Int) (F : List Int) (s107 : Int × Int × Int × Bool × Int) : Option ((Int × Int × Int × Bool × Int) ⊕ Out (Int × Int × Int × Bool × Int) X) :=
  (cond (decide (s107.2.2.2.2 < T)) (cond s107.2.2.2.1 (bnd (idx F s107.2.2.2.2) fun y111 => bnd (idx ([s107.1, s107.2.1, s107.2.2.1] : List Int) s107.2.2.2.2) fun _ => some (.inl ((if s107.2.2.2.2 = ((0 : Nat) : Int) then (if (w64 (y111 - 1)) > 0 then (w64 (y111 - 1)) else 0) else s107.1), (if s107.2.2.2.2 = ((1 : Nat) : Int) then (if (w64 (y111 - 1)) > 0 then (w64 (y111 - 1)) else 0) else s107.2.1), (if s107.2.2.2.2 = ((2 : Nat) : Int) then (if (w64 (y111 - 1)) > 0 then (w64 (y111 - 1)) else 0) else s107.2.2.1), true, (w64 (s107.2.2.2.2 + 1))))) (bnd (idx F s107.2.2.2.2) fun y115 => bnd (idx F s107.2.2.2.2) fun y117 => bnd (idx ([s107.1, s107.2.1, s107.2.2.1] : List Int) s107.2.2.2.2) fun _ => some (.inl ((if s107.2.2.2.2 = ((0 : Nat) : Int) then (if (w64 (y117 - 1)) > 0 then (w64 (y117 - 1)) else 0) else s107.1), (if s107.2.2.2.2 = ((1 : Nat) : Int) then (if (w64 (y117 - 1)) > 0 then (w64 (y117 - 1)) else 0) else s107.2.1), (if s107.2.2.2.2 = ((2 : Nat) : Int) then (if (w64 (y117 - 1)) > 0 then (w64 (y117 - 1)) else 0) else s107.2.2.1), (decide (y115 = 0)), (w64 (s107.2.2.2.2 + 1)))))) (some (.inr (.brk (s107.1, s107.2.1, s107.2.2.1, s107.2.2.2.1, s107.2.2.2.2)))))
theorem lk_0 {X : Type} {T : Int} (hT : T = 2 ∨ T = 3) (f0 f1 f2 a b c : Int) : lkB (X := X) T [f0, f1, f2] (a, b, c, false, 0) = some (.inl (gF f0, b, c, decide (f0 = 0), 1)) := by
  rcases hT with rfl | rfl <;> rfl
theorem lk_1 {X : Type} {T : Int} (hT : T = 2 ∨ T = 3) (f0 f1 f2 a b c : Int) (z : Bool) : lkB (X := X) T [f0, f1, f2] (a, b, c, z, 1) = some (.inl (a, gF f1, c, z || decide (f1 = 0), 2)) := by
  rcases hT with rfl | rfl <;> cases z <;> rfl
theorem lk_2 {X : Type} (f0 f1 f2 a b c : Int) (z : Bool) : lkB (X := X) 3 [f0, f1, f2] (a, b, c, z, 2) = some (.inl (a, b, gF f2, z || decide (f2 = 0), 3)) := by
  cases z <;> rfl
theorem lk_run {X : Type} {T : Int} (hT : T = 2 ∨ T = 3) (p : GmultiPlace) : ∃ c, run (lkB (X := X) T [p.found_0, p.found_1, p.found_2]) (0, 0, 0, false, 0) = some (.brk (gF p.found_0, gF p.found_1, c, missP T p, T)) ∧ c = (if T = 2 then 0 else gF p.found_2) := by
  rw [run_next (lk_0 hT _ _ _ _ _ _), run_next (lk_1 hT _ _ _ _ _ _ _)]
  rcases hT with rfl | rfl
  · refine ⟨0, run_done ?_, rfl⟩
    simp [lkB, missP]
  · rw [run_next (lk_2 _ _ _ _ _ _ _)]
    refine ⟨gF p.found_2, run_done ?_, rfl⟩
    simp [lkB, missP]
theorem fnd_idx {p : GmultiPlace} {t : Nat} (h : t < 3) : idx ([p.found_0, p.found_1, p.found_2] : List Int) (t : Int) = some (fndP p (t : Int)) := by
  have : t = 0 ∨ t = 1 ∨ t = 2 := by omega
  rcases this with rfl | rfl | rfl <;> rfl
theorem got_le {m : GMulti} (h : OOk m) {q : Int} {t a b c v : Nat} (ha : a ≤ 10) (hb : b ≤ 10) (hc : c ≤ 10) (hS : m.Symbols ≤ (v : Int)) (hv : (v : Int) < 2 * m.Symbols) :
    ∀ z, (z = (gotP m ⟨0, q, t, 0, a, b, c, 0⟩ (v : Int)).found_0 ∨ z = (gotP m ⟨0, q, t, 0, a, b, c, 0⟩ (v : Int)).found_1 ∨ z = (gotP m ⟨0, q, t, 0, a, b, c, 0⟩ (v : Int)).found_2) → 0 ≤ z ∧ z ≤ 100 := by
  have s2 := h.s2
  have s3 := h.s3
  have e1 : w64 (w64 ((v : Int) - m.Symbols) + 1) = (v : Int) - m.Symbols + 1 := by
    rw [w64_in (n := (v : Int) - m.Symbols) (by omega) (by omega), w64_in (by omega) (by omega)]
  intro z hz
  simp only [gotP, e1] at hz
  rcases hz with rfl | rfl | rfl <;> split <;> omega
theorem im_look {m : GMulti} (h : OOk m) {tb : List (Greading × Int)} {l : Int} (hb : TabOk m tb) {q : Int} {t a b c v : Nat} (ht : (t : Int) < m.Tapes) (ha : a ≤ 10) (hb' : b ≤ 10) (hc : c ≤ 10) (_ : m.Tapes = 2 → c = 0) (hv : (v : Int) < 2 * m.Symbols) :
    IsO (F_impl_OneTapeMachine_L5 m (tb, l) ([], [], [], (v : Int)) ⟨0, q, t, 0, a, b, c, 0⟩) (lookP m ⟨0, q, t, 0, a, b, c, 0⟩ (v : Int)) := by
  have t2 := h.ok.t2
  have t3 := h.ok.t3
  have hfi := fnd_idx (p := ⟨0, q, t, 0, a, b, c, 0⟩) (by omega : t < 3)
  simp only at hfi
  have hL6 : F_impl_OneTapeMachine_L6 m ([], [], [], (v : Int)) ⟨0, q, t, 0, a, b, c, 0⟩ = lkB m.Tapes [(gotP m ⟨0, q, t, 0, a, b, c, 0⟩ (v : Int)).found_0, (gotP m ⟨0, q, t, 0, a, b, c, 0⟩ (v : Int)).found_1, (gotP m ⟨0, q, t, 0, a, b, c, 0⟩ (v : Int)).found_2] := rfl
  have hlk : lookP m ⟨0, q, t, 0, a, b, c, 0⟩ (v : Int) = if m.Symbols ≤ (v : Int) ∧ fndP ⟨0, q, t, 0, a, b, c, 0⟩ (t : Int) = 0 then
    (if missP m.Tapes (gotP m ⟨0, q, t, 0, a, b, c, 0⟩ (v : Int)) = true then some ((v : Int), 1, turnP m (gotP m ⟨0, q, t, 0, a, b, c, 0⟩ (v : Int)))
    else match ruleF m q (symsP m.Tapes (gotP m ⟨0, q, t, 0, a, b, c, 0⟩ (v : Int))) with
      | none => none
      | some k => some (putP m (k : Int) (t : Int) 0))
    else some ((v : Int), 1, turnP m ⟨0, q, t, 0, a, b, c, 0⟩) := rfl
  generalize lookP m ⟨0, q, t, 0, a, b, c, 0⟩ (v : Int) = lk at hlk ⊢
  unfold F_impl_OneTapeMachine_L5
  simp only [hfi, bnd_some_eq, nz_one (show m.Tapes ≠ 0 by omega)]
  by_cases hS : m.Symbols ≤ (v : Int)
  · rw [decide_eq_true hS]
    simp only [cond_true, bnd_some_eq, Out.elim]
    by_cases hz : fndP ⟨0, q, t, 0, a, b, c, 0⟩ (t : Int) = 0
    · rw [if_pos ⟨hS, hz⟩] at hlk
      rw [decide_eq_true hz, cond_true, hL6]
      obtain ⟨c', hrun, hc'⟩ := lk_run (X := Option TupO) h.t23 (gotP m ⟨0, q, t, 0, a, b, c, 0⟩ (v : Int))
      rw [hrun, bnd_some_eq]
      simp only [Out.elim]
      cases hm : missP m.Tapes (gotP m ⟨0, q, t, 0, a, b, c, 0⟩ (v : Int)) with
      | true =>
        rw [hm, if_pos rfl] at hlk
        subst hlk
        exact isO_tup rfl
      | false =>
        rw [hm, if_neg (by decide)] at hlk
        simp only [Bool.not_false, cond_true]
        have hle := got_le h (q := q) (t := t) ha hb' hc hS hv
        have hkey : (⟨q, gF (gotP m ⟨0, q, t, 0, a, b, c, 0⟩ (v : Int)).found_0, gF (gotP m ⟨0, q, t, 0, a, b, c, 0⟩ (v : Int)).found_1, c'⟩ : Greading) = keyM q (symsP m.Tapes (gotP m ⟨0, q, t, 0, a, b, c, 0⟩ (v : Int))) := by
          have l0 := hle _ (.inl rfl)
          have l1 := hle _ (.inr (.inl rfl))
          have l2 := hle _ (.inr (.inr rfl))
          unfold missP at hm
          simp only [Bool.or_eq_false_iff, decide_eq_false_iff_not, Bool.and_eq_false_iff] at hm
          obtain ⟨⟨n0, n1⟩, n2⟩ := hm
          rw [gF_pos l0.1 l0.2 n0, gF_pos l1.1 l1.2 n1, hc']
          rcases h.t23 with e | e
          · rw [e]; rfl
          · rw [e] at n2 ⊢
            rw [gF_pos l2.1 l2.2 (by rcases n2 with n2 | n2; · exact absurd rfl n2
                                     · exact n2)]
            rfl
        have hlook := look_key h.ok hb q _ (symsP_len h.t23 (gotP m ⟨0, q, t, 0, a, b, c, 0⟩ (v : Int)))
        rw [hkey, hlook]
        cases hr : ruleF m q (symsP m.Tapes (gotP m ⟨0, q, t, 0, a, b, c, 0⟩ (v : Int))) with
        | none =>
          rw [hr] at hlk
          subst hlk
          exact ⟨_, rfl, rfl⟩
        | some k =>
          rw [hr] at hlk
          subst hlk
          have hk := ruleF_lt hr
          have hL7 : F_impl_OneTapeMachine_L7 m (tb, l) ⟨0, q, t, 0, a, b, c, 0⟩ (gF (gotP m ⟨0, q, t, 0, a, b, c, 0⟩ (v : Int)).found_0, gF (gotP m ⟨0, q, t, 0, a, b, c, 0⟩ (v : Int)).found_1, c', false, m.Tapes) = putF m ((mget tb (⟨q, gF (gotP m ⟨0, q, t, 0, a, b, c, 0⟩ (v : Int)).found_0, gF (gotP m ⟨0, q, t, 0, a, b, c, 0⟩ (v : Int)).found_1, c'⟩ : Greading)).getD 0) (t : Int) 0 := rfl
          rw [hL7, hkey, hlook, hr]
          simp only [Option.map_some, Option.isSome_some, cond_true, Option.getD_some]
          rw [im_put h hk ht, bnd_some_eq]
          exact isO_tup rfl
    · rw [if_neg (fun k => hz k.2)] at hlk
      subst hlk
      rw [decide_eq_false hz, cond_false]
      exact isO_tup rfl
  · rw [if_neg (fun k => hS k.1)] at hlk
    subst hlk
    rw [decide_eq_false hS]
    simp only [cond_false, bnd_some_eq, Out.elim]
    exact isO_tup rfl
theorem im_at {m : GMulti} (h : OOk m) {tb : List (Greading × Int)} {l : Int} (hb : TabOk m tb) : AtOk (fun p v => F_impl_OneTapeMachine_L4 m (tb, l) ([], [], [], v) p) nonO (fun a => a.1) (fun a => a.2.1) placeO (oneP m) (2 * m.Symbols.toNat) (VP m) := by
  intro p v hp hv
  have t2 := h.ok.t2
  have s2 := h.s2
  have hv' : (v : Int) < 2 * m.Symbols := by omega
  have hT := nz_one (show m.Tapes ≠ 0 by omega)
  have hS := nz_one (show m.Symbols ≠ 0 by omega)
  show IsO (F_impl_OneTapeMachine_L4 m (tb, l) ([], [], [], (v : Int)) p) (oneP m p v)
  cases hp with
  | look q t a b c ht ha hb' hc h2 hz =>
    obtain ⟨x, hx, he⟩ := im_look h (l := l) hb (q := q) ht ha hb' hc h2 hv'
    refine ⟨x, ?_, ?_⟩
    · unfold F_impl_OneTapeMachine_L4
      simp only [decide_true, cond_true]
      rw [hx]
      rfl
    · simp only [oneP, if_true]
      exact he
  | leave q k h1 hk =>
    refine isO_tup ?_
    have e1 : decide ((4 : Int) = 0) = false := rfl
    unfold F_impl_OneTapeMachine_L4
    simp only [e1, cond_false, decide_true, cond_true, im_leave, bnd_some_eq]
    rfl
  | work K hK r t k d hr ht hk =>
    obtain ⟨_, hw, hm⟩ := h.ok.row r hr
    have h2 : t < m.Rules[r].Move.length := by omega
    have hmv : moveP m r t = m.Rules[r].Move[t] := by
      unfold moveP
      rw [ruleP_at hr, Int.toNat_natCast, getD_one h2]
    unfold F_impl_OneTapeMachine_L4 oneP
    rw [hmv]
    rcases hK with rfl | rfl
    · have e0 : decide ((1 : Int) = 0) = false := rfl
      have e4 : decide ((1 : Int) = 4) = false := rfl
      have e3 : decide ((1 : Int) = 3) = false := rfl
      simp only [e0, e4, e3, cond_false, decide_true, cond_true, idx_nat hr, idx_nat h2, bnd_some_eq, Out.elim, hS, if_neg (show ¬ (1 : Int) = 0 by decide), if_neg (show ¬ (1 : Int) = 4 by decide), if_neg (show ¬ (1 : Int) = 3 by decide), if_true]
      by_cases hc : (0 : Int) < (k : Int)
      · rw [decide_eq_true hc, if_pos hc]
        exact isO_tup rfl
      · rw [decide_eq_false hc, if_neg hc]
        exact isO_tup rfl
    · have e0 : decide ((2 : Int) = 0) = false := rfl
      have e4 : decide ((2 : Int) = 4) = false := rfl
      have e3 : decide ((2 : Int) = 3) = false := rfl
      have e1 : decide ((2 : Int) = 1) = false := rfl
      simp only [e0, e4, e3, e1, cond_false, idx_nat hr, idx_nat h2, bnd_some_eq, Out.elim, if_neg (show ¬ (2 : Int) = 0 by decide), if_neg (show ¬ (2 : Int) = 4 by decide), if_neg (show ¬ (2 : Int) = 3 by decide), if_neg (show ¬ (2 : Int) = 1 by decide), im_after (y := ⟨2, r, t, k, 0, 0, 0, d⟩) h hr rfl]
      by_cases hc : (0 : Int) < (k : Int)
      · rw [decide_eq_true hc, if_pos hc]
        exact isO_tup rfl
      · rw [decide_eq_false hc, if_neg hc]
        exact isO_tup rfl
  | sweep r t d hr ht =>
    have e0 : decide ((3 : Int) = 0) = false := rfl
    have e4 : decide ((3 : Int) = 4) = false := rfl
    have hL8 : F_impl_OneTapeMachine_L8 m ⟨3, r, t, 0, 0, 0, 0, d⟩ = some (tupO (putP m (r : Int) (t : Int) d)) := im_put h hr ht d
    unfold F_impl_OneTapeMachine_L4 oneP
    simp only [e0, e4, cond_false, decide_true, cond_true, hL8, bnd_some_eq, hT, nneg_one (show (0 : Int) ≤ (t : Int) by omega), if_neg (show ¬ (3 : Int) = 0 by decide), if_neg (show ¬ (3 : Int) = 4 by decide), if_true]
    by_cases hc : m.Symbols ≤ (v : Int)
    · rw [decide_eq_true hc, cond_true]
      by_cases hd : iand (Int.fdiv d (2 ^ min (t : Int).toNat 64)) 1 = 0
      · rw [decide_eq_true hd, if_pos ⟨hc, hd⟩]
        exact isO_tup rfl
      · rw [decide_eq_false hd, if_neg (fun k => hd k.2)]
        exact isO_tup rfl
    · rw [decide_eq_false hc, if_neg (fun k => hc k.1)]
      exact isO_tup rfl
/-! ### The reference's -/
theorem sp_has (xs : List Int) (x : Int) (h : xs.length ≤ 1048576) : F_spec_l00Has xs x = some (decide (x ∈ xs)) := by
  unfold F_spec_l00Has
  rw [run_all xs.length (by omega) (fun i => decide (xs[i]? ≠ some x)) (.ret true) (.brk (xs.length : Int)) ?_ ?_ ?_]
  · by_cases e : x ∈ xs
    · rw [decide_eq_true e, if_neg]
      · rfl
      · intro k
        obtain ⟨i, hi⟩ := List.mem_iff_getElem?.1 e
        have := k i (List.getElem?_eq_some_iff.1 hi).1
        simp [hi] at this
    · rw [decide_eq_false e, if_pos]
      · rfl
      · intro i hi
        refine decide_eq_true fun k => e (List.mem_of_getElem? k)
  · intro i hi hp
    simp only [decide_eq_true_eq, List.getElem?_eq_getElem hi, ne_eq, Option.some.injEq] at hp
    simp [F_spec_l00Has_L1, hi, idx_nat hi, hp]
  · intro i hi hp
    simp only [decide_eq_false_iff_not, List.getElem?_eq_getElem hi, ne_eq, Option.some.injEq, Classical.not_not] at hp
    simp [F_spec_l00Has_L1, hi, idx_nat hi, hp]
  · simp [F_spec_l00Has_L1]
theorem sp_look {m : GMulti} (h : OOk m) (q : Int) : F_spec_l13Look m q = some (encP m.Tapes ⟨0, q, 0, 0, 0, 0, 0, 0⟩) := by
  unfold F_spec_l13Look
  rcases h.t23 with e | e
  · rw [run_next (s' := ([0, q, 0, -1], 1)) (by unfold F_spec_l13Look_L1; rw [e]; rfl), run_next (s' := ([0, q, 0, -1, -1], 2)) (by unfold F_spec_l13Look_L1; rw [e]; rfl), run_done (x := .brk ([0, q, 0, -1, -1], 2)) (by unfold F_spec_l13Look_L1; rw [e]; rfl), e]
    rfl
  · rw [run_next (s' := ([0, q, 0, -1], 1)) (by unfold F_spec_l13Look_L1; rw [e]; rfl), run_next (s' := ([0, q, 0, -1, -1], 2)) (by unfold F_spec_l13Look_L1; rw [e]; rfl), run_next (s' := ([0, q, 0, -1, -1, -1], 3)) (by unfold F_spec_l13Look_L1; rw [e]; rfl), run_done (x := .brk ([0, q, 0, -1, -1, -1], 3)) (by unfold F_spec_l13Look_L1; rw [e]; rfl), e]
    rfl
theorem sp_ruleOf (m : GMulti) (q : Int) (xs : List Int) (s0 : Sml m) : F_spec_l06RuleOf m q xs = some (match ruleF m q xs with | none => -1 | some i => (i : Int)) := by
  have s0' : Sml m.Rules := s0
  have hl' := s0'.1
  unfold F_spec_l06RuleOf ruleF
  rw [run_find m.Rules (by omega) (fun r => decide (r.State = q) && decide (r.Read = xs)) (fun i hi => by
    simp only [F_spec_l06RuleOf_L1, Int.ofNat_lt, hi, decide_true, cond_true, idx_nat hi, bnd_some_eq, mt_same _ _ (s0'.mem hi).1.1]
    cases decide (m.Rules[i].State = q)
    · rfl
    · cases decide (m.Rules[i].Read = xs) <;> rfl) (by simp [F_spec_l06RuleOf_L1])]
  rfl
theorem sp_before {m : GMulti} (h : OOk m) (t : Int) : F_spec_l13Before m t = some (befP m.Tapes t) := by
  have t2 := h.ok.t2
  unfold F_spec_l13Before
  rw [nz_one (by omega), bnd_some_eq]
  rfl
theorem sp_after {m : GMulti} (h : OOk m) {r t : Nat} (hr : r < m.Rules.length) (ht : (t : Int) < m.Tapes) (d : Int) : F_spec_l13After m (r : Int) (t : Int) d = some (encP m.Tapes (afterP m (r : Int) (t : Int) d)) := by
  have t2 := h.ok.t2
  have hf : (w64 ((w64 (1 * 2 ^ min (m.Tapes : Int).toNat 64)) - 1)) = fullP m.Tapes := rfl
  unfold F_spec_l13After afterP
  rw [nneg_one (by omega), bnd_some_eq, hf, idx_nat hr, bnd_some_eq, sp_before h, bnd_some_eq, ruleP_at hr]
  by_cases hd : d = fullP m.Tapes
  · rw [decide_eq_true hd, if_pos hd, cond_true]
    obtain ⟨u, e, h1, _⟩ := back_eq h.t23 ht
    rw [e]
    unfold leaveP
    rw [if_neg (by omega)]
    rfl
  · rw [decide_eq_false hd, if_neg hd]
    rfl
theorem sp_put {m : GMulti} (h : OOk m) {r t : Nat} (hr : r < m.Rules.length) (ht : (t : Int) < m.Tapes) (d : Int) : F_spec_l13Put m (r : Int) (t : Int) d = some ⟨true, (putP m (r : Int) (t : Int) d).1, (putP m (r : Int) (t : Int) d).2.1, encP m.Tapes (putP m (r : Int) (t : Int) d).2.2⟩ := by
  obtain ⟨_, hw, hm⟩ := h.ok.row r hr
  have h1 : t < m.Rules[r].Write.length := by omega
  have h2 : t < m.Rules[r].Move.length := by omega
  have hd : (ior d (w64 (1 * 2 ^ min ((t : Int)).toNat 64))) = doneP t d := rfl
  unfold F_spec_l13Put putP F_spec_l13Go
  rw [hd]
  simp only [idx_nat hr, idx_nat h1, idx_nat h2, bnd_some_eq, nneg_one (show (0 : Int) ≤ (t : Int) by omega), ruleP_at hr, Int.toNat_natCast, getD_one h1, getD_one h2, sp_after h hr ht]
  by_cases e : m.Rules[r].Move[t] = 0
  · rw [decide_eq_true e, if_pos e]
    rfl
  · rw [decide_eq_false e, if_neg e]
    rfl
theorem syms_idx {T : Int} (hT : T = 2 ∨ T = 3) {t : Nat} (ht : (t : Int) < T) (p : GmultiPlace) : idx (symsP T p) (t : Int) = some (fndP p (t : Int) - 1) := by
  have : t = 0 ∨ t = 1 ∨ t = 2 := by omega
  rcases hT with rfl | rfl <;> rcases this with rfl | rfl | rfl <;> first | omega | rfl
theorem syms_set {m : GMulti} (h : OOk m) {t v : Nat} (ht : (t : Int) < m.Tapes) (hS : m.Symbols ≤ (v : Int)) (hv : (v : Int) < 2 * m.Symbols) (q a b c : Int) : (symsP m.Tapes ⟨0, q, t, 0, a, b, c, 0⟩).set t (Int.tmod (v : Int) m.Symbols) = symsP m.Tapes (gotP m ⟨0, q, t, 0, a, b, c, 0⟩ (v : Int)) := by
  have s2 := h.s2
  have s3 := h.s3
  have e1 : w64 (w64 ((v : Int) - m.Symbols) + 1) = (v : Int) - m.Symbols + 1 := by
    rw [w64_in (n := (v : Int) - m.Symbols) (by omega) (by omega), w64_in (by omega) (by omega)]
  have e2 : Int.tmod (v : Int) m.Symbols = (v : Int) - m.Symbols + 1 - 1 := by
    have : (v : Int) = 2 ∨ (v : Int) = 3 ∨ (v : Int) = 4 ∨ (v : Int) = 5 := by omega
    have : m.Symbols = 2 ∨ m.Symbols = 3 := by omega
    rcases ‹(v : Int) = 2 ∨ _› with e | e | e | e <;> rcases this with e' | e' <;> rw [e, e'] at hS hv ⊢ <;> first | omega | rfl
  have t3 := h.ok.t3
  have : t = 0 ∨ t = 1 ∨ t = 2 := by omega
  rw [e2]
  unfold gotP
  simp only [e1]
  rcases h.t23 with hT | hT <;> rw [hT] at ht ⊢ <;> rcases this with rfl | rfl | rfl <;> first | omega | rfl
theorem spec_own_o (xs : List Int) (h : xs.length ≤ 1048576) : F_spec_l00Own xs = some xs := spec_own' xs h
theorem sp_look0 {m : GMulti} (h : OOk m) (s0 : Sml m) {q : Int} {t a b c v : Nat} (ht : (t : Int) < m.Tapes) (hz : missP m.Tapes ⟨0, q, t, 0, a, b, c, 0⟩ = true) (hv : (v : Int) < 2 * m.Symbols) :
    ∃ g, F_spec_l13Several m (encP m.Tapes ⟨0, q, t, 0, a, b, c, 0⟩) (v : Int) = some g ∧ mvIs (encP m.Tapes) g (lookP m ⟨0, q, t, 0, a, b, c, 0⟩ (v : Int)) := by
  have t2 := h.ok.t2
  have t3 := h.ok.t3
  have s2 := h.s2
  have hTn := nz_one (show m.Tapes ≠ 0 by omega)
  have hSn := nz_one (show m.Symbols ≠ 0 by omega)
  have hen : encP m.Tapes ⟨0, q, t, 0, a, b, c, 0⟩ = 0 :: q :: (t : Int) :: symsP m.Tapes ⟨0, q, t, 0, a, b, c, 0⟩ := rfl
  have hlen := symsP_len h.t23 ⟨0, q, t, 0, a, b, c, 0⟩
  have hsl : slc (0 :: q :: (t : Int) :: symsP m.Tapes ⟨0, q, t, 0, a, b, c, 0⟩) 3 ((0 :: q :: (t : Int) :: symsP m.Tapes ⟨0, q, t, 0, a, b, c, 0⟩).length : Int) = some (symsP m.Tapes ⟨0, q, t, 0, a, b, c, 0⟩) := slc_from (lo := 3) (by simp)
  have hix := syms_idx h.t23 ht ⟨0, q, t, 0, a, b, c, 0⟩
  have hset := fun hS => syms_set h ht hS hv q a b c
  have hf0 : 0 ≤ fndP ⟨0, q, t, 0, a, b, c, 0⟩ (t : Int) := by
    unfold fndP
    simp only
    split
    · omega
    · split <;> omega
  have e4 : decide ((0 : Int) = 4) = false := rfl
  have hhas : ∀ p : GmultiPlace, F_spec_l00Has (symsP m.Tapes p) (-1) = some (missP m.Tapes p) := fun p => by
    rw [sp_has _ _ (by have := symsP_len h.t23 p; omega), miss_iff h.t23]
  have happ : ∀ (x y z : Int) (p : GmultiPlace), app [x, y, z] (symsP m.Tapes p) = some ([x, y, z] ++ symsP m.Tapes p) := fun x y z p => app_ok (by have := symsP_len h.t23 p; simp; omega)
  have hturn : ∀ p : GmultiPlace, p.kind = 0 → [0, p.at_, Int.tmod (w64 (p.tape + 1)) m.Tapes] ++ symsP m.Tapes p = encP m.Tapes (turnP m p) := fun p hp => by
    unfold encP turnP
    simp only [hp, if_true]
    rfl
  rw [hen]
  generalize hp : (⟨0, q, t, 0, a, b, c, 0⟩ : GmultiPlace) = p at *
  have hpt : p.tape = (t : Int) := by rw [← hp]
  have hpq : p.at_ = q := by rw [← hp]
  have hpk : p.kind = 0 := by rw [← hp]
  unfold F_spec_l13Several lookP
  simp only [ixo0, ixo1, ixo2, bnd_some_eq, e4, cond_false, decide_true, cond_true, hSn, hTn, hpt, hpq]
  rw [hsl, bnd_some_eq, spec_own_o _ (by omega), bnd_some_eq, hix, bnd_some_eq, bnd_some_eq]
  have hneg : decide (fndP p (t : Int) - 1 < 0) = decide (fndP p (t : Int) = 0) := by
    rw [decide_eq_decide]
    omega
  rw [hneg]
  have far : ∃ g, bnd (F_spec_l00Has (symsP m.Tapes p) (-1)) (fun r73 => (cond r73 (bnd (app ([0, q, (Int.tmod (w64 ((t : Int) + 1)) m.Tapes)] : List Int) (symsP m.Tapes p)) fun z81 => bnd (F_spec_l13Go (v : Int) 1 z81) fun r84 => some r84) (bnd (F_spec_l06RuleOf m q (symsP m.Tapes p)) fun r87 => (cond (decide (r87 < 0)) (some (⟨false, 0, 0, ([] : (List Int))⟩ : Gl13Move)) (bnd (F_spec_l13Put m r87 (t : Int) 0) fun r90 => some r90))))) = some g ∧ mvIs (encP m.Tapes) g (some ((v : Int), 1, turnP m p)) := by
    rw [hhas, hz, bnd_some_eq, cond_true, happ, bnd_some_eq]
    refine ⟨_, rfl, ?_⟩
    have := hturn p hpk
    rw [hpq, hpt] at this
    rw [this]
    rfl
  by_cases hS : m.Symbols ≤ (v : Int)
  · rw [decide_eq_true hS, cond_true]
    by_cases hn : fndP p (t : Int) = 0
    · rw [decide_eq_true hn, cond_true, if_pos ⟨hS, hn⟩, bnd_some_eq]
      simp only [Out.elim, Int.toNat_natCast]
      rw [hset hS, hhas, bnd_some_eq]
      cases hm : missP m.Tapes (gotP m p (v : Int)) with
      | true =>
        rw [if_pos rfl, cond_true, happ, bnd_some_eq]
        refine ⟨_, rfl, ?_⟩
        have := hturn (gotP m p (v : Int)) hpk
        have g1 : (gotP m p (v : Int)).at_ = q := hpq
        have g2 : (gotP m p (v : Int)).tape = (t : Int) := hpt
        rw [g1, g2] at this
        rw [this]
        rfl
      | false =>
        rw [if_neg (by decide), cond_false, sp_ruleOf m _ _ s0, bnd_some_eq]
        cases hr : ruleF m q (symsP m.Tapes (gotP m p (v : Int))) with
        | none => exact ⟨_, rfl, rfl⟩
        | some k =>
          have hk := ruleF_lt hr
          simp only
          rw [decide_eq_false (by omega), cond_false, sp_put h hk ht 0, bnd_some_eq]
          exact ⟨_, rfl, rfl⟩
    · rw [decide_eq_false hn, cond_false, if_neg (fun k => hn k.2), bnd_some_eq]
      exact far
  · rw [decide_eq_false hS, cond_false, if_neg (fun k => hS k.1), bnd_some_eq]
    exact far
theorem one_inj {m : GMulti} (h : OOk m) {p p' : GmultiPlace} (hp : VP m p) (hp' : VP m p') (e : encP m.Tapes p = encP m.Tapes p') : p = p' := by
  cases hp with
  | look q t a b c ht ha hb hc h2 hz =>
    cases hp' with
    | look q' t' a' b' c' ht' ha' hb' hc' h2' hz' =>
      simp only [encP, if_true, List.cons.injEq, true_and] at e
      obtain ⟨e1, e2, e3⟩ := e
      rw [GmultiPlace.mk.injEq]
      rcases h.t23 with hT | hT
      · rw [hT] at e3
        simp only [symsP, if_true, List.cons.injEq, and_true] at e3
        have := h2 hT
        have := h2' hT
        refine ⟨rfl, e1, e2, rfl, by omega, by omega, by omega, rfl⟩
      · rw [hT] at e3
        simp only [symsP, if_neg (show ¬ (3 : Int) = 2 by decide), List.cons.injEq, and_true] at e3
        refine ⟨rfl, e1, e2, rfl, by omega, by omega, by omega, rfl⟩
    | leave q' k' _ _ => simp [encP] at e
    | work K hK r' t' k' d' _ _ _ => rcases hK with rfl | rfl <;> simp [encP] at e
    | sweep r' t' d' _ _ => simp [encP] at e
  | leave q k _ _ =>
    cases hp' with
    | look q' t' a' b' c' ht' ha' hb' hc' h2' hz' => simp [encP] at e
    | leave q' k' _ _ =>
      simp [encP] at e
      rw [e.1, e.2]
    | work K hK r' t' k' d' _ _ _ => rcases hK with rfl | rfl <;> simp [encP] at e
    | sweep r' t' d' _ _ => simp [encP] at e
  | work K hK r t k d _ _ _ =>
    cases hp' with
    | look q' t' a' b' c' ht' ha' hb' hc' h2' hz' => rcases hK with rfl | rfl <;> simp [encP] at e
    | leave q' k' _ _ => rcases hK with rfl | rfl <;> simp [encP] at e
    | work K' hK' r' t' k' d' _ _ _ =>
      rcases hK with rfl | rfl <;> rcases hK' with rfl | rfl <;> simp [encP] at e
      · rw [e.1, e.2.1, e.2.2.1, e.2.2.2]
      · rw [e.1, e.2.1, e.2.2.1, e.2.2.2]
    | sweep r' t' d' _ _ => rcases hK with rfl | rfl <;> simp [encP] at e
  | sweep r t d _ _ =>
    cases hp' with
    | look q' t' a' b' c' ht' ha' hb' hc' h2' hz' => simp [encP] at e
    | leave q' k' _ _ => simp [encP] at e
    | work K' hK' r' t' k' d' _ _ _ => rcases hK' with rfl | rfl <;> simp [encP] at e
    | sweep r' t' d' _ _ =>
      simp [encP] at e
      rw [e.1, e.2.1, e.2.2]
theorem enc_leave {m : GMulti} (h : OOk m) (q : Int) {k : Nat} (h1 : 1 ≤ k) (hk : k ≤ 10) : (bnd (idx ([4, q, (k : Int)] : List Int) 2) fun y13 => (cond (decide (y13 = 1)) (bnd (idx ([4, q, (k : Int)] : List Int) 1) fun y18 => bnd (F_spec_l13Look m y18) fun r22 => some r22) (bnd (idx ([4, q, (k : Int)] : List Int) 1) fun y28 => bnd (idx ([4, q, (k : Int)] : List Int) 2) fun y32 => some ([4, y28, (w64 (y32 - 1))] : List Int)))) = some (encP m.Tapes (leaveP q (w64 ((k : Int) - 1)))) := by
  simp only [ixo1, ixo2, bnd_some_eq, count_less h1 hk, sp_look h]
  unfold leaveP
  by_cases e : k = 1
  · subst e
    rfl
  · rw [decide_eq_false (by omega), cond_false, if_neg (by omega)]
    rfl
theorem one_mv {m : GMulti} (h : OOk m) (s0 : Sml m) : MvOk (F_spec_l13Several m) (encP m.Tapes) (oneP m) (2 * m.Symbols.toNat) (VP m) := by
  refine ⟨fun p q hp hq e => one_inj h hp hq e, fun p hp => ?_, fun p v hp hv => ?_⟩
  · have := symsP_len h.t23 p
    have := h.ok.t3
    unfold encP
    split
    · simp only [List.length_cons]; omega
    · split
      · simp
      · split <;> simp
  · have s2 := h.s2
    have t2 := h.ok.t2
    have hv' : (v : Int) < 2 * m.Symbols := by omega
    have hSn := nz_one (show m.Symbols ≠ 0 by omega)
    cases hp with
    | look q t a b c ht ha hb hc h2 hz =>
      simp only [oneP, if_true]
      exact sp_look0 h s0 ht hz hv'
    | leave q k h1 hk =>
      have hen : encP m.Tapes ⟨4, q, 0, k, 0, 0, 0, 0⟩ = [4, q, (k : Int)] := rfl
      rw [hen]
      simp only [oneP, if_neg (show ¬ (4 : Int) = 0 by decide), if_true]
      have hl := enc_leave h q h1 hk
      unfold F_spec_l13Several
      simp only [ixo0, ixo1, ixo2, bnd_some_eq, decide_true, cond_true, hSn, F_spec_l13Go] at hl ⊢
      cases e : decide ((k : Int) = 1)
      · rw [e, cond_false] at hl
        rw [cond_false]
        refine ⟨_, rfl, ?_⟩
        injection hl with hl
        rw [hl]
        rfl
      · rw [e, cond_true] at hl
        rw [cond_true]
        rw [sp_look h, bnd_some_eq] at hl
        rw [sp_look h, bnd_some_eq]
        refine ⟨_, rfl, ?_⟩
        injection hl with hl
        rw [hl]
        rfl
    | work K hK r t k d hr ht hk =>
      obtain ⟨_, hw, hm⟩ := h.ok.row r hr
      have h2 : t < m.Rules[r].Move.length := by omega
      have hmv : moveP m r t = m.Rules[r].Move[t] := by
        unfold moveP
        rw [ruleP_at hr, Int.toNat_natCast, getD_one h2]
      unfold F_spec_l13Several oneP
      rw [hmv]
      rcases hK with rfl | rfl
      · have hen : encP m.Tapes ⟨1, r, t, k, 0, 0, 0, d⟩ = [1, (r : Int), (t : Int), d, (k : Int)] := rfl
        have e0 : decide ((1 : Int) = 0) = false := rfl
        have e4 : decide ((1 : Int) = 4) = false := rfl
        rw [hen]
        simp only [ixo0, ixo1, ixo2, ixo3, ixo4, e0, e4, cond_false, decide_true, cond_true, idx_nat hr, idx_nat h2, bnd_some_eq, hSn, F_spec_l13Go, if_neg (show ¬ (1 : Int) = 0 by decide), if_neg (show ¬ (1 : Int) = 4 by decide), if_neg (show ¬ (1 : Int) = 3 by decide), if_true]
        by_cases hc : (0 : Int) < (k : Int)
        · rw [decide_eq_true hc, if_pos hc]
          exact ⟨_, rfl, rfl⟩
        · rw [decide_eq_false hc, if_neg hc]
          exact ⟨_, rfl, rfl⟩
      · have hen : encP m.Tapes ⟨2, r, t, k, 0, 0, 0, d⟩ = [2, (r : Int), (t : Int), d, (k : Int)] := rfl
        have e0 : decide ((2 : Int) = 0) = false := rfl
        have e4 : decide ((2 : Int) = 4) = false := rfl
        have e1 : decide ((2 : Int) = 1) = false := rfl
        rw [hen]
        simp only [ixo0, ixo1, ixo2, ixo3, ixo4, e0, e4, e1, cond_false, decide_true, cond_true, idx_nat hr, idx_nat h2, bnd_some_eq, hSn, F_spec_l13Go, sp_after h hr ht, if_neg (show ¬ (2 : Int) = 0 by decide), if_neg (show ¬ (2 : Int) = 4 by decide), if_neg (show ¬ (2 : Int) = 3 by decide), if_neg (show ¬ (2 : Int) = 1 by decide)]
        by_cases hc : (0 : Int) < (k : Int)
        · rw [decide_eq_true hc, if_pos hc]
          exact ⟨_, rfl, rfl⟩
        · rw [decide_eq_false hc, if_neg hc]
          exact ⟨_, rfl, rfl⟩
    | sweep r t d hr ht =>
      have hen : encP m.Tapes ⟨3, r, t, 0, 0, 0, 0, d⟩ = [3, (r : Int), (t : Int), d] := rfl
      have e0 : decide ((3 : Int) = 0) = false := rfl
      have e4 : decide ((3 : Int) = 4) = false := rfl
      have e1 : decide ((3 : Int) = 1) = false := rfl
      have e2 : decide ((3 : Int) = 2) = false := rfl
      unfold F_spec_l13Several oneP
      rw [hen]
      simp only [ixo0, ixo1, ixo2, ixo3, e0, e4, e1, e2, cond_false, bnd_some_eq, hSn, F_spec_l13Go, sp_before h, sp_put h hr ht, nneg_one (show (0 : Int) ≤ (t : Int) by omega), if_neg (show ¬ (3 : Int) = 0 by decide), if_neg (show ¬ (3 : Int) = 4 by decide), if_true]
      by_cases hc : m.Symbols ≤ (v : Int)
      · rw [decide_eq_true hc, cond_true]
        simp only [bnd_some_eq, Out.elim]
        by_cases hd : iand (Int.fdiv d (2 ^ min (t : Int).toNat 64)) 1 = 0
        · rw [decide_eq_true hd, if_pos ⟨hc, hd⟩]
          exact ⟨_, rfl, rfl⟩
        · rw [decide_eq_false hd, if_neg (fun k => hd k.2)]
          exact ⟨_, rfl, rfl⟩
      · rw [decide_eq_false hc, if_neg (fun k => hc k.1)]
        exact ⟨_, rfl, rfl⟩
/-! ### The law -/
theorem ex_OneTapeMachine (m : GMulti) (s0 : Sml m) :
    ∃ w : GMachine × Int, F_spec_OneTapeMachine m = some w ∧ F_impl_OneTapeMachine m = some w ∧ Med w.1 ∧ Cnt.cnt w.1.Rules ≤ 1152921504606846976 := by
  unfold F_spec_OneTapeMachine F_impl_OneTapeMachine
  rw [mt_spec m s0, mt_impl m s0, bnd_some_eq, bnd_some_eq]
  cases hm : multiB m
  · exact ⟨_, rfl, rfl, fit_one (Nat.zero_le _)⟩
  have h := OOk.of hm
  have s2 := h.s2
  have s3 := h.s3
  simp only [Bool.not_true, cond_false]
  obtain ⟨tb, htab, hb⟩ := mt_tableG (X := Option (GMachine × Int)) h.ok
  have en : w64 (2 * m.Symbols) = ((2 * m.Symbols.toNat : Nat) : Int) := by
    rw [w64_in (by omega) (by omega)]
    omega
  have hn : 2 * m.Symbols.toNat ≤ 100 := by omega
  have hst := vp_start h 0
  have hsp := sp_run (R0 := Option (GMachine × Int)) (fail := some ((⟨0, 0, ([] : (List GRule))⟩ : GMachine), 5)) hn (one_mv h s0) (one_act h) 1002 0 [] [⟨0, 0, 0, 0, 0, 0, 0, 0⟩] (by omega) (by omega) (by simp) (all_one hst) (by simp)
  have him := im_run (R0 := Option (GMachine × Int)) (fail := some ((⟨0, 0, ([] : (List GRule))⟩ : GMachine), 5)) hn (im_at h (l := (m.Rules.length : Int)) hb) (one_act h) 1002 0 [] [⟨0, 0, 0, 0, 0, 0, 0, 0⟩] (mput [] ⟨0, 0, 0, 0, 0, 0, 0, 0⟩ 0) (by omega) (by omega) (by simp) (all_one hst) (nums_one _) (by simp)
  have e1 : F_spec_OneTapeMachine_L1 m = spL1 (some ((⟨0, 0, ([] : (List GRule))⟩ : GMachine), 5)) ((2 * m.Symbols.toNat : Nat) : Int) (F_spec_l13Several m) := by rw [← en]; rfl
  have e2 : F_impl_OneTapeMachine_L2 m (tb, (m.Rules.length : Int)) = imL1 (some ((⟨0, 0, ([] : (List GRule))⟩ : GMachine), 5)) ((2 * m.Symbols.toNat : Nat) : Int) (fun p v => F_impl_OneTapeMachine_L4 m (tb, (m.Rules.length : Int)) ([], [], [], v) p) nonO (fun a => a.1) (fun a => a.2.1) placeO := by rw [← en]; rfl
  have e3 : app ([] : List GmultiPlace) [(⟨0, 0, 0, 0, 0, 0, 0, 0⟩ : GmultiPlace)] = some [⟨0, 0, 0, 0, 0, 0, 0, 0⟩] := rfl
  have e4 : run (F_impl_OneTapeMachine_L1 m) (([] : List (Greading × Int)), 0) = some (.brk (tb, (m.Rules.length : Int))) := htab
  have e5 : F_impl_look 0 = some ⟨0, 0, 0, 0, 0, 0, 0, 0⟩ := rfl
  rw [e1, e4, sp_look h, e5]
  simp only [bnd_some_eq, Out.elim]
  rw [e2, e3]
  simp only [mget_nil, Option.isSome_none, Bool.not_false, cond_true, bnd_some_eq, Out.elim, F_impl_size_impl_multiPlace, List.length_nil, en]
  simp only [List.map_cons, List.map_nil] at hsp
  have ez : ((0 : Nat) : Int) = 0 := rfl
  rw [ez] at hsp him ⊢
  rw [hsp]
  cases hbd : buildA (oneP m) (2 * m.Symbols.toNat) 1002 0 ([], [(⟨0, 0, 0, 0, 0, 0, 0, 0⟩ : GmultiPlace)]) with
  | none =>
    rw [hbd] at him
    simp only at him
    rw [him]
    exact ⟨_, rfl, rfl, fit_one (Nat.zero_le _)⟩
  | some st =>
    rw [hbd] at him
    obtain ⟨nums, him, _, _, _, hr⟩ := him
    rw [him]
    refine ⟨_, rfl, ?_, fit_one (by simp only [bnd_some_eq, Out.elim]; have : 1000 * (2 * m.Symbols.toNat) ≤ 1000 * 6 := Nat.mul_le_mul_left _ (by omega); omega)⟩
    simp only [bnd_some_eq, Out.elim, List.length_map]
theorem law_OneTapeMachine (m : GMulti) (w0 : Wf.wf m) : F_laws_FnExactOneTapeMachine m = some true :=
  lawof_OneTapeMachine m w0 (ex_OneTapeMachine m)
end Go.Fn
