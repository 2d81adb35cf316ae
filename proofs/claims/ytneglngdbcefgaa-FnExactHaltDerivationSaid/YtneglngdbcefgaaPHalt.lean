/-
  Halting derivations; the plain laws of HaltWords and HaltRewrites. No program in sight. No condition.
-/
import Derived.Test.YtneglngdbcefgaaPRow
import Derived.Test.YtneglngdbcefgaaPRules
namespace Go.Fn
open Go Go.Tc
theorem nz_ok {b : Int} (h : b ≠ 0) : nz b = some () := by unfold nz; rw [if_neg h]
def haltW (m : GMachine) (c : GConfig) : List Int := [m.Symbols + m.States] ++ c.Left.reverse ++ [w64 (m.Symbols + c.State)] ++ c.Right ++ [m.Symbols + m.States]
def haltT (m : GMachine) : List Int := [m.Symbols + m.States, m.Symbols + m.States + 1, m.Symbols + m.States]
def haltWP (m : GMachine) (c : GConfig) : List Int × List Int × Int :=
  cond (decide (5 < m.Symbols + m.States + 1)) ([], [], 5) (cond (decide (400 < (haltW m c).length)) ([], [], 5) (haltW m c, haltT m, 0))
theorem border_in {m : GMachine} (h : machB m = true) : w64 (m.Symbols + m.States) = m.Symbols + m.States ∧ w64 (m.Symbols + m.States + 1) = m.Symbols + m.States + 1 ∧ 0 ≤ m.Symbols + m.States := by
  obtain ⟨s, q, hs, hq, b1, b2, b3, b4, _⟩ := machB_nat h
  refine ⟨w64_in (by omega) (by omega), w64_in (by omega) (by omega), by omega⟩
theorem spec_haltW (m : GMachine) (c : GConfig) (h : machB m = true) (h1 : c.Left.length ≤ 200) (h2 : c.Right.length ≤ 200) : F_spec_l16Word m c = some (haltW m c) := by
  obtain ⟨e1, e2, _⟩ := border_in h
  unfold F_spec_l16Word F_spec_l16Border
  simp only [bnd_some_eq, e1]
  rw [spec_reverse _ (by omega), bnd_some_eq, app_ok (by simp; omega), bnd_some_eq, app_ok (by simp; omega), bnd_some_eq, app_ok (by simp; omega), bnd_some_eq, app_ok (by simp; omega), bnd_some_eq]
  rfl
theorem impl_eraser (m : GMachine) (h : machB m = true) : F_impl_eraserOf m = some (cond (decide (5 < m.Symbols + m.States + 1)) (⟨0, 0⟩, 0, 5) (⟨m.Symbols, m.Symbols + m.States⟩, m.Symbols + m.States + 1, 0)) := by
  obtain ⟨e1, e2, _⟩ := border_in h
  unfold F_impl_eraserOf F_impl_alphabetOf
  rw [e1]
  by_cases h9 : 9 < m.Symbols + m.States
  · rw [decide_eq_true h9, decide_eq_true (by omega)]; rfl
  · rw [decide_eq_false h9]
    simp only [cond_false, bnd_some_eq, e2]
    cases decide (5 < m.Symbols + m.States + 1) <;> rfl
theorem impl_haltW (m : GMachine) (c : GConfig) (h : machB m = true) (h1 : c.Left.length ≤ 200) (h2 : c.Right.length ≤ 200) : F_impl_haltWords m c = some (haltWP m c) := by
  unfold F_impl_haltWords haltWP F_impl_alphabet_wordOfConfig
  rw [impl_eraser m h, bnd_some_eq]
  cases decide (5 < m.Symbols + m.States + 1)
  · simp only [cond_false]
    rw [impl_reversed _ (by omega)]
    simp only [bnd_some_eq]
    rw [impl_joined _ (by simp) (by simp; omega), bnd_some_eq]
    have e : ([[m.Symbols + m.States], c.Left.reverse, [w64 (m.Symbols + c.State)], c.Right, [m.Symbols + m.States]] : List (List Int)).flatten = haltW m c := by simp [haltW]
    rw [e]
    unfold F_impl_fitting
    simp only [bnd_some_eq]
    rw [show decide ((400 : Int) < ((haltW m c).length : Int)) = decide (400 < (haltW m c).length) by rw [decide_eq_decide]; omega]
    cases decide (400 < (haltW m c).length) <;> rfl
  · rfl
def rwOf (s : Nat) (S b k : Int) (r : GRule) : List GRewrite :=
  cond (decide (r.Move = 1)) ([⟨[w64 (S + w64 (Int.tdiv k S)), Int.tmod k S], [r.Write, w64 (S + r.Next)]⟩] ++ cond (decide (Int.tmod k S = 0)) [⟨[w64 (S + w64 (Int.tdiv k S)), b], [r.Write, w64 (S + r.Next), b]⟩] [])
    (((List.range s).flatMap fun (c : Nat) => [(⟨[(c : Int), w64 (S + w64 (Int.tdiv k S)), Int.tmod k S], [w64 (S + r.Next), (c : Int), r.Write]⟩ : GRewrite)]) ++ [⟨[b, w64 (S + w64 (Int.tdiv k S)), Int.tmod k S], [b, w64 (S + r.Next), 0, r.Write]⟩] ++
      cond (decide (Int.tmod k S = 0)) (((List.range s).flatMap fun (c : Nat) => [(⟨[(c : Int), w64 (S + w64 (Int.tdiv k S)), b], [w64 (S + r.Next), (c : Int), r.Write, b]⟩ : GRewrite)]) ++ [⟨[b, w64 (S + w64 (Int.tdiv k S)), b], [b, w64 (S + r.Next), 0, r.Write, b]⟩]) [])
theorem flat1_len {β : Type} (f : Nat → β) (s : Nat) : ((List.range s).flatMap fun c => [f c]).length = s := by
  rw [← List.map_eq_flatMap]; simp
theorem rwOf_len (s : Nat) (S b k : Int) (r : GRule) : (rwOf s S b k r).length ≤ 2 * s + 2 := by
  unfold rwOf
  cases decide (r.Move = 1)
  · cases decide (Int.tmod k S = 0)
    · simp only [cond_false, List.length_append, flat1_len, List.length_singleton, List.length_nil]; omega
    · simp only [cond_false, cond_true, List.length_append, flat1_len, List.length_singleton]; omega
  · cases decide (Int.tmod k S = 0)
    · simp only [cond_false, cond_true, List.length_append, List.length_singleton, List.length_nil]; omega
    · simp only [cond_true, List.length_append, List.length_singleton]; omega
def ownRw (m : GMachine) (s : Nat) (i : Nat) : List GRewrite := cond (decide (m.Rules.getD i noR = noR)) [] (rwOf s m.Symbols (m.Symbols + m.States) (i : Int) (m.Rules.getD i noR))
theorem ownRw_len (m : GMachine) (s i : Nat) : (ownRw m s i).length ≤ 2 * s + 2 := by
  unfold ownRw
  cases decide (m.Rules.getD i noR = noR)
  · exact rwOf_len _ _ _ _ _
  · exact Nat.zero_le _
def freeRw (m : GMachine) (i : Nat) : List GRewrite :=
  [⟨[w64 (m.Symbols + w64 (Int.tdiv (i : Int) m.Symbols)), Int.tmod (i : Int) m.Symbols], [m.Symbols + m.States + 1]⟩] ++ cond (decide (Int.tmod (i : Int) m.Symbols = 0)) [⟨[w64 (m.Symbols + w64 (Int.tdiv (i : Int) m.Symbols)), m.Symbols + m.States], [m.Symbols + m.States + 1, m.Symbols + m.States]⟩] []
theorem freeRw_len (m : GMachine) (i : Nat) : (freeRw m i).length ≤ 2 := by
  unfold freeRw
  cases decide (Int.tmod (i : Int) m.Symbols = 0) <;> simp
def eraseRw (m : GMachine) (c : Nat) : List GRewrite := [⟨[m.Symbols + m.States + 1, (c : Int)], [m.Symbols + m.States + 1]⟩, ⟨[(c : Int), m.Symbols + m.States + 1], [m.Symbols + m.States + 1]⟩]
def isNo (m : GMachine) (i : Nat) : Bool := decide (m.Rules.getD i noR = noR)
def ownL (m : GMachine) (s : Nat) : List GRewrite := (List.range m.Rules.length).flatMap (ownRw m s)
def haltL (m : GMachine) (s : Nat) : List GRewrite := ownL m s ++ ((List.range m.Rules.length).flatMap fun i => cond (isNo m i) (freeRw m i) []) ++ (List.range s).flatMap (eraseRw m)
theorem idx_rule {m : GMachine} {i : Nat} (h : i < m.Rules.length) : idx m.Rules (i : Int) = some (m.Rules.getD i noR) := by
  rw [idx_nat h, List.getD_eq_getElem?_getD, List.getElem?_eq_getElem h]; rfl
theorem own_len (m : GMachine) (s : Nat) (h1 : m.Rules.length ≤ 6000) (h2 : s ≤ 6) : (ownL m s).length ≤ 84000 := by
  have := flatMap_length_le (ownRw m s) (n := 14) (List.range m.Rules.length) (fun i _ => Nat.le_trans (ownRw_len m s i) (by omega))
  rw [List.length_range] at this
  unfold ownL
  omega
/-- The loop over the symbols. -/
theorem run_syms {R : Type} {body : List GRewrite × Int → Option ((List GRewrite × Int) ⊕ Out (List GRewrite × Int) R)} (s : Nat) (hs : s ≤ 6) (g : Nat → List GRewrite) (hg : ∀ k, k < s → (g k).length ≤ 2) (a : List GRewrite) (ha : a.length ≤ 1048576)
    (h1 : ∀ (i : Nat) (b : List GRewrite), i < s → b.length ≤ 1048576 + i * 2 → body (b, (i : Int)) = some (.inl (b ++ g i, w64 ((i : Int) + 1)))) (h2 : ∀ b, body (b, (s : Int)) = some (.inr (.brk (b, (s : Int))))) :
    run body (a, 0) = some (.brk (a ++ (List.range s).flatMap g, (s : Int))) := by
  rw [run_rangeL (body := body) s (by omega) (fun a i => (a, i)) g 2 hg a 1048576 ha h1]
  exact run_done (h2 _)
theorem impl_rwOf (m : GMachine) {s : Nat} (hs : m.Symbols = s) (b2 : s ≤ 6) (b k : Int) (r : GRule) : F_impl_alphabet_rewritesOf ⟨m.Symbols, b⟩ m (w64 (Int.tdiv k m.Symbols)) (Int.tmod k m.Symbols) r = some (rwOf s m.Symbols b k r) := by
  unfold F_impl_alphabet_rewritesOf rwOf
  cases decide (r.Move = 1)
  · rw [cond_false, cond_false, run_syms (body := F_impl_alphabet_rewritesOf_L1 _ _ _ _ _) s b2 (fun (c : Nat) => [(⟨[(c : Int), w64 (m.Symbols + w64 (Int.tdiv k m.Symbols)), Int.tmod k m.Symbols], [w64 (m.Symbols + r.Next), (c : Int), r.Write]⟩ : GRewrite)]) (by simp) [] (by simp) (fun i a hi ha => by
      simp only [F_impl_alphabet_rewritesOf_L1]
      rw [decide_eq_true (by omega), cond_true, app_ok (by simp; omega), bnd_some_eq]) (fun a => by
      simp only [F_impl_alphabet_rewritesOf_L1]
      rw [decide_eq_false (by omega)]; rfl)]
    simp only [bnd_some_eq, Out.elim, List.nil_append]
    rw [app_ok (by rw [flat1_len]; simp; omega), bnd_some_eq]
    cases decide (Int.tmod k m.Symbols = 0)
    · simp
    · rw [cond_true, cond_true, run_syms (body := F_impl_alphabet_rewritesOf_L2 _ _ _ _) s b2 (fun (c : Nat) => [(⟨[(c : Int), w64 (m.Symbols + w64 (Int.tdiv k m.Symbols)), b], [w64 (m.Symbols + r.Next), (c : Int), r.Write, b]⟩ : GRewrite)]) (by simp) _ (by rw [List.length_append, flat1_len]; simp; omega) (fun i a hi ha => by
        simp only [F_impl_alphabet_rewritesOf_L2]
        rw [decide_eq_true (by omega), cond_true, app_ok (by simp; omega), bnd_some_eq]) (fun a => by
        simp only [F_impl_alphabet_rewritesOf_L2]
        rw [decide_eq_false (by omega)]; rfl)]
      simp only [bnd_some_eq, Out.elim]
      rw [app_ok (by simp only [List.length_append, flat1_len, List.length_singleton]; omega), bnd_some_eq]
      simp
  · simp only [cond_true]
    rw [app_ok (by simp), bnd_some_eq]
    cases decide (Int.tmod k m.Symbols = 0)
    · rfl
    · rw [cond_true, app_ok (by simp)]
      rfl
theorem impl_own (m : GMachine) {s q : Nat} (hs : m.Symbols = s) (hq : m.States = q) (b1 : 2 ≤ s) (b2 : s ≤ 6) (hl : m.Rules.length ≤ 6000) : F_impl_alphabet_machineRewrites ⟨m.Symbols, m.Symbols + m.States⟩ m = some (ownL m s) := by
  unfold F_impl_alphabet_machineRewrites
  have hS : m.Symbols ≠ 0 := by omega
  rw [run_rangeL (body := F_impl_alphabet_machineRewrites_L1 ⟨m.Symbols, m.Symbols + m.States⟩ m) m.Rules.length (by omega) (fun a i => (a, i)) (ownRw m s) 14 (fun i _ => Nat.le_trans (ownRw_len m s i) (by omega)) [] 0 (by simp) (fun i a hi ha => by
    simp only [F_impl_alphabet_machineRewrites_L1, Int.ofNat_lt, hi, decide_true, cond_true, idx_rule hi, bnd_some_eq, F_impl_isRule, F_impl_noRule, nz_ok hS]
    have hr := ownRw_len m s i
    unfold ownRw at hr ⊢
    show cond (!decide (m.Rules.getD i noR = noR)) _ _ = _
    cases hd : decide (m.Rules.getD i noR = noR)
    · rw [hd] at hr
      rw [impl_rwOf m hs b2]
      simp only [Bool.not_false, cond_true, cond_false, bnd_some_eq] at hr ⊢
      rw [app_ok (by omega), bnd_some_eq]
    · simp)]
  rw [run_done (x := Out.brk ([] ++ (List.range m.Rules.length).flatMap (ownRw m s), (m.Rules.length : Int))) (by simp [F_impl_alphabet_machineRewrites_L1])]
  rfl
theorem spec_own16 (m : GMachine) {s q : Nat} (hs : m.Symbols = s) (hq : m.States = q) (b1 : 2 ≤ s) (b2 : s ≤ 6) (hb : w64 (m.Symbols + m.States) = m.Symbols + m.States) (hl : m.Rules.length ≤ 6000) : ∃ ok, F_spec_l16Rules m = some (ownL m s, ok) := by
  unfold F_spec_l16Rules F_spec_l16Fits F_spec_l16Border
  have hS : m.Symbols ≠ 0 := by omega
  simp only [bnd_some_eq, hb]
  rw [run_rangeL (body := F_spec_l16Rules_L1 m (m.Symbols + m.States)) m.Rules.length (by omega) (fun a i => (a, i)) (ownRw m s) 14 (fun i _ => Nat.le_trans (ownRw_len m s i) (by omega)) [] 0 (by simp) (fun i a hi ha => by
    simp only [F_spec_l16Rules_L1, Int.ofNat_lt, hi, decide_true, cond_true, idx_rule hi, bnd_some_eq, F_spec_l05None, nz_ok hS]
    unfold ownRw
    show cond (decide (m.Rules.getD i noR = noR)) _ _ = _
    generalize m.Rules.getD i noR = r
    cases decide (r = noR)
    · simp only [cond_false]
      unfold rwOf
      cases decide (r.Move = 1)
      · rw [cond_false, cond_false, run_syms (body := F_spec_l16Rules_L2 _ _ _) s b2 (fun (c : Nat) => [(⟨[(c : Int), w64 (m.Symbols + w64 (Int.tdiv (i : Int) m.Symbols)), Int.tmod (i : Int) m.Symbols], [w64 (m.Symbols + r.Next), (c : Int), r.Write]⟩ : GRewrite)]) (by simp) a (by omega) (fun j a hj ha => by
          simp only [F_spec_l16Rules_L2]
          rw [decide_eq_true (by omega), cond_true, app_ok (by simp; omega), bnd_some_eq]) (fun a => by
          simp only [F_spec_l16Rules_L2]
          rw [decide_eq_false (by omega)]; rfl)]
        simp only [bnd_some_eq, Out.elim]
        rw [app_ok (by rw [List.length_append, flat1_len]; simp; omega), bnd_some_eq]
        cases decide (Int.tmod (i : Int) m.Symbols = 0)
        · simp
        · rw [cond_true, cond_true, run_syms (body := F_spec_l16Rules_L3 _ _ _ _) s b2 (fun (c : Nat) => [(⟨[(c : Int), w64 (m.Symbols + w64 (Int.tdiv (i : Int) m.Symbols)), m.Symbols + m.States], [w64 (m.Symbols + r.Next), (c : Int), r.Write, m.Symbols + m.States]⟩ : GRewrite)]) (by simp) _ (by simp only [List.length_append, flat1_len, List.length_singleton]; omega) (fun j a hj ha => by
            simp only [F_spec_l16Rules_L3]
            rw [decide_eq_true (by omega), cond_true, app_ok (by simp; omega), bnd_some_eq]) (fun a => by
            simp only [F_spec_l16Rules_L3]
            rw [decide_eq_false (by omega)]; rfl)]
          simp only [bnd_some_eq, Out.elim]
          rw [app_ok (by simp only [List.length_append, flat1_len, List.length_singleton]; omega), bnd_some_eq]
          simp
      · simp only [cond_true]
        rw [app_ok (by simp; omega), bnd_some_eq]
        cases decide (Int.tmod (i : Int) m.Symbols = 0)
        · simp [Out.elim]
        · rw [cond_true, app_ok (by simp; omega)]
          simp [Out.elim]
    · simp)]
  rw [run_done (x := Out.brk ([] ++ (List.range m.Rules.length).flatMap (ownRw m s), (m.Rules.length : Int))) (by simp [F_spec_l16Rules_L1])]
  simp only [bnd_some_eq, Out.elim, List.nil_append]
  show ∃ ok, cond (decide (0 < ((ownL m s).length : Int))) (cond (decide (((ownL m s).length : Int) ≤ 60)) (some (ownL m s, _)) (some (ownL m s, false))) (some (ownL m s, false)) = some (ownL m s, ok)
  cases decide (0 < ((ownL m s).length : Int))
  · exact ⟨_, rfl⟩
  · cases decide (((ownL m s).length : Int) ≤ 60) <;> exact ⟨_, rfl⟩
theorem filter_flat {β : Type} (p : Nat → Bool) (f : Nat → List β) : ∀ xs : List Nat, (xs.filter p).flatMap f = xs.flatMap fun i => cond (p i) (f i) []
  | [] => rfl
  | x :: xs => by
    rw [List.filter_cons, List.flatMap_cons, ← filter_flat p f xs]
    cases p x <;> simp
def freeI (m : GMachine) : List Int := ((List.range m.Rules.length).filter (isNo m)).map fun (i : Nat) => (i : Int)
theorem impl_free (m : GMachine) (hl : m.Rules.length ≤ 6000) : F_impl_freeRules m = some (freeI m) := by
  unfold F_impl_freeRules
  rw [run_rangeL (body := F_impl_freeRules_L1 m) m.Rules.length (by omega) (fun a i => (a, i)) (fun i => cond (isNo m i) [(i : Int)] []) 1 (fun i _ => by cases isNo m i <;> simp) [] 0 (by simp) (fun i a hi ha => by
    simp only [F_impl_freeRules_L1, Int.ofNat_lt, hi, decide_true, cond_true, idx_rule hi, bnd_some_eq, F_impl_isRule, F_impl_noRule]
    show cond (!!decide (m.Rules.getD i noR = noR)) _ _ = _
    unfold isNo
    cases decide (m.Rules.getD i noR = noR)
    · simp
    · simp only [Bool.not_true, Bool.not_false, cond_true]
      rw [app_ok (by simp; omega), bnd_some_eq])]
  rw [run_done (x := Out.brk ([] ++ (List.range m.Rules.length).flatMap (fun i => cond (isNo m i) [(i : Int)] []), (m.Rules.length : Int))) (by simp [F_impl_freeRules_L1])]
  simp only [bnd_some_eq, Out.elim, List.nil_append]
  rw [← filter_flat (isNo m) (fun i => [(i : Int)]), ← List.map_eq_flatMap]
  rfl
theorem free_len (m : GMachine) (hl : m.Rules.length ≤ 6000) : (freeI m).length ≤ 6000 := by
  unfold freeI
  rw [List.length_map]
  have := List.length_filter_le (isNo m) (List.range m.Rules.length)
  rw [List.length_range] at this
  omega
theorem map_flat {β : Type} (f : Nat → List β) (g : Int → List β) (h : ∀ i : Nat, g (i : Int) = f i) : ∀ xs : List Nat, (xs.map fun (i : Nat) => (i : Int)).flatMap g = xs.flatMap f
  | [] => rfl
  | x :: xs => by rw [List.map_cons, List.flatMap_cons, List.flatMap_cons, h, map_flat f g h xs]
theorem free_flat_len (m : GMachine) (hl : m.Rules.length ≤ 6000) : ((List.range m.Rules.length).flatMap fun i => cond (isNo m i) (freeRw m i) []).length ≤ 12000 := by
  have := flatMap_length_le (fun i => cond (isNo m i) (freeRw m i) []) (n := 2) (List.range m.Rules.length) (fun i _ => by
    cases isNo m i
    · exact Nat.zero_le _
    · exact freeRw_len m i)
  rw [List.length_range] at this
  omega
theorem impl_halt (m : GMachine) (h : machB m = true) {s q : Nat} (hs : m.Symbols = s) (hq : m.States = q) (b1 : 2 ≤ s) (b2 : s ≤ 6) (hl : m.Rules.length ≤ 6000) :
    F_impl_haltRewrites m = some (cond (decide (5 < m.Symbols + m.States + 1)) ([], 0, 5) (cond (decide (60 < (haltL m s).length)) ([], 0, 5) (haltL m s, ((ownL m s).length : Int), 0))) := by
  have hS : m.Symbols ≠ 0 := by omega
  unfold F_impl_haltRewrites
  rw [impl_eraser m h, bnd_some_eq]
  cases decide (5 < m.Symbols + m.States + 1)
  · simp only [cond_false]
    have ho := own_len m s hl b2
    have hf := free_len m hl
    have hff := free_flat_len m hl
    rw [impl_own m hs hq b1 b2 hl, impl_free m hl]
    simp only [bnd_some_eq]
    have hrun := (run_rowf (body := F_impl_haltRewrites_L1 m (⟨m.Symbols, m.Symbols + m.States⟩, m.Symbols + m.States + 1, 0) (freeI m)) (freeI m) (by omega) (fun (a : List GRewrite) i => (a, i)) (fun a k => a ++ freeRw m k.toNat) (fun i a => a.length ≤ 84000 + i * 2) (by
      intro i hi a hk
      have hm : ∃ n : Nat, (freeI m)[i] = (n : Int) := by
        have : (freeI m)[i] ∈ freeI m := List.getElem_mem hi
        unfold freeI at this
        obtain ⟨n, _, hn⟩ := List.mem_map.1 this
        exact ⟨n, hn.symm⟩
      obtain ⟨n, hn⟩ := hm
      have hfl := freeRw_len m n
      rw [hn, Int.toNat_natCast]
      refine ⟨?_, by rw [List.length_append]; omega⟩
      simp only [F_impl_haltRewrites_L1, Int.ofNat_lt, hi, decide_true, cond_true, idx_nat hi, bnd_some_eq, hn, nz_ok hS]
      rw [app_ok (by simp; omega), bnd_some_eq]
      unfold freeRw
      cases decide (Int.tmod (n : Int) m.Symbols = 0)
      · simp
      · rw [cond_true, app_ok (by simp; omega), bnd_some_eq, cond_true, List.append_assoc]) (ownL m s) (by omega)).1
    rw [foldl_app1 (fun k : Int => freeRw m k.toNat)] at hrun
    have efl : (freeI m).flatMap (fun k : Int => freeRw m k.toNat) = (List.range m.Rules.length).flatMap fun i => cond (isNo m i) (freeRw m i) [] := by
      unfold freeI
      rw [map_flat (freeRw m) _ (fun i => by rw [Int.toNat_natCast]), filter_flat]
    rw [efl] at hrun
    rw [hrun, run_done (x := Out.brk (ownL m s ++ ((List.range m.Rules.length).flatMap fun i => cond (isNo m i) (freeRw m i) []), ((freeI m).length : Int))) (by simp [F_impl_haltRewrites_L1])]
    simp only [bnd_some_eq, Out.elim]
    rw [run_syms (body := F_impl_haltRewrites_L2 m _) s b2 (eraseRw m) (fun k _ => by simp [eraseRw]) _ (by rw [List.length_append]; omega) (fun i a hi ha => by
      simp only [F_impl_haltRewrites_L2]
      rw [decide_eq_true (by omega), cond_true, app_ok (by simp; omega), bnd_some_eq, app_ok (by simp; omega), bnd_some_eq, List.append_assoc]
      rfl) (fun a => by
      simp only [F_impl_haltRewrites_L2]
      rw [decide_eq_false (by omega)]; rfl)]
    simp only [bnd_some_eq]
    show cond (decide ((60 : Int) < ((haltL m s).length : Int))) _ _ = _
    rw [show decide ((60 : Int) < ((haltL m s).length : Int)) = decide (60 < (haltL m s).length) by rw [decide_eq_decide]; omega]
    cases decide (60 < (haltL m s).length) <;> rfl
  · rfl
theorem spec_halt (m : GMachine) (h : machB m = true) {s q : Nat} (hs : m.Symbols = s) (hq : m.States = q) (b1 : 2 ≤ s) (b2 : s ≤ 6) (hl : m.Rules.length ≤ 6000) :
    F_spec_l32Halt m = some (cond (decide (5 < m.Symbols + m.States + 1)) ([], 0, false) (haltL m s, ((ownL m s).length : Int), decide ((haltL m s).length ≤ 60))) := by
  have hS : m.Symbols ≠ 0 := by omega
  obtain ⟨e1, e2, _⟩ := border_in h
  unfold F_spec_l32Halt F_spec_l32Eraser F_spec_l16Border
  simp only [bnd_some_eq, e1, e2]
  cases decide (5 < m.Symbols + m.States + 1)
  · simp only [cond_false]
    have ho := own_len m s hl b2
    have hff := free_flat_len m hl
    obtain ⟨ok, hok⟩ := spec_own16 m hs hq b1 b2 e1 hl
    rw [hok, bnd_some_eq]
    rw [run_rangeL (body := F_spec_l32Halt_L1 m (m.Symbols + m.States + 1)) m.Rules.length (by omega) (fun a i => (a, i)) (fun i => cond (isNo m i) (freeRw m i) []) 2 (fun i _ => by
      cases isNo m i
      · exact Nat.zero_le _
      · exact freeRw_len m i) (ownL m s) 84000 ho (fun i a hi ha => by
      simp only [F_spec_l32Halt_L1, Int.ofNat_lt, hi, decide_true, cond_true, idx_rule hi, bnd_some_eq, F_spec_l05None, F_spec_l16Border, e1, nz_ok hS]
      show cond (!decide (m.Rules.getD i noR = noR)) _ _ = _
      unfold isNo
      cases decide (m.Rules.getD i noR = noR)
      · simp
      · simp only [Bool.not_true, cond_false, cond_true]
        rw [app_ok (by simp; omega), bnd_some_eq]
        unfold freeRw
        cases decide (Int.tmod (i : Int) m.Symbols = 0)
        · simp
        · rw [cond_true, app_ok (by simp; omega), bnd_some_eq, cond_true, List.append_assoc])]
    rw [run_done (x := Out.brk (ownL m s ++ ((List.range m.Rules.length).flatMap fun i => cond (isNo m i) (freeRw m i) []), (m.Rules.length : Int))) (by simp [F_spec_l32Halt_L1])]
    simp only [bnd_some_eq, Out.elim]
    rw [run_syms (body := F_spec_l32Halt_L2 m _) s b2 (eraseRw m) (fun k _ => by simp [eraseRw]) _ (by rw [List.length_append]; omega) (fun i a hi ha => by
      simp only [F_spec_l32Halt_L2]
      rw [decide_eq_true (by omega), cond_true, app_ok (by simp; omega), bnd_some_eq]
      rfl) (fun a => by
      simp only [F_spec_l32Halt_L2]
      rw [decide_eq_false (by omega)]; rfl)]
    simp only [bnd_some_eq]
    show some (haltL m s, ((ownL m s).length : Int), decide (((haltL m s).length : Int) ≤ 60)) = _
    rw [show decide (((haltL m s).length : Int) ≤ 60) = decide ((haltL m s).length ≤ 60) by rw [decide_eq_decide]; omega]
  · rfl
def smallRw (r : GRewrite) : Bool := decide (r.From.length ≤ 5) && decide (r.To.length ≤ 5)
theorem rwOf_small (s : Nat) (S b k : Int) (r : GRule) : (rwOf s S b k r).all smallRw = true := by
  unfold rwOf
  cases decide (r.Move = 1) <;> cases decide (Int.tmod k S = 0) <;> simp [smallRw]
theorem freeRw_small (m : GMachine) (i : Nat) : (freeRw m i).all smallRw = true := by
  unfold freeRw
  cases decide (Int.tmod (i : Int) m.Symbols = 0) <;> simp [smallRw]
theorem eraseRw_small (m : GMachine) (i : Nat) : (eraseRw m i).all smallRw = true := by
  simp [eraseRw, smallRw]
theorem rw_small {m : GMachine} {s : Nat} : (haltL m s).all smallRw = true := by
  unfold haltL ownL
  rw [List.all_append, List.all_append, List.all_flatMap, List.all_flatMap, List.all_flatMap, Bool.and_eq_true, Bool.and_eq_true, List.all_eq_true, List.all_eq_true, List.all_eq_true]
  refine ⟨⟨fun i _ => ?_, fun i _ => ?_⟩, fun i _ => eraseRw_small m i⟩
  · unfold ownRw
    cases decide (m.Rules.getD i noR = noR)
    · exact rwOf_small _ _ _ _ _
    · rfl
  · cases isNo m i
    · rfl
    · exact freeRw_small m i
theorem rw_mem {m : GMachine} {s : Nat} {r : GRewrite} (h : r ∈ haltL m s) : r.From.length ≤ 5 ∧ r.To.length ≤ 5 := by
  have := List.all_eq_true.1 rw_small r h
  unfold smallRw at this
  simpa using this
end Go.Fn
