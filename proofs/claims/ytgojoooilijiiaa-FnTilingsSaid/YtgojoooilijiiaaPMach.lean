/-
  Machines; the plain law of TilesOfMachine. No program in sight. No condition.
-/
import Derived.Test.YtgojoooilijiiaaPRun
import Derived.Test.YtgojoooilijiiaaLaw
namespace Go.Tc
open Go
/-- A loop over 0, 1, .. n-1 that appends. -/
theorem run_rangeL {β S X : Type} {body : S → Option (S ⊕ X)} (n : Nat) (hn : n ≤ 4611686018427387903) (st : List β → Int → S) (g : Nat → List β) (m : Nat) (hg : ∀ k, k < n → (g k).length ≤ m) (a0 : List β) (B : Nat) (h0 : a0.length ≤ B)
    (h : ∀ (i : Nat) (a : List β), i < n → a.length ≤ B + i * m → body (st a (i : Int)) = some (.inl (st (a ++ g i) (w64 ((i : Int) + 1))))) :
    run body (st a0 0) = run body (st (a0 ++ (List.range n).flatMap g) (n : Int)) := by
  have := (run_rowf (body := body) (List.range n) (by simpa using hn) st (fun a k => a ++ g k) (fun i a => a.length ≤ B + i * m) (by
    intro i hi a k
    simp only [List.length_range] at hi
    simp only [List.getElem_range]
    refine ⟨h i a hi k, ?_⟩
    have := hg i hi
    rw [List.length_append, Nat.succ_mul]
    omega) a0 (by omega)).1
  rw [foldl_app1, List.length_range] at this
  exact this
theorem w64_nat {n : Nat} (h : n ≤ 4611686018427387904) : w64 (n : Int) = n := w64_in (by omega) (by omega)
theorem w64_mul {n m : Nat} (h : n * m ≤ 4611686018427387904) : w64 ((n : Int) * (m : Int)) = ((n * m : Nat) : Int) := by
  rw [← Int.natCast_mul]
  exact w64_in (by omega) (by omega)
theorem range_mul {β : Type} (g : Nat → List β) (s : Nat) : ∀ q : Nat, (List.range (q * s)).flatMap g = (List.range q).flatMap fun p => (List.range s).flatMap fun a => g (p * s + a)
  | 0 => by simp
  | q + 1 => by
    rw [Nat.succ_mul, List.range_add, List.flatMap_append, range_mul g s q, List.range_succ, List.flatMap_append]
    simp [List.flatMap_map]
theorem flatMap_congr' {α β : Type} {f g : α → List β} : ∀ {xs : List α}, (∀ x ∈ xs, f x = g x) → xs.flatMap f = xs.flatMap g
  | [], _ => rfl
  | x :: xs, h => by rw [List.flatMap_cons, List.flatMap_cons, h x (by simp), flatMap_congr' (fun y hy => h y (by simp [hy]))]
end Go.Tc
namespace Go.Fn
open Go Go.Tc
theorem dec_lt2 {a b : Nat} {x y : Int} (hx : x = a) (hy : y = b) : decide (x < y) = decide (a < b) := by
  subst hx; subst hy
  rw [decide_eq_decide]; omega
def noR : GRule := ⟨0, 0, -1⟩
def ruleB (s q : Int) (r : GRule) : Bool := decide (r = noR) || (inB r.Write 0 (s - 1) && ((decide (r.Move = 1) || decide (r.Move = -1)) && inB r.Next 0 (q - 1)))
def machB (m : GMachine) : Bool := inB m.Symbols 2 6 && inB m.States 1 1000 && decide ((m.Rules.length : Int) = m.Symbols * m.States) && m.Rules.all (ruleB m.Symbols m.States)
theorem inB_iff {x lo hi : Int} : inB x lo hi = true ↔ lo ≤ x ∧ x ≤ hi := by
  unfold inB
  simp only [Bool.and_eq_true, decide_eq_true_eq]
theorem impl_rule (m : GMachine) (r : GRule) (hs : 0 ≤ m.Symbols ∧ m.Symbols ≤ 1000000) (hq : 0 ≤ m.States ∧ m.States ≤ 1000000) : F_impl_validRule m r = some (ruleB m.Symbols m.States r) := by
  unfold F_impl_validRule F_impl_isRule F_impl_noRule ruleB noR
  rw [w64_in (by omega) (by omega), w64_in (by omega) (by omega)]
  simp only [bnd_some_eq, impl_in]
  cases decide (r = ⟨0, 0, -1⟩)
  · cases inB r.Write 0 (m.Symbols - 1)
    · rfl
    cases decide (r.Move = 1)
    · cases decide (r.Move = -1) <;> rfl
    · cases decide (r.Move = -1) <;> rfl
  · rfl
theorem sq_in {s q : Int} (hs : 2 ≤ s ∧ s ≤ 6) (hq : 1 ≤ q ∧ q ≤ 1000) : 0 ≤ s * q ∧ s * q ≤ 6000 := by
  refine ⟨Int.mul_nonneg (by omega) (by omega), ?_⟩
  have h1 : s * q ≤ 6 * q := Int.mul_le_mul_of_nonneg_right hs.2 (by omega)
  omega
theorem impl_mach (m : GMachine) (h : Sml m) : F_impl_ValidMachine m = some (machB m) := by
  have h1 : m.Rules.length ≤ 1048576 := h.1
  unfold F_impl_ValidMachine F_impl_size_impl_Rule machB F_slices_ContainsFunc_Simpl_Rule_impl_Rule F_slices_IndexFunc_Simpl_Rule_impl_Rule
  simp only [bnd_some_eq, impl_in]
  cases hS : inB m.Symbols 2 6
  · rfl
  cases hQ : inB m.States 1 1000
  · rfl
  rw [inB_iff] at hS hQ
  have hm := sq_in hS hQ
  rw [Int.mul_comm m.States m.Symbols, w64_in (by omega) (by omega)]
  by_cases hl : (m.Rules.length : Int) = m.Symbols * m.States
  · rw [decide_eq_true hl, decide_eq_false (by omega : ¬ (m.Rules.length : Int) ≠ m.Symbols * m.States)]
    simp only [Bool.not_true, cond_false, bnd_some_eq, Bool.true_and]
    rw [run_find m.Rules (by omega) (fun x => !ruleB m.Symbols m.States x) (fun i hi => by
      simp only [F_slices_IndexFunc_Simpl_Rule_impl_Rule_L1, F_impl_ValidMachine_1, Int.ofNat_lt, hi, decide_true, cond_true, idx_nat hi, bnd_some_eq, impl_rule m _ (by omega : 0 ≤ m.Symbols ∧ m.Symbols ≤ 1000000) (by omega : 0 ≤ m.States ∧ m.States ≤ 1000000)]
      cases ruleB m.Symbols m.States m.Rules[i] <;> rfl) (by simp [F_slices_IndexFunc_Simpl_Rule_impl_Rule_L1])]
    simp only [bnd_some_eq]
    rw [find_any, any_not]
  · rw [decide_eq_false hl, decide_eq_true (show (m.Rules.length : Int) ≠ m.Symbols * m.States from hl)]
    rfl
/-- What a valid machine is like. -/
theorem machB_nat {m : GMachine} (h : machB m = true) : ∃ s q : Nat, m.Symbols = s ∧ m.States = q ∧ 2 ≤ s ∧ s ≤ 6 ∧ 1 ≤ q ∧ q ≤ 1000 ∧ m.Rules.length = q * s ∧ q * s ≤ 6000 ∧ ∀ r ∈ m.Rules, ruleB m.Symbols m.States r = true := by
  unfold machB at h
  simp only [Bool.and_eq_true, decide_eq_true_eq, inB_iff] at h
  obtain ⟨⟨⟨hs, hq⟩, hl⟩, ha⟩ := h
  have hm := sq_in hs hq
  refine ⟨m.Symbols.toNat, m.States.toNat, by omega, by omega, by omega, by omega, by omega, by omega, ?_, ?_, List.all_eq_true.1 ha⟩
  · have : ((m.States.toNat * m.Symbols.toNat : Nat) : Int) = m.Symbols * m.States := by
      rw [Int.natCast_mul, Int.toNat_of_nonneg (by omega), Int.toNat_of_nonneg (by omega), Int.mul_comm]
    omega
  · have : ((m.States.toNat * m.Symbols.toNat : Nat) : Int) = m.Symbols * m.States := by
      rw [Int.natCast_mul, Int.toNat_of_nonneg (by omega), Int.toNat_of_nonneg (by omega), Int.mul_comm]
    omega
def headC (m : GMachine) (q a : Int) : Int := w64 ((w64 (m.Symbols * (w64 (q + 1)))) + a)
def leaveT (m : GMachine) (q a : Int) (r : GRule) : List GTile :=
  cond (decide (r = noR)) [] [cond (decide (r.Move = 1)) ⟨0, headC m q a, w64 (1 + w64 (2 * r.Next)), r.Write⟩ ⟨w64 (2 + w64 (2 * r.Next)), headC m q a, 0, r.Write⟩]
def comeT (m : GMachine) (p a : Int) : List GTile := [⟨w64 (1 + w64 (2 * p)), a, 0, headC m p a⟩, ⟨0, a, w64 (2 + w64 (2 * p)), headC m p a⟩]
def restT (a : Nat) : List GTile := [⟨0, (a : Int), 0, (a : Int)⟩]
theorem leaveT_len (m : GMachine) (q a : Int) (r : GRule) : (leaveT m q a r).length ≤ 1 := by
  unfold leaveT
  cases decide (r = noR) <;> simp
def tilesM (m : GMachine) (s q : Nat) : List GTile :=
  (List.range s).flatMap restT ++ ((List.range q).flatMap fun (p : Nat) => (List.range s).flatMap fun (a : Nat) => leaveT m p a (m.Rules.getD (p * s + a) noR)) ++ ((List.range q).flatMap fun (p : Nat) => (List.range s).flatMap fun (a : Nat) => comeT m p a)
theorem flat_const {β : Type} (g : Nat → List β) (c : Nat) (h : ∀ k, (g k).length = c) : ∀ n, ((List.range n).flatMap g).length = n * c
  | 0 => by simp
  | n + 1 => by rw [List.range_succ, List.flatMap_append, List.length_append, flat_const g c h n, Nat.succ_mul]; simp [h]
theorem tilesM_len (m : GMachine) (s q : Nat) : 2 * s * q ≤ (tilesM m s q).length ∧ (tilesM m s q).length ≤ s + q * s + q * (s * 2) := by
  have h1 : ((List.range s).flatMap restT).length = s * 1 := flat_const _ 1 (fun _ => rfl) s
  have h3 : ((List.range q).flatMap fun (p : Nat) => (List.range s).flatMap fun (a : Nat) => comeT m p a).length = q * (s * 2) := flat_const _ (s * 2) (fun p => flat_const _ 2 (fun _ => rfl) s) q
  have h2 : ((List.range q).flatMap fun (p : Nat) => (List.range s).flatMap fun (a : Nat) => leaveT m p a (m.Rules.getD (p * s + a) noR)).length ≤ q * (s * 1) := by
    have := flatMap_length_le (fun (p : Nat) => (List.range s).flatMap fun (a : Nat) => leaveT m p a (m.Rules.getD (p * s + a) noR)) (n := s * 1) (List.range q) (fun p _ => by
      have := flatMap_length_le (fun (a : Nat) => leaveT m p a (m.Rules.getD (p * s + a) noR)) (n := 1) (List.range s) (fun a _ => leaveT_len _ _ _ _)
      simpa using this)
    simpa using this
  unfold tilesM
  rw [List.length_append, List.length_append, h1, h3]
  have e : q * (s * 2) = 2 * s * q := by rw [Nat.mul_comm q, Nat.mul_comm s 2]
  have e2 : q * (s * 1) = q * s := by rw [Nat.mul_one]
  omega
theorem at_lt {p a s q : Nat} (hp : p < q) (ha : a < s) : p * s + a < q * s := by
  have : (p + 1) * s ≤ q * s := Nat.mul_le_mul_right s hp
  rw [Nat.succ_mul] at this
  omega
theorem impl_leaving (m : GMachine) (q a : Int) (r : GRule) : F_impl_leaving m q a r = some (cond (decide (r.Move = 1)) ⟨0, headC m q a, w64 (1 + w64 (2 * r.Next)), r.Write⟩ ⟨w64 (2 + w64 (2 * r.Next)), headC m q a, 0, r.Write⟩) := by
  unfold F_impl_leaving F_impl_headColor F_impl_passes
  cases decide (r.Move = 1) <;> rfl
theorem impl_tiles (m : GMachine) {s q : Nat} (hs : m.Symbols = s) (hq : m.States = q) (b1 : 2 ≤ s) (b2 : s ≤ 6) (b3 : 1 ≤ q) (b4 : q ≤ 1000) (hl : m.Rules.length = q * s) (b5 : q * s ≤ 6000) :
    F_impl_tilesOfMachine m = some (cond (decide (300 < (tilesM m s q).length)) ([], 5) (tilesM m s q, 0)) := by
  unfold F_impl_tilesOfMachine
  rw [run_rangeL (body := F_impl_tilesOfMachine_L1 m) s (by omega) (fun a i => (a, i)) restT 1 (fun k _ => by simp [restT]) [] 0 (by simp) (fun i a hi ha => by
    simp only [F_impl_tilesOfMachine_L1, hs, Int.ofNat_lt, hi, decide_true, cond_true, F_impl_resting, bnd_some_eq]
    rw [app_ok (by simp; omega), bnd_some_eq]
    rfl), run_done (x := .brk ([] ++ (List.range s).flatMap restT, (s : Int))) (by simp [F_impl_tilesOfMachine_L1, hs])]
  simp only [bnd_some_eq, Out.elim, List.nil_append]
  have l1 : ((List.range s).flatMap restT).length = s * 1 := flat_const _ 1 (fun _ => rfl) s
  rw [run_rangeL (body := F_impl_tilesOfMachine_L2 m) (q * s) (by omega) (fun a i => (a, i)) (fun (i : Nat) => leaveT m ((i / s : Nat) : Int) ((i % s : Nat) : Int) (m.Rules.getD i noR)) 1 (fun k _ => leaveT_len _ _ _ _) _ 6 (by omega) (fun i a hi ha => by
    have hi' : i < m.Rules.length := by omega
    have e1 : w64 (Int.tdiv (i : Int) m.Symbols) = ((i / s : Nat) : Int) := by
      rw [hs, show Int.tdiv (i : Int) (s : Int) = ((i / s : Nat) : Int) from rfl]
      have := Nat.div_le_self i s
      exact w64_nat (by omega)
    have e2 : Int.tmod (i : Int) m.Symbols = ((i % s : Nat) : Int) := by rw [hs]; rfl
    have e3 : nz m.Symbols = some () := by unfold nz; rw [if_neg (by omega)]
    have e4 : m.Rules.getD i noR = m.Rules[i] := by rw [List.getD_eq_getElem?_getD, List.getElem?_eq_getElem hi']; rfl
    simp only [F_impl_tilesOfMachine_L2, Int.ofNat_lt, hi', decide_true, cond_true, idx_nat hi', bnd_some_eq, F_impl_isRule, F_impl_noRule, e1, e2, e3, impl_leaving]
    rw [e4]
    unfold leaveT
    rw [app_ok (by simp; omega), bnd_some_eq]
    cases hn : decide (m.Rules[i] = noR)
    · rw [show decide (m.Rules[i] = (⟨0, 0, -1⟩ : GRule)) = false from hn]
      rfl
    · rw [show decide (m.Rules[i] = (⟨0, 0, -1⟩ : GRule)) = true from hn]
      simp)]
  rw [range_mul]
  have eg : ((List.range q).flatMap fun (p : Nat) => (List.range s).flatMap fun (a : Nat) => leaveT m (((p * s + a) / s : Nat) : Int) (((p * s + a) % s : Nat) : Int) (m.Rules.getD (p * s + a) noR)) = (List.range q).flatMap fun (p : Nat) => (List.range s).flatMap fun (a : Nat) => leaveT m p a (m.Rules.getD (p * s + a) noR) := by
    congr 1
    funext p
    apply flatMap_congr'
    intro a ha
    have ha : a < s := List.mem_range.1 ha
    rw [Nat.mul_comm p s, Nat.mul_add_div (by omega), Nat.div_eq_of_lt ha, Nat.mul_add_mod, Nat.mod_eq_of_lt ha, Nat.add_zero]
  rw [eg]
  have l2 : ((List.range q).flatMap fun (p : Nat) => (List.range s).flatMap fun (a : Nat) => leaveT m p a (m.Rules.getD (p * s + a) noR)).length ≤ q * 6 := by
    have := flatMap_length_le (fun (p : Nat) => (List.range s).flatMap fun (a : Nat) => leaveT m p a (m.Rules.getD (p * s + a) noR)) (n := 6) (List.range q) (fun p _ => by
      have := flatMap_length_le (fun (a : Nat) => leaveT m p a (m.Rules.getD (p * s + a) noR)) (n := 1) (List.range s) (fun a _ => leaveT_len _ _ _ _)
      simp only [List.length_range] at this
      omega)
    simpa using this
  rw [run_done (x := .brk ((List.range s).flatMap restT ++ (List.range q).flatMap fun (p : Nat) => (List.range s).flatMap fun (a : Nat) => leaveT m p a (m.Rules.getD (p * s + a) noR), ((q * s : Nat) : Int))) (by
    simp only [F_impl_tilesOfMachine_L2, hl]
    rw [decide_eq_false (by omega : ¬ ((q * s : Nat) : Int) < ((q * s : Nat) : Int))]
    rfl)]
  simp only [bnd_some_eq, Out.elim]
  have inner2 : ∀ (p : Nat) (a : List GTile), p < q → a.length ≤ 100000 → run (F_impl_tilesOfMachine_L4 m (a, (p : Int))) (a, 0) = some (.brk (a ++ (List.range s).flatMap fun (b : Nat) => comeT m p b, (s : Int))) := by
    intro p a hp ha
    rw [run_rangeL (body := F_impl_tilesOfMachine_L4 m (a, (p : Int))) s (by omega) (fun a i => (a, i)) (fun (b : Nat) => comeT m p b) 2 (fun k _ => by simp [comeT]) a 100000 ha (fun i b hi hb => by
      simp only [F_impl_tilesOfMachine_L4, hs, Int.ofNat_lt, hi, decide_true, cond_true, F_impl_coming, F_impl_headColor, F_impl_passes, bnd_some_eq]
      rw [← hs]
      have : decide ((-1 : Int) = 1) = false := by decide
      simp only [this, cond_false, bnd_some_eq]
      rw [app_ok (by simp; omega), bnd_some_eq]
      rfl)]
    exact run_done (by simp [F_impl_tilesOfMachine_L4, hs])
  rw [run_rangeL (body := F_impl_tilesOfMachine_L3 m) q (by omega) (fun a i => (a, i)) (fun (p : Nat) => (List.range s).flatMap fun (a : Nat) => comeT m p a) 12 (fun p _ => by
    have := flatMap_length_le (fun (a : Nat) => comeT m p a) (n := 2) (List.range s) (fun a _ => by simp [comeT])
    simp only [List.length_range] at this
    omega) _ 6006 (by rw [List.length_append]; omega) (fun p a hp ha => by
    simp only [F_impl_tilesOfMachine_L3, hq, Int.ofNat_lt, hp, decide_true, cond_true]
    rw [inner2 p a hp (by omega)]
    rfl)]
  rw [run_done (x := .brk (tilesM m s q, (q : Int))) (by simp [F_impl_tilesOfMachine_L3, hq, tilesM])]
  simp only [bnd_some_eq, Out.elim]
  rw [dec_lt2 (x := 300) (y := ((tilesM m s q).length : Int)) rfl rfl]
  cases decide (300 < (tilesM m s q).length) <;> rfl
end Go.Fn
