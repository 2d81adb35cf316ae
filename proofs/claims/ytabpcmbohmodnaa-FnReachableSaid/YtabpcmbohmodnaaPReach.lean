/-
  The law FnReachable: what is reached from a state is closed under the rules, and the pruned machine goes as the machine goes. No program in sight. No condition.
-/
import Derived.Test.YtabpcmbohmodnaaPRnr
namespace Go.Fn
open Go Go.Tc
/-! ### Order and search -/
theorem rch_u64 {x : Int} (h0 : 0 ≤ x) (h1 : x ≤ 10000000) : wk .u64 x = x := by
  have h : x % (2 ^ IntKind.bits .u64 : Int) = x := Int.emod_eq_of_lt h0 (by show x < 18446744073709551616; omega)
  have hs : IntKind.signed .u64 = false := rfl
  unfold wk IntKind.wrap
  simp only [h, hs, Bool.false_and]
  rfl
theorem rch_mid {lo hi : Nat} (h : lo + hi ≤ 4000000) : w64 (Int.fdiv (wk .u64 (w64 ((lo : Int) + (hi : Int)))) (2 ^ min (1 : Int).toNat (IntKind.bits .u64))) = (((lo + hi) / 2 : Nat) : Int) := by
  have e : (2 ^ min (1 : Int).toNat (IntKind.bits .u64) : Int) = 2 := rfl
  rw [e, w64_in (n := (lo : Int) + hi) (by omega) (by omega), rch_u64 (by omega) (by omega), Int.fdiv_eq_ediv_of_nonneg _ (by omega), w64_in (by omega) (by omega)]
  omega
theorem rch_less (a b : Int) : F_cmp_Less_int64 a b = some (decide (a < b)) := by
  unfold F_cmp_Less_int64 F_cmp_isNaN_int64
  rw [bnd_some_eq, decide_eq_false (by simp), cond_false]
def Inc (old : List Int) : Prop := ∀ i j (hi : i < old.length) (hj : j < old.length), i < j → old[i] < old[j]
theorem Inc.iff {old : List Int} (h : Inc old) {i j : Nat} (hi : i < old.length) (hj : j < old.length) : old[i] < old[j] ↔ i < j := by
  refine ⟨fun hl => ?_, h i j hi hj⟩
  rcases Nat.lt_trichotomy i j with h1 | h1 | h1
  · exact h1
  · subst h1
    omega
  · have := h j i hj hi h1
    omega
theorem rch_bs {old : List Int} (hs : Inc old) (hn : old.length ≤ 1000000) {p : Nat} (hp : p < old.length) : F_slices_BinarySearch_Sint64_int64 old old[p] = some ((p : Int), true) := by
  have key : ∀ (d lo hi : Nat), hi - lo ≤ d → lo ≤ p → p ≤ hi → hi ≤ old.length → run (F_slices_BinarySearch_Sint64_int64_L1 old old[p]) ((lo : Int), (hi : Int)) = some (.brk ((p : Int), (p : Int))) := by
    intro d
    induction d with
    | zero =>
      intro lo hi h a b c
      have e1 : lo = p := by omega
      have e2 : hi = p := by omega
      rw [e1, e2]
      refine run_done ?_
      simp only [F_slices_BinarySearch_Sint64_int64_L1]
      rw [decide_eq_false (Int.lt_irrefl _), cond_false]
    | succ d ih =>
      intro lo hi h a b c
      by_cases hlt : lo < hi
      · have hm : (lo + hi) / 2 < old.length := by omega
        have hb : F_slices_BinarySearch_Sint64_int64_L1 old old[p] ((lo : Int), (hi : Int)) = some (.inl (if (lo + hi) / 2 < p then ((((lo + hi) / 2 + 1 : Nat) : Int), (hi : Int)) else ((lo : Int), (((lo + hi) / 2 : Nat) : Int)))) := by
          simp only [F_slices_BinarySearch_Sint64_int64_L1]
          rw [decide_eq_true (by omega), cond_true, rch_mid (by omega), idx_nat hm, bnd_some_eq, rch_less, bnd_some_eq]
          by_cases hc : (lo + hi) / 2 < p
          · rw [decide_eq_true ((hs.iff hm hp).2 hc), cond_true, if_pos hc, w64_nat1 (by omega)]
          · rw [decide_eq_false (fun h => hc ((hs.iff hm hp).1 h)), cond_false, if_neg hc]
        rw [run_next hb]
        by_cases hc : (lo + hi) / 2 < p
        · rw [if_pos hc]
          exact ih _ _ (by omega) (by omega) (by omega) (by omega)
        · rw [if_neg hc]
          exact ih _ _ (by omega) (by omega) (by omega) (by omega)
      · have e1 : lo = p := by omega
        have e2 : hi = p := by omega
        rw [e1, e2]
        refine run_done ?_
        simp only [F_slices_BinarySearch_Sint64_int64_L1]
        rw [decide_eq_false (Int.lt_irrefl _), cond_false]
  have := key old.length 0 old.length (by omega) (by omega) (by omega) (Nat.le_refl _)
  rw [show ((0 : Nat) : Int) = 0 from rfl] at this
  unfold F_slices_BinarySearch_Sint64_int64
  rw [this, bnd_some_eq]
  simp only [Out.elim]
  rw [decide_eq_true (by omega), cond_true, idx_nat hp, bnd_some_eq, decide_eq_true rfl, cond_true]
/-! ### What is reached -/
def Tru (seen : List Bool) (j : Nat) : Prop := seen[j]? = some true
def rowR (m : GMachine) (s k : Nat) : List GRule := (m.Rules.take ((k + 1) * s)).drop (k * s)
def nx (m : GMachine) (s k : Nat) : List Int := (rowR m s k).flatMap fun r => if r = noR then [] else [r.Next]
theorem rowR_len {m : GMachine} {s q : Nat} (M : MaI m s q) {k : Nat} (hk : k < q) : (rowR m s k).length = s := by
  have h1 : (k + 1) * s ≤ q * s := Nat.mul_le_mul_right s hk
  have h2 : (k + 1) * s = k * s + s := Nat.succ_mul k s
  unfold rowR
  rw [List.length_drop, List.length_take, M.hl]
  omega
theorem rowR_get {m : GMachine} {s k a : Nat} (ha : a < s) : (rowR m s k)[a]? = m.Rules[k * s + a]? := by
  have h2 : (k + 1) * s = k * s + s := Nat.succ_mul k s
  unfold rowR
  rw [List.getElem?_drop, List.getElem?_take, if_pos (by omega)]
theorem rowR_mem {m : GMachine} {s k : Nat} {r : GRule} (h : r ∈ rowR m s k) : r ∈ m.Rules := List.mem_of_mem_take (List.mem_of_mem_drop h)
theorem nx_mem {m : GMachine} {s k : Nat} {x : Int} : x ∈ nx m s k ↔ ∃ r ∈ rowR m s k, r ≠ noR ∧ x = r.Next := by
  unfold nx
  rw [List.mem_flatMap]
  constructor
  · rintro ⟨r, hr, hx⟩
    by_cases h : r = noR
    · rw [if_pos h] at hx
      cases hx
    · rw [if_neg h] at hx
      exact ⟨r, hr, h, List.mem_singleton.1 hx⟩
  · rintro ⟨r, hr, h, rfl⟩
    exact ⟨r, hr, by rw [if_neg h]; exact List.mem_singleton.2 rfl⟩
theorem nx_in {m : GMachine} {s q : Nat} (M : MaI m s q) {k : Nat} {x : Int} (h : x ∈ nx m s k) : 0 ≤ x ∧ x < (q : Int) := by
  obtain ⟨r, hr, hn, rfl⟩ := nx_mem.1 h
  exact (rule_in M (rowR_mem hr) hn).2.2
theorem rch_slc {m : GMachine} {s q : Nat} (M : MaI m s q) {k : Nat} (hk : k < q) : slc m.Rules (w64 ((k : Int) * m.Symbols)) (w64 (w64 ((k : Int) + 1) * m.Symbols)) = some (rowR m s k) := by
  have h1 : (k + 1) * s ≤ q * s := Nat.mul_le_mul_right s hk
  have h2 : (k + 1) * s = k * s + s := Nat.succ_mul k s
  have := M.b5
  have := M.b4
  rw [M.hs, w64_nat1 (by omega), w64_mul (by omega), w64_mul (by omega), slc_ok (by omega) (by rw [M.hl]; exact h1)]
  rfl
theorem rch_L1 (z : List GRule) (hz : z.length ≤ 1000) : run (F_impl_reachable_1_c0_L1 z) (([] : List Int), 0) = some (.brk ((z.flatMap fun r => if r = noR then [] else [r.Next]), (z.length : Int))) := by
  have h := (run_rowf (body := F_impl_reachable_1_c0_L1 z) z (by omega) (fun (a : List Int) k => (a, k)) (fun a r => a ++ (if r = noR then [] else [r.Next])) (fun i a => a.length ≤ i) (by
    intro i hi a hI
    refine ⟨?_, ?_⟩
    · simp only [F_impl_reachable_1_c0_L1]
      rw [decide_eq_true (by omega), cond_true, idx_nat hi, bnd_some_eq, impl_isRule, bnd_some_eq]
      by_cases hr : z[i] = noR
      · rw [decide_eq_true hr, if_pos hr, List.append_nil, Bool.not_true, cond_false]
      · rw [decide_eq_false hr, if_neg hr, Bool.not_false, cond_true, app_ok (by simp; omega), bnd_some_eq]
    · show (a ++ _).length ≤ i + 1
      rw [List.length_append]
      split
      · simp; omega
      · simp; omega) [] (by simp)).1
  rw [h, foldl_app1, List.nil_append]
  refine run_done ?_
  simp only [F_impl_reachable_1_c0_L1]
  rw [decide_eq_false (Int.lt_irrefl _), cond_false]
theorem rch_cnt : ∀ {a b : List Bool}, a.length = b.length → (∀ j : Nat, a[j]? = some true → b[j]? = some true) → b.count false ≤ a.count false
  | [], [], _, _ => Nat.le_refl _
  | [], _ :: _, h, _ => by cases h
  | _ :: _, [], h, _ => by cases h
  | x :: a, y :: b, h, hs => by
    have ih := rch_cnt (a := a) (b := b) (by simpa using h) (fun j hj => by
      have := hs (j + 1) (by simpa using hj)
      simpa using this)
    have h0 := hs 0
    cases x
    · cases y
      · simpa using ih
      · rw [List.count_cons_self, List.count_cons_of_ne (by decide)]
        omega
    · have hy : y = true := by simpa using h0
      subst hy
      rw [List.count_cons_of_ne (by decide), List.count_cons_of_ne (by decide)]
      exact ih
structure Dn (m : GMachine) (s q k : Nat) (seen seen' : List Bool) : Prop where
  len : seen'.length = q
  sub : ∀ j, Tru seen j → Tru seen' j
  on : Tru seen' k
  cl : ∀ j, Tru seen' j → ¬ Tru seen j → ∀ x ∈ nx m s j, Tru seen' x.toNat
theorem rch_L2 {m : GMachine} {s q : Nat} {l : List Int} (hl : l.length ≤ 1000) {k3 : Int}
    {rec_ : Int → Int → List Bool → GMachine → Option (Unit × List Bool)} {c0 : Nat}
    (hrec : ∀ (k : Nat) (seen : List Bool), k < q → seen.length = q → seen.count false ≤ c0 → ∃ seen', rec_ (k : Int) (q : Int) seen m = some ((), seen') ∧ Dn m s q k seen seen')
    (hq : ∀ x ∈ l, 0 ≤ x ∧ x < (q : Int)) (s1 : List Bool) (h1 : s1.length = q) (hc : s1.count false ≤ c0) :
    ∀ (d i : Nat) (t : List Bool), i + d = l.length → t.length = q → (∀ j, Tru s1 j → Tru t j) → (∀ j, j < i → Tru t (l.getD j 0).toNat) → (∀ j, Tru t j → ¬ Tru s1 j → ∀ x ∈ nx m s j, Tru t x.toNat) →
    ∃ t', run (F_impl_reachable_1_c0_L2 (q : Int) m rec_ (l, k3)) (t, (i : Int)) = some (.brk (t', (l.length : Int))) ∧ t'.length = q ∧ (∀ j, Tru s1 j → Tru t' j) ∧ (∀ x ∈ l, Tru t' x.toNat) ∧ (∀ j, Tru t' j → ¬ Tru s1 j → ∀ x ∈ nx m s j, Tru t' x.toNat) := by
  intro d
  induction d with
  | zero =>
    intro i t hi ht hs hj hx
    obtain rfl : i = l.length := by omega
    refine ⟨t, run_done ?_, ht, hs, ?_, hx⟩
    · simp only [F_impl_reachable_1_c0_L2]
      rw [decide_eq_false (Int.lt_irrefl _), cond_false]
    · intro x hxl
      obtain ⟨j, hjl, rfl⟩ := List.mem_iff_getElem.1 hxl
      have := hj j hjl
      rwa [List.getD_eq_getElem?_getD, List.getElem?_eq_getElem hjl, Option.getD_some] at this
  | succ d ih =>
    intro i t hi ht hs hj hx
    have hil : i < l.length := by omega
    have hxi := hq _ (List.getElem_mem hil)
    obtain ⟨t2, e2, D⟩ := hrec l[i].toNat t (by omega) ht (Nat.le_trans (rch_cnt (by omega) hs) hc)
    rw [show ((l[i].toNat : Nat) : Int) = l[i] by omega] at e2
    have hb : F_impl_reachable_1_c0_L2 (q : Int) m rec_ (l, k3) (t, (i : Int)) = some (.inl (t2, ((i + 1 : Nat) : Int))) := by
      simp only [F_impl_reachable_1_c0_L2]
      rw [decide_eq_true (by omega), cond_true, idx_nat hil, bnd_some_eq, e2, bnd_some_eq, w64_nat1 (by omega)]
    rw [run_next hb]
    refine ih (i + 1) t2 (by omega) D.len (fun j h => D.sub j (hs j h)) (fun j hj' => ?_) (fun j h1 h2 x hxn => ?_)
    · by_cases e : j = i
      · subst e
        rw [List.getD_eq_getElem?_getD, List.getElem?_eq_getElem hil, Option.getD_some]
        exact D.on
      · exact D.sub _ (hj j (by omega))
    · by_cases h3 : Tru t j
      · exact D.sub _ (hx j h3 h2 x hxn)
      · exact D.cl j h1 h3 x hxn
noncomputable abbrev stpR := (fun (rec_ : (Int × Int × (List Bool) × GMachine) → Option ((Unit) × ((List Bool)))) (a_ : Int × Int × (List Bool) × GMachine) => F_impl_reachable_1_c0_step (fun p0 p1 p2 p6 => rec_ (p0, p1, p2, p6)) a_.1 a_.2.1 a_.2.2.1 a_.2.2.2)
theorem mono_R : Mono stpR := by
  refine Mono.of fun f g h a => ?_
  show OLe (F_impl_reachable_1_c0_step _ _ _ _ _) (F_impl_reachable_1_c0_step _ _ _ _ _)
  unfold F_impl_reachable_1_c0_step F_impl_reachable_1_c0_L2
  repeat' first | with_reducible exact OLe.refl _ | with_reducible exact h _ | with_reducible refine OLe.cond _ ?_ ?_ | with_reducible refine OLe.bnd ?_ (fun _ => ?_) | with_reducible refine OLe.elim _ (fun _ => ?_) (fun _ => ?_) | with_reducible refine OLe.run (fun _ => ?_)
theorem rch_dfs {m : GMachine} {s q : Nat} (M : MaI m s q) : ∀ (n k : Nat) (seen : List Bool), k < q → seen.length = q → seen.count false < n → ∃ seen', fixN stpR n ((k : Int), (q : Int), seen, m) = some ((), seen') ∧ Dn m s q k seen seen' := by
  intro n
  induction n with
  | zero => intro k seen _ _ h; omega
  | succ n ih =>
    intro k seen hk hl hc
    have hkl : k < seen.length := by omega
    show ∃ seen', F_impl_reachable_1_c0_step (fun p0 p1 p2 p6 => fixN stpR n (p0, p1, p2, p6)) (k : Int) (q : Int) seen m = some ((), seen') ∧ _
    unfold F_impl_reachable_1_c0_step
    rw [decide_eq_false (by omega), cond_false, idx_nat hkl, bnd_some_eq]
    cases hs : seen[k] with
    | true =>
      have ht : Tru seen k := by
        unfold Tru
        rw [List.getElem?_eq_getElem hkl, hs]
      exact ⟨seen, rfl, hl, fun _ h => h, ht, fun j h1 h2 => absurd h1 h2⟩
    | false =>
      rw [cond_false, bnd_some_eq]
      simp only [Out.elim, bnd_some_eq]
      have hrl := rowR_len M hk
      have b2 := M.b2
      have h1 : (seen.set k true).length = q := by rw [List.length_set]; exact hl
      have hcn : (seen.set k true).count false + 1 = seen.count false := by
        have hm : false ∈ seen := hs ▸ List.getElem_mem hkl
        have hp := List.count_pos_iff.2 hm
        rw [List.count_set hkl, hs]
        simp
        omega
      rw [rch_slc M hk, bnd_some_eq, rch_L1 _ (by omega), bnd_some_eq, Int.toNat_natCast]
      simp only [Out.elim]
      obtain ⟨t', e, l1, l2, l3, l4⟩ := rch_L2 (m := m) (s := s) (l := nx m s k) (k3 := ((rowR m s k).length : Int)) (rec_ := fun p0 p1 p2 p6 => fixN stpR n (p0, p1, p2, p6)) (c0 := n - 1) (by
        unfold nx
        rw [List.length_flatMap]
        have : ∀ l : List GRule, (l.map fun r => (if r = noR then ([] : List Int) else [r.Next]).length).sum ≤ l.length := by
          intro l
          induction l with
          | nil => simp
          | cons r l ih =>
            rw [List.map_cons, List.sum_cons, List.length_cons]
            split
            · simp only [List.length_nil]; omega
            · simp only [List.length_singleton]; omega
        have := this (rowR m s k)
        omega) (fun k2 seen2 a b c => ih k2 seen2 a b (by omega)) (fun x hx => nx_in M hx) (seen.set k true) h1 (by omega) (nx m s k).length 0 (seen.set k true) (by omega) h1 (fun _ h => h) (fun j hj => by omega) (fun j h1 h2 => absurd h1 h2)
      have ht' : Tru (seen.set k true) k := by
        unfold Tru
        rw [List.getElem?_set, if_pos rfl, if_pos hkl]
      have hsub : ∀ j, Tru seen j → Tru (seen.set k true) j := by
        intro j hj
        unfold Tru at hj ⊢
        rw [List.getElem?_set]
        by_cases e : k = j
        · subst e
          rw [if_pos rfl, if_pos hkl]
        · rw [if_neg e]
          exact hj
      unfold nx at e
      rw [show ((0 : Nat) : Int) = 0 from rfl] at e
      rw [e, bnd_some_eq]
      refine ⟨t', rfl, l1, fun j hj => l2 j (hsub j hj), l2 k ht', fun j h1 h2 x hx => ?_⟩
      by_cases e : j = k
      · subst e
        exact l3 x hx
      · refine l4 j h1 (fun h => h2 ?_) x hx
        unfold Tru at h ⊢
        rw [List.getElem?_set, if_neg (fun e' => e e'.symm)] at h
        exact h
theorem rch_all {m : GMachine} {s q : Nat} (M : MaI m s q) : ∃ S, F_impl_reachable_1_c0 0 (q : Int) (List.replicate q false) m = some ((), S) ∧ S.length = q ∧ Tru S 0 ∧ ∀ j, Tru S j → ∀ x ∈ nx m s j, Tru S x.toNat := by
  obtain ⟨S, e, D⟩ := rch_dfs M (q + 1) 0 (List.replicate q false) M.b3 (List.length_replicate ..) (by have := List.count_le_length (a := false) (l := List.replicate q false); rw [List.length_replicate] at this; omega)
  refine ⟨S, (fixR_iff mono_R).2 ⟨_, e⟩, D.len, D.on, fun j hj => D.cl j hj ?_⟩
  unfold Tru
  intro h
  have := List.mem_of_getElem? h
  rw [List.mem_replicate] at this
  exact absurd this.2 (by decide)
/-! ### The machine pruned -/
def olds (S : List Bool) : List Int := ((List.range S.length).filter fun j => S.getD j false).map fun (j : Nat) => (j : Int)
theorem olds_inc (S : List Bool) : Inc (olds S) := by
  have h : (olds S).Pairwise (· < ·) := by
    unfold olds
    rw [List.pairwise_map]
    exact (List.pairwise_lt_range.filter _).imp fun h => Int.ofNat_lt.2 h
  exact fun i j hi hj hij => List.pairwise_iff_getElem.1 h i j hi hj hij
theorem olds_mem {S : List Bool} {x : Int} : x ∈ olds S ↔ 0 ≤ x ∧ Tru S x.toNat := by
  unfold olds Tru
  rw [List.mem_map]
  constructor
  · rintro ⟨j, hj, rfl⟩
    rw [List.mem_filter, List.mem_range] at hj
    refine ⟨by omega, ?_⟩
    have h2 := hj.2
    rw [List.getD_eq_getElem?_getD, List.getElem?_eq_getElem hj.1, Option.getD_some] at h2
    rw [Int.toNat_natCast, List.getElem?_eq_getElem hj.1, h2]
  · rintro ⟨h0, h⟩
    obtain ⟨hl, e⟩ := List.getElem?_eq_some_iff.1 h
    refine ⟨x.toNat, ?_, by omega⟩
    rw [List.mem_filter, List.mem_range]
    refine ⟨hl, ?_⟩
    rw [List.getD_eq_getElem?_getD, List.getElem?_eq_getElem hl, e]
    rfl
theorem olds_len (S : List Bool) : (olds S).length ≤ S.length := by
  unfold olds
  rw [List.length_map]
  have := List.length_filter_le (fun j => S.getD j false) (List.range S.length)
  rwa [List.length_range] at this
theorem olds_zero {S : List Bool} (h : Tru S 0) : (olds S)[0]? = some 0 := by
  have h0 : (0 : Int) ∈ olds S := olds_mem.2 ⟨by omega, h⟩
  obtain ⟨i, hi, e⟩ := List.mem_iff_getElem.1 h0
  have hl : 0 < (olds S).length := by omega
  have h1 := (olds_mem.1 (List.getElem_mem hl)).1
  rw [List.getElem?_eq_getElem hl]
  by_cases hz : i = 0
  · subst hz
    rw [e]
  · have := olds_inc S 0 i hl hi (by omega)
    omega
theorem flat_filter (p : Nat → Bool) : ∀ l : List Nat, l.flatMap (fun j => if p j = true then [(j : Int)] else []) = (l.filter p).map fun (j : Nat) => (j : Int)
  | [] => rfl
  | j :: l => by
    rw [List.flatMap_cons, List.filter_cons, flat_filter p l]
    by_cases h : p j = true
    · rw [if_pos h, if_pos h]; rfl
    · rw [if_neg h, if_neg h]; rfl
theorem prune_L1 (S : List Bool) (hS : S.length ≤ 1000) : run (F_impl_PruneMachine_L1 ((), S)) (([] : List Int), 0) = some (.brk (olds S, (S.length : Int))) := by
  have h := run_rangeL (body := F_impl_PruneMachine_L1 ((), S)) S.length (by omega) (fun (a : List Int) k => (a, k)) (fun j => if S.getD j false = true then [(j : Int)] else []) 1 (fun k _ => by split <;> simp) [] 0 (by simp) (by
    intro i a hi ha
    simp only [F_impl_PruneMachine_L1]
    rw [decide_eq_true (by omega), cond_true, idx_nat hi, bnd_some_eq, List.getD_eq_getElem?_getD, List.getElem?_eq_getElem hi, Option.getD_some]
    cases S[i]
    · rw [cond_false, if_neg (by decide), List.append_nil]
    · rw [cond_true, if_pos rfl, app_ok (by simp; omega), bnd_some_eq])
  rw [h, flat_filter, List.nil_append]
  refine run_done ?_
  simp only [F_impl_PruneMachine_L1]
  rw [decide_eq_false (Int.lt_irrefl _), cond_false]
  rfl
def ren (old : List Int) (r : GRule) : GRule := if r = noR then r else ⟨r.Write, r.Move, (old.idxOf r.Next : Int)⟩
theorem ren_nor (old : List Int) (r : GRule) : ren old r = noR ↔ r = noR := by
  unfold ren
  by_cases h : r = noR
  · rw [if_pos h]
  · rw [if_neg h]
    constructor
    · intro e
      have := congrArg GRule.Next e
      unfold noR at this
      simp only at this
      omega
    · intro e
      exact absurd e h
theorem prune_L3 {old : List Int} {k2 : Int} (hs : Inc old) (hn : old.length ≤ 1000) (z : List GRule) (hz : z.length ≤ 1000) (hm : ∀ r ∈ z, r ≠ noR → r.Next ∈ old) (a0 : List GRule) (ha : a0.length ≤ 1000000) :
    run (F_impl_PruneMachine_L3 (old, k2) z) (a0, 0) = some (.brk (a0 ++ z.map (ren old), (z.length : Int))) := by
  have h := (run_rowf (body := F_impl_PruneMachine_L3 (old, k2) z) z (by omega) (fun (a : List GRule) k => (a, k)) (fun a r => a ++ [ren old r]) (fun i a => a.length ≤ 1000000 + i) (by
    intro i hi a hI
    refine ⟨?_, ?_⟩
    · simp only [F_impl_PruneMachine_L3]
      rw [decide_eq_true (by omega), cond_true, idx_nat hi, bnd_some_eq, impl_isRule, bnd_some_eq]
      unfold ren
      by_cases hr : z[i] = noR
      · rw [decide_eq_true hr, if_pos hr, Bool.not_true, cond_false, app_ok (by simp; omega), bnd_some_eq]
      · have hmem := hm _ (List.getElem_mem hi) hr
        have hp := List.idxOf_lt_length_of_mem hmem
        have hb := rch_bs hs (by omega) hp
        rw [List.getElem_idxOf hp] at hb
        rw [decide_eq_false hr, if_neg hr, Bool.not_false, cond_true, hb, bnd_some_eq, app_ok (by simp; omega), bnd_some_eq]
    · show (a ++ [_]).length ≤ _
      rw [List.length_append, List.length_singleton]
      omega) a0 (by omega)).1
  have hf : ∀ (l : List GRule) (a : List GRule), l.foldl (fun a r => a ++ [ren old r]) a = a ++ l.map (ren old) := by
    intro l
    induction l with
    | nil => intro a; simp
    | cons r l ih => intro a; rw [List.foldl_cons, ih]; simp
  rw [h, hf]
  refine run_done ?_
  simp only [F_impl_PruneMachine_L3]
  rw [decide_eq_false (Int.lt_irrefl _), cond_false]
def rulesN (m : GMachine) (s : Nat) (old : List Int) : List GRule := old.flatMap fun o => (rowR m s o.toNat).map (ren old)
theorem prune_L2 {m : GMachine} {s q : Nat} (M : MaI m s q) {old : List Int} {k2 : Int} (hs : Inc old) (hn : old.length ≤ 1000) (hq : ∀ o ∈ old, 0 ≤ o ∧ o < (q : Int)) (hc : ∀ o ∈ old, ∀ x ∈ nx m s o.toNat, x ∈ old) :
    run (F_impl_PruneMachine_L2 m (old, k2)) (([] : List GRule), 0) = some (.brk (rulesN m s old, (old.length : Int))) := by
  have b2 := M.b2
  have h := (run_rowf (body := F_impl_PruneMachine_L2 m (old, k2)) old (by omega) (fun (a : List GRule) k => (a, k)) (fun a o => a ++ (rowR m s o.toNat).map (ren old)) (fun i a => a.length ≤ i * s ∧ i ≤ 1000) (by
    intro i hi a hI
    have ho := hq _ (List.getElem_mem hi)
    have hlt : (old[i]).toNat < q := by omega
    have hrl := rowR_len M hlt
    have hsl := rch_slc M hlt
    have hi6 : i * s ≤ i * 6 := Nat.mul_le_mul_left i b2
    rw [show (((old[i]).toNat : Nat) : Int) = old[i] by omega] at hsl
    have h3 := prune_L3 (k2 := k2) hs hn (rowR m s (old[i]).toNat) (by omega) (fun r hr hnr => hc _ (List.getElem_mem hi) _ (nx_mem.2 ⟨r, hr, hnr, rfl⟩)) a (by omega)
    refine ⟨?_, ?_⟩
    · simp only [F_impl_PruneMachine_L2]
      rw [decide_eq_true (by omega), cond_true, idx_nat hi, bnd_some_eq, hsl, bnd_some_eq, h3, bnd_some_eq]
      rfl
    · show (a ++ _).length ≤ (i + 1) * s ∧ i + 1 ≤ 1000
      rw [List.length_append, List.length_map, hrl, Nat.succ_mul]
      omega) [] (by simp)).1
  rw [h, foldl_app1, List.nil_append]
  refine run_done ?_
  simp only [F_impl_PruneMachine_L2]
  rw [decide_eq_false (Int.lt_irrefl _), cond_false]
  rfl
/-- What the pruned machine is. -/
structure Prn (m : GMachine) (s q : Nat) (old : List Int) : Prop where
  len : old.length ≤ q
  zero : old[0]? = some 0
  inn : ∀ o ∈ old, 0 ≤ o ∧ o < (q : Int)
  cl : ∀ o ∈ old, ∀ x ∈ nx m s o.toNat, x ∈ old
theorem impl_prune {m : GMachine} (hm : machB m = true) {s q : Nat} (M : MaI m s q) : ∃ old, F_impl_PruneMachine m = some (⟨(s : Int), (old.length : Int), rulesN m s old⟩, old, 0) ∧ Prn m s q old := by
  have b4 := M.b4
  obtain ⟨S, e, hl, h0, hc⟩ := rch_all M
  have hlen := olds_len S
  have P : Prn m s q (olds S) := by
    refine ⟨by omega, olds_zero h0, fun o ho => ?_, fun o ho x hx => olds_mem.2 ⟨(nx_in M hx).1, hc _ (olds_mem.1 ho).2 x hx⟩⟩
    obtain ⟨h1, h2⟩ := olds_mem.1 ho
    unfold Tru at h2
    obtain ⟨h3, _⟩ := List.getElem?_eq_some_iff.1 h2
    exact ⟨h1, by omega⟩
  refine ⟨olds S, ?_, P⟩
  unfold F_impl_PruneMachine
  rw [impl_mach m (machB_sml hm), hm, bnd_some_eq, Bool.not_true, cond_false, M.hq, mke_nat (by omega), bnd_some_eq, e, bnd_some_eq, prune_L1 S (by omega), bnd_some_eq]
  simp only [Out.elim, F_impl_size_int64, bnd_some_eq]
  rw [prune_L2 M (olds_inc S) (by omega) P.inn P.cl, bnd_some_eq, M.hs]
  rfl
theorem flat_get {β : Type} (g : Int → List β) (s : Nat) : ∀ (l : List Int), (∀ x ∈ l, (g x).length = s) → ∀ (i : Nat) (hi : i < l.length) (a : Nat), a < s → (l.flatMap g)[i * s + a]? = (g l[i])[a]?
  | [], _, i, hi, _, _ => by simp at hi
  | x :: l, h, 0, _, a, ha => by
    rw [List.flatMap_cons, Nat.zero_mul, Nat.zero_add, List.getElem?_append_left (by rw [h x (List.mem_cons_self ..)]; exact ha)]
    rfl
  | x :: l, h, i + 1, hi, a, ha => by
    have hx := h x (List.mem_cons_self ..)
    have e : (i + 1) * s + a = s + (i * s + a) := by rw [Nat.succ_mul]; omega
    rw [List.flatMap_cons, e, List.getElem?_append_right (by omega), hx, Nat.add_sub_cancel_left]
    exact flat_get g s l (fun y hy => h y (List.mem_cons_of_mem _ hy)) i (by simpa using hi) a ha
theorem flat_len {β : Type} (g : Int → List β) (s : Nat) : ∀ (l : List Int), (∀ x ∈ l, (g x).length = s) → (l.flatMap g).length = l.length * s
  | [], _ => by simp
  | x :: l, h => by
    rw [List.flatMap_cons, List.length_append, h x (List.mem_cons_self ..), flat_len g s l (fun y hy => h y (List.mem_cons_of_mem _ hy)), List.length_cons, Nat.succ_mul]
    omega
theorem prn_len {m : GMachine} {s q : Nat} (M : MaI m s q) {old : List Int} (P : Prn m s q old) : ∀ x ∈ old, ((rowR m s x.toNat).map (ren old)).length = s := by
  intro x hx
  have := P.inn x hx
  rw [List.length_map, rowR_len M (by omega)]
theorem prn_mach {m : GMachine} {s q : Nat} (M : MaI m s q) {old : List Int} (P : Prn m s q old) : machB ⟨(s : Int), (old.length : Int), rulesN m s old⟩ = true := by
  have b1 := M.b1
  have b2 := M.b2
  have b4 := M.b4
  have hl := P.len
  obtain ⟨h0, _⟩ := List.getElem?_eq_some_iff.1 P.zero
  have hlen : (rulesN m s old).length = old.length * s := flat_len _ s old (prn_len M P)
  unfold machB
  simp only [Bool.and_eq_true, decide_eq_true_eq, inB_iff]
  refine ⟨⟨⟨by omega, by omega⟩, by rw [hlen, Int.natCast_mul, Int.mul_comm]⟩, List.all_eq_true.2 fun r hr => ?_⟩
  unfold rulesN at hr
  obtain ⟨o, ho, hr⟩ := List.mem_flatMap.1 hr
  obtain ⟨r0, hr0, rfl⟩ := List.mem_map.1 hr
  unfold ren ruleB
  by_cases h : r0 = noR
  · rw [if_pos h, decide_eq_true h, Bool.true_or]
  · obtain ⟨w1, w2, w3⟩ := rule_in M (rowR_mem hr0) h
    have hp := List.idxOf_lt_length_of_mem (P.cl o ho _ (nx_mem.2 ⟨r0, hr0, h, rfl⟩))
    rw [if_neg h]
    have g1 : inB r0.Write 0 ((s : Int) - 1) = true := inB_iff.2 (by omega)
    have g2 : inB (old.idxOf r0.Next : Int) 0 ((old.length : Int) - 1) = true := inB_iff.2 (by omega)
    simp only
    rw [g1, g2, Bool.true_and, Bool.and_true]
    rcases w2 with w2 | w2
    · rw [decide_eq_true w2, Bool.true_or, Bool.or_true]
    · rw [decide_eq_true w2, Bool.or_true, Bool.or_true]
def upC (old : List Int) (c : GConfig) : GConfig := ⟨old.getD c.State.toNat 0, c.Left, c.Right⟩
theorem prn_rule {m : GMachine} {s q : Nat} (M : MaI m s q) {old : List Int} (P : Prn m s q old) (M' : MaI ⟨(s : Int), (old.length : Int), rulesN m s old⟩ s old.length) {c : GConfig} (h : CfT s old.length c) :
    CfT s q (upC old c) ∧ ruleAt ⟨(s : Int), (old.length : Int), rulesN m s old⟩ c = ren old (ruleAt m (upC old c)) ∧ ∃ o ∈ old, ruleAt m (upC old c) ∈ rowR m s o.toNat := by
  obtain ⟨p, hp, hpl⟩ := h.cf.st
  have ho := P.inn _ (List.getElem_mem hpl)
  have hst : (upC old c).State = ((old[p].toNat : Nat) : Int) := by
    unfold upC
    simp only
    rw [hp, Int.toNat_natCast, List.getD_eq_getElem?_getD, List.getElem?_eq_getElem hpl, Option.getD_some]
    omega
  have hlt : old[p].toNat < q := by omega
  have hC : CfT s q (upC old c) := ⟨⟨⟨_, hst, hlt⟩, h.cf.lf, h.cf.rt, h.cf.ll, h.cf.rl⟩, h.lt, h.rt⟩
  obtain ⟨p1, a1, e1, e2, e3, e4, e5, e6⟩ := at_eq M' h.cf
  obtain ⟨p2, a2, d1, d2, d3, d4, d5, d6⟩ := at_eq M hC.cf
  have hp1 : p1 = p := by omega
  have hp2 : p2 = old[p].toNat := by omega
  have ha : a1 = a2 := by
    have : (upC old c).Right = c.Right := rfl
    rw [this] at d2
    omega
  subst hp1 hp2 ha
  have hrow := rowR_len M hlt
  have key : (rulesN m s old)[p1 * s + a1]? = (m.Rules[old[p1].toNat * s + a1]?).map (ren old) := by
    unfold rulesN
    rw [flat_get _ s old (prn_len M P) p1 hpl a1 e4, List.getElem?_map, rowR_get e4]
  have hml : old[p1].toNat * s + a1 < m.Rules.length := by rw [M.hl]; exact d6
  refine ⟨hC, ?_, old[p1], List.getElem_mem hpl, ?_⟩
  · unfold ruleAt
    rw [d5, e5, Int.toNat_natCast, Int.toNat_natCast, List.getD_eq_getElem?_getD, List.getD_eq_getElem?_getD]
    simp only
    rw [key, List.getElem?_eq_getElem hml]
    rfl
  · unfold ruleAt
    rw [d5, Int.toNat_natCast, List.getD_eq_getElem?_getD, ← rowR_get e4, List.getElem?_eq_getElem (by omega), Option.getD_some]
    exact List.getElem_mem _
theorem prn_step {old : List Int} {c : GConfig} {r : GRule} (hr : r ≠ noR) (hm : r.Next ∈ old) : stepC r (upC old c) = upC old (stepC (ren old r) c) := by
  have hp := List.idxOf_lt_length_of_mem hm
  have e : old.getD (old.idxOf r.Next) 0 = r.Next := by
    rw [List.getD_eq_getElem?_getD, List.getElem?_eq_getElem hp, Option.getD_some, List.getElem_idxOf]
  unfold ren
  rw [if_neg hr]
  unfold stepC upC
  simp only
  by_cases h : 0 < r.Move
  · rw [if_pos h, if_pos h]
    simp only
    rw [Int.toNat_natCast, e]
  · rw [if_neg h, if_neg h]
    simp only
    rw [Int.toNat_natCast, e]
theorem prn_go {m : GMachine} {s q : Nat} (M : MaI m s q) {old : List Int} (P : Prn m s q old) (M' : MaI ⟨(s : Int), (old.length : Int), rulesN m s old⟩ s old.length) : ∀ (n : Nat) (c : GConfig), CfT s old.length c →
    goC m n (upC old c) = (goC ⟨(s : Int), (old.length : Int), rulesN m s old⟩ n c).map fun r => (r.1, upC old r.2)
  | 0, c, _ => rfl
  | n + 1, c, h => by
    obtain ⟨hC, hr, o, ho, hmem⟩ := prn_rule M P M' h
    rw [goC_succ, goC_succ, hr]
    by_cases hn : ruleAt m (upC old c) = noR
    · rw [if_pos hn, if_pos ((ren_nor old _).2 hn)]
      rfl
    · have hn' : ¬ ren old (ruleAt m (upC old c)) = noR := fun e => hn ((ren_nor old _).1 e)
      have hx : (ruleAt m (upC old c)).Next ∈ old := P.cl o ho _ (nx_mem.2 ⟨_, hmem, hn, rfl⟩)
      rw [if_neg hn, if_neg hn', prn_step hn hx]
      have hsm : small (upC old (stepC (ren old (ruleAt m (upC old c))) c)) = small (stepC (ren old (ruleAt m (upC old c))) c) := rfl
      rw [hsm]
      by_cases hk : small (stepC (ren old (ruleAt m (upC old c))) c) = true
      · rw [if_pos hk, if_pos hk]
        have hstep := h.step M' (by rw [hr]; exact hn') (by rw [hr]; exact hk)
        rw [hr] at hstep
        rw [prn_go M P M' n _ hstep, Option.map_map, Option.map_map]
        rfl
      · rw [if_neg hk, if_neg hk]
        rfl
/-! ### The law -/
theorem law_Reachable (c d : List (Ik .u8)) (w0 : Wf.wf c) (w1 : Wf.wf d) : F_laws_FnReachable c d = some true := by
  unfold F_laws_FnReachable
  rw [r8_long, bnd_some_eq]
  by_cases hl : 1048576 < c.length
  · rw [decide_eq_true hl, Bool.true_or, cond_true]
  rw [decide_eq_false hl, Bool.false_or]
  by_cases hl2 : 1048576 < d.length
  · rw [decide_eq_true hl2, cond_true]
  rw [decide_eq_false hl2, cond_false]
  have hc := bytes_of w0 (by omega)
  obtain ⟨m, x, e1, hm, hx⟩ := src_r8Machine hc
  obtain ⟨s, q, M⟩ := machB_mai hm
  obtain ⟨old, e2, P⟩ := impl_prune hm M
  have hm' := prn_mach M P
  have M' : MaI ⟨(s : Int), (old.length : Int), rulesN m s old⟩ s old.length := by
    obtain ⟨s2, q2, M2⟩ := machB_mai hm'
    have h1 := M2.hs
    have h2 := M2.hq
    simp only at h1 h2
    have h3 : s2 = s := by omega
    have h4 : q2 = old.length := by omega
    subst h3 h4
    exact M2
  obtain ⟨hz, ez⟩ := List.getElem?_eq_some_iff.1 P.zero
  have b3 := M.b3
  have hq := M.hq
  have hs := M.hs
  have hPl := P.len
  have hxx := hx
  unfold confB at hxx
  simp only [Bool.and_eq_true] at hxx
  have hc0 : confB m ⟨0, x.Left, x.Right⟩ = true := by
    unfold confB
    simp only [Bool.and_eq_true]
    exact ⟨inB_iff.2 (by omega), hxx.2.1, hxx.2.2⟩
  have hc0' : confB ⟨(s : Int), (old.length : Int), rulesN m s old⟩ ⟨0, x.Left, x.Right⟩ = true := by
    unfold confB
    simp only [Bool.and_eq_true]
    rw [hs] at hxx
    exact ⟨inB_iff.2 (by omega), hxx.2.1, hxx.2.2⟩
  have hT := CfT.of M' hc0'
  have hup : upC old ⟨0, x.Left, x.Right⟩ = ⟨0, x.Left, x.Right⟩ := by
    unfold upC
    simp only
    rw [Int.toNat_zero, List.getD_eq_getElem?_getD, P.zero]
    rfl
  have hg := prn_go M P M' 40 _ hT
  rw [hup] at hg
  rw [e1, bnd_some_eq]
  simp only
  rw [e2, bnd_some_eq]
  simp only
  rw [decide_eq_false (by simp : ¬ ((0 : Int) ≠ 0)), cond_false, impl_mach _ (machB_sml hm'), hm', bnd_some_eq, Bool.not_true, cond_false, decide_eq_false (by simp : ¬ ((old.length : Int) ≠ (old.length : Int))), cond_false, decide_eq_false (by omega), cond_false, bnd_some_eq]
  simp only [Out.elim]
  have r1 := impl_run hm hc0 (n := 40) (by omega) (by omega)
  have r2 := impl_run hm' hc0' (n := 40) (by omega) (by omega)
  rw [show ((40 : Nat) : Int) = 40 from rfl] at r1 r2
  rw [r1, r2, bnd_some_eq, bnd_some_eq, hg]
  cases hgo : goC ⟨(s : Int), (old.length : Int), rulesN m s old⟩ 40 ⟨0, x.Left, x.Right⟩ with
  | none => rfl
  | some r =>
    obtain ⟨hr, _⟩ := goC_conf M' 40 _ hT r hgo
    obtain ⟨hC, hru, _⟩ := prn_rule M P M' hr
    obtain ⟨p, hp, hpl⟩ := hr.cf.st
    have hlen := confB_len (hC.conf M)
    have hhalt : decide (ruleAt m (upC old r.2) = noR) = decide (ruleAt ⟨(s : Int), (old.length : Int), rulesN m s old⟩ r.2 = noR) := by
      rw [hru, decide_eq_decide]
      exact (ren_nor old _).symm
    have hidx : idx old r.2.State = some (old.getD r.2.State.toNat 0) := by
      rw [hp, idx_nat hpl, Int.toNat_natCast, List.getD_eq_getElem?_getD, List.getElem?_eq_getElem hpl]
      rfl
    have hcfg : F_laws_r8Config (upC old r.2) ⟨old.getD r.2.State.toNat 0, r.2.Left, r.2.Right⟩ = some true := r8_config (upC old r.2) (by omega) (by omega)
    simp only [Option.map_some]
    rw [decide_eq_false (by decide : ¬ ((0 : Int) = 5)), cond_false, bnd_some_eq]
    simp only [Out.elim]
    rw [decide_eq_false (by simp : ¬ ((0 : Int) ≠ 0)), cond_false, cond_false, decide_eq_false (by omega), cond_false, decide_eq_false (by omega), cond_false, bnd_some_eq]
    simp only [Out.elim]
    rw [hidx, bnd_some_eq, decide_true, cond_true, hhalt, beq_self_eq_true, cond_true, hcfg, bnd_some_eq]
end Go.Fn
