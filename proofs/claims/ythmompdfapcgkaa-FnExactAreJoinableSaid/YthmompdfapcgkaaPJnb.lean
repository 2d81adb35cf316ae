/-
  AreJoinable. No program in sight. No condition.
-/
import Derived.Test.YthmompdfapcgkaaPDerOf
namespace Go.Fn
open Go Go.Tc
theorem foldU_any {κ ν R : Type} (p : κ → Bool) (r : R) {f : Unit → κ × ν → Option (Unit ⊕ Out Unit R)} (hf : ∀ s kv, f s kv = cond (p kv.1) (some (.inr (.ret r))) (some (.inl ()))) :
    ∀ l : List (κ × ν), foldU f l () = some (if (l.any fun kv => p kv.1) = true then .ret r else .brk ())
  | [] => rfl
  | kv :: l => by
    rw [foldU, hf]
    cases h : p kv.1
    · simp only [cond_false]
      rw [foldU_any p r hf l, List.any_cons, h, Bool.false_or]
    · simp only [cond_true]
      rw [List.any_cons, h, Bool.true_or]
      rfl
theorem rangeU_any {κ ν R : Type} (m : List (κ × ν)) (p : κ → Bool) (r : R) {f : Unit → κ × ν → Option (Unit ⊕ Out Unit R)} (hf : ∀ s kv, f s kv = cond (p kv.1) (some (.inr (.ret r))) (some (.inl ()))) :
    rangeU m f () = some (if (m.any fun kv => p kv.1) = true then .ret r else .brk ()) := by
  refine rangeU_eq fun l hl => ?_
  rw [foldU_any p r hf l]
  have : (l.any fun kv => p kv.1) = (m.any fun kv => p kv.1) := by
    rw [Bool.eq_iff_iff, List.any_eq_true, List.any_eq_true]
    exact ⟨fun ⟨x, hx, h⟩ => ⟨x, hl.mem_iff.1 hx, h⟩, fun ⟨x, hx, h⟩ => ⟨x, hl.mem_iff.2 hx, h⟩⟩
  rw [this]
theorem mget_isSome {κ ν : Type} [DecidableEq κ] : ∀ (m : List (κ × ν)) (k : κ), (mget m k).isSome = true ↔ ∃ v, (k, v) ∈ m
  | [], k => by simp
  | (a, v) :: m, k => by
    rw [mget]
    by_cases h : a = k
    · rw [if_pos h]
      subst h
      simp
    · rw [if_neg h, mget_isSome m k]
      constructor
      · rintro ⟨v', hv⟩; exact ⟨v', by simp [hv]⟩
      · rintro ⟨v', hv⟩
        rcases List.mem_cons.1 hv with e | hv
        · exact absurd (congrArg Prod.fst e).symm h
        · exact ⟨v', hv⟩
/-- Both searches found a word. -/
def jn (X Y : List Gfound) : Bool := X.any fun x => Y.any fun y => decide (y.move_word = x.move_word)
theorem keys_jn {X Y : List Gfound} {n1 n2 : List (ByteArray × Int)} (h1 : NumK X n1) (h2 : NumK Y n2) (g1 : GoodF (fun w => wordB w = true) X) (g2 : GoodF (fun w => wordB w = true) Y) : (n1.any fun kv => (mget n2 kv.1).isSome) = jn X Y := by
  rw [Bool.eq_iff_iff, List.any_eq_true]
  unfold jn
  rw [List.any_eq_true]
  constructor
  · rintro ⟨⟨k, v⟩, hm, hs⟩
    have a := (h1.some k).1 ((mget_isSome _ _).2 ⟨v, hm⟩)
    have b := (h2.some k).1 hs
    obtain ⟨x, hx, ex⟩ := List.mem_map.1 a
    obtain ⟨y, hy, ey⟩ := List.mem_map.1 b
    refine ⟨x, hx, List.any_eq_true.2 ⟨y, hy, decide_eq_true ?_⟩⟩
    exact keyW_inj (wordB_letters (g2 y hy)) (wordB_letters (g1 x hx)) (ey.trans ex.symm)
  · rintro ⟨x, hx, h⟩
    obtain ⟨y, hy, h⟩ := List.any_eq_true.1 h
    have h := of_decide_eq_true h
    obtain ⟨v, hv⟩ := (mget_isSome n1 (kF x)).1 ((h1.some _).2 (List.mem_map_of_mem hx))
    refine ⟨(kF x, v), hv, (h2.some _).2 ?_⟩
    have : kF y = kF x := by unfold kF; rw [h]
    rw [← this]
    exact List.mem_map_of_mem hy
noncomputable def spJ (X Y : List (List Int)) (s : Int) : Option (Int ⊕ Out Int (Bool × Int)) :=
  (cond (decide (s < (X.length : Int))) (bnd (idx X s) fun y48 => bnd (F_spec_l10Row Y y48) fun r56 => (cond (decide (0 ≤ r56)) (some (.inr (.ret (true, 0)))) (some (.inl (w64 (s + 1)))))) (some (.inr (.brk s))))
noncomputable def spF (X Y : List (List Int)) (e : Option (Bool × Int)) : Option (Bool × Int) :=
  bnd (run (spJ X Y) 0) (Out.elim (fun (_ : Int) => e) (fun (r : Bool × Int) => some r))
theorem spF_eq {X Y : List Gfound} (hx : X.length ≤ 300) (hy : Y.length ≤ 300) (g2 : GoodF (fun w => wordB w = true) Y) (e : Option (Bool × Int)) : spF (wF X) (wF Y) e = if jn X Y = true then some (true, 0) else e := by
  have key : ∀ k i, i + k = X.length → run (spJ (wF X) (wF Y)) (i : Int) = some (if (X.drop i).any (fun x => Y.any fun y => decide (y.move_word = x.move_word)) = true then .ret (true, 0) else .brk (X.length : Int)) := by
    intro k
    induction k with
    | zero =>
      intro i hi
      obtain rfl : i = X.length := by omega
      rw [List.drop_length]
      refine run_done ?_
      unfold spJ
      rw [decide_eq_false (by simp [wF]), cond_false]
      rfl
    | succ k ih =>
      intro i hi
      have hlt : i < X.length := by omega
      have hlt' : i < (wF X).length := by simp [wF]; omega
      have hw : (wF X)[i] = X[i].move_word := by simp [wF]
      have hb : spJ (wF X) (wF Y) (i : Int) = spJ (wF X) (wF Y) (i : Int) := rfl
      conv at hb => rhs; unfold spJ
      rw [decide_eq_true (by omega : (i : Int) < ((wF X).length : Int)), cond_true, idx_nat hlt', bnd_some_eq, hw, spec_l10rowW Y _ hy g2, bnd_some_eq] at hb
      rw [List.drop_eq_getElem_cons hlt, List.any_cons]
      cases hq : Y.findIdx? fun f => decide (f.move_word = X[i].move_word) with
      | none =>
        rw [hq] at hb
        have hn : (Y.any fun y => decide (y.move_word = X[i].move_word)) = false := by
          rw [← List.findIdx?_isSome, hq]; rfl
        rw [hn, Bool.false_or]
        rw [show (decide ((0 : Int) ≤ (match (none : Option Nat) with | none => -1 | some i => (i : Int)))) = false from rfl, cond_false, w64_nat1 (show i < 4611686018427387904 by omega)] at hb
        rw [run_next hb]
        exact ih (i + 1) (by omega)
      | some j =>
        rw [hq] at hb
        have hn : (Y.any fun y => decide (y.move_word = X[i].move_word)) = true := by
          rw [← List.findIdx?_isSome, hq]; rfl
        rw [hn, Bool.true_or]
        rw [decide_eq_true (by simp only; omega), cond_true] at hb
        exact run_done hb
  have h := key X.length 0 (by omega)
  unfold spF
  rw [show ((0 : Nat) : Int) = 0 from rfl] at h
  rw [h, bnd_some_eq, List.drop_zero]
  unfold jn
  split <;> rfl
noncomputable def imF (n1 n2 : List (ByteArray × Int)) (e : Option (Bool × Int)) : Option (Bool × Int) :=
  bnd (rangeU n1 (fun (_ : Unit) (kv : ByteArray × Int) => (cond ((mget n2 kv.1).isSome) (some (.inr (.ret (true, 0)))) (some (.inl ())) : Option (Unit ⊕ Out Unit (Bool × Int)))) ()) (Out.elim (fun (_ : Unit) => e) (fun (r : Bool × Int) => some r))
theorem imF_eq {X Y : List Gfound} {n1 n2 : List (ByteArray × Int)} (h1 : NumK X n1) (h2 : NumK Y n2) (g1 : GoodF (fun w => wordB w = true) X) (g2 : GoodF (fun w => wordB w = true) Y) (e : Option (Bool × Int)) : imF n1 n2 e = if jn X Y = true then some (true, 0) else e := by
  unfold imF
  rw [rangeU_any n1 (fun k => (mget n2 k).isSome) ((true, 0) : Bool × Int) (fun _ _ => rfl), bnd_some_eq, keys_jn h1 h2 g1 g2]
  split <;> rfl
/-- The search from one word. -/
noncomputable def sch (rs : List GRewrite) (f : List Int) (b : Int) : List Gfound × Bool := srch rs b 301 0 [⟨0, 0, f, -1⟩] true
theorem sch_props {rs : List GRewrite} {f : List Int} {b : Int} (hr : rewsB rs = true) (hf : wordB f = true) :
    TreeF (sch rs f b).1 ∧ GoodF (fun w => wordB w = true) (sch rs f b).1 ∧ (sch rs f b).1.length ≤ 300 ∧ 1 ≤ (sch rs f b).1.length := by
  have hT0 : TreeF [(⟨0, 0, f, -1⟩ : Gfound)] := fun i hi => by
    obtain rfl : i = 0 := by simpa using hi
    rfl
  have hG0 : GoodF (fun w => wordB w = true) [(⟨0, 0, f, -1⟩ : Gfound)] := fun g hg => by rw [List.mem_singleton.1 hg]; exact hf
  exact srch_props (b := b) hr 301 0 [⟨0, 0, f, -1⟩] true (by simp) hT0 hG0
theorem spec_l10find {rs : List GRewrite} {f : List Int} {b : Int} (hr : rewsB rs = true) (hf : wordB f = true) : F_spec_l10Find rs f b = some (wF (sch rs f b).1, bF (sch rs f b).1, sF (sch rs f b).1, (sch rs f b).2) := by
  have hfl := wordB_len hf
  have hG0 : GoodF (fun w => wordB w = true) [(⟨0, 0, f, -1⟩ : Gfound)] := fun g hg => by rw [List.mem_singleton.1 hg]; exact hf
  have hS0 : SeenOk [keyW f] [(⟨0, 0, f, -1⟩ : Gfound)] := ⟨by simp [SrtK], fun x => by simp [kF], by simp⟩
  have q3 : (([f] : List (List Int)), ([-1] : List Int), ([[]] : List (List Int)), true, ([keyW f] : List ByteArray), (0 : Int)) = (wF [⟨0, 0, f, -1⟩], bF [⟨0, 0, f, -1⟩], sF [⟨0, 0, f, -1⟩], true, [keyW f], ((0 : Nat) : Int)) := rfl
  have h := sp_search (fun w b s => (w, b, s, false)) b hr 301 0 [⟨0, 0, f, -1⟩] true [keyW f] rfl (by simp) (by simp) hS0 hG0
  have q1 : F_spec_l10Find_L1 rs b = spS1 (fun w b s => (w, b, s, false)) rs b := rfl
  unfold F_spec_l10Find
  rw [spec_own f (by omega), bnd_some_eq, spec_key f (by omega), bnd_some_eq, q1, q3]
  unfold sch
  rcases h with ⟨hc, hrun⟩ | ⟨L', n, hrun⟩
  · rw [hrun, bnd_some_eq, hc]; rfl
  · rw [hrun, bnd_some_eq]; rfl
theorem impl_searched {rs : List GRewrite} {f : List Int} {b : Int} (hr : rewsB rs = true) (hf : wordB f = true) : ∃ nums, NumK (sch rs f b).1 nums ∧ F_impl_searched rs f b = some ((sch rs f b).1, nums, (sch rs f b).2) := by
  have hfl := wordB_len hf
  have hG0 : GoodF (fun w => wordB w = true) [(⟨0, 0, f, -1⟩ : Gfound)] := fun g hg => by rw [List.mem_singleton.1 hg]; exact hf
  have hN0 : NumK [(⟨0, 0, f, -1⟩ : Gfound)] (mput [] (keyW f) ((0 : Nat) : Int)) := by
    have : NumK ([] : List Gfound) [] := fun x => rfl
    exact this.add (f := ⟨0, 0, f, -1⟩) (by simp)
  obtain ⟨nums, hN, h⟩ := im_search (fun fs n => (fs, n, false)) b hr 301 0 [⟨0, 0, f, -1⟩] true (mput [] (keyW f) ((0 : Nat) : Int)) rfl (by simp) (by simp) hN0 hG0
  have q1 : F_impl_searched_L1 rs b = imS1 (fun fs n => (fs, n, false)) rs b := rfl
  have e3 : ∀ w : List Int, app ([] : List Gfound) [(⟨0, 0, w, -1⟩ : Gfound)] = some [⟨0, 0, w, -1⟩] := fun _ => rfl
  refine ⟨nums, hN, ?_⟩
  unfold F_impl_searched
  rw [impl_clone f (by omega), bnd_some_eq, impl_key f (by omega), bnd_some_eq, e3, bnd_some_eq, q1]
  unfold sch
  rw [show ((0 : Nat) : Int) = 0 from rfl] at h ⊢
  rcases h with ⟨hc, hrun⟩ | ⟨n, hrun⟩
  · rw [hrun, bnd_some_eq, hc]; rfl
  · rw [hrun, bnd_some_eq]; rfl
/-- The answer: a word that both searches found, else whether both were complete. -/
def jv (X Y : List Gfound) (c1 c2 : Bool) : Bool × Int := if jn X Y = true then (true, 0) else if c1 = true ∧ c2 = true then (false, 0) else (false, 5)
theorem jv_end (X Y : List Gfound) (c1 c2 : Bool) : (if jn X Y = true then some (true, (0 : Int)) else (cond (!c1) (some (false, 5)) (cond (!c2) (some (false, 5)) (some (false, 0))))) = some (jv X Y c1 c2) := by
  unfold jv
  cases jn X Y <;> cases c1 <;> cases c2 <;> rfl
theorem ex_AreJoinable (rs : List GRewrite) (f t : List Int) (b : Int) (s0 : Sml rs) (s1 : Sml f) (s2 : Sml t) :
    ∃ w : Bool × Int, F_spec_AreJoinable rs f t b = some w ∧ F_impl_AreJoinable rs f t b = some w := by
  unfold F_spec_AreJoinable F_impl_AreJoinable F_impl_searchCode F_spec_l05Budget F_impl_budgetOk
  rw [spec_rews rs s0, spec_word f s1.1, spec_word t s2.1, impl_rews rs s0, two_words f t s1 s2, spec_in, impl_in]
  simp only [bnd_some_eq]
  cases hr : rewsB rs
  · exact ⟨_, rfl, rfl⟩
  cases hf : wordB f
  · exact ⟨_, rfl, rfl⟩
  cases ht : wordB t
  · exact ⟨_, rfl, rfl⟩
  cases hb : inB b 1 20000
  · exact ⟨_, rfl, rfl⟩
  have k0 : decide ((0 : Int) ≠ 0) = false := rfl
  simp only [Bool.not_true, Bool.and_self, cond_false, bnd_some_eq, Out.elim, k0]
  obtain ⟨n1, h1, e1⟩ := impl_searched (b := b) hr hf
  obtain ⟨n2, h2, e2⟩ := impl_searched (b := b) hr ht
  obtain ⟨_, pG, pl, _⟩ := sch_props (b := b) hr hf
  obtain ⟨_, qG, ql, _⟩ := sch_props (b := b) hr ht
  rw [spec_l10find hr hf, spec_l10find hr ht, e1, e2]
  simp only [bnd_some_eq]
  refine ⟨jv (sch rs f b).1 (sch rs t b).1 (sch rs f b).2 (sch rs t b).2, ?_, ?_⟩
  · exact (spF_eq pl ql qG _).trans (jv_end _ _ _ _)
  · exact (imF_eq h1 h2 pG qG _).trans (jv_end _ _ _ _)
theorem law_AreJoinable (rs : List GRewrite) (f t : List Int) (b : Int) (w0 : Wf.wf rs) (w1 : Wf.wf f) (w2 : Wf.wf t) (w3 : Wf.wf b) : F_laws_FnExactAreJoinable rs f t b = some true :=
  lawof_AreJoinable rs f t b w0 w1 w2 w3 (ex_AreJoinable rs f t b)
end Go.Fn
