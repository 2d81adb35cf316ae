/-
  The plain law of FnOverlaps. No program in sight. No condition.
-/
import Derived.Test.YtneglngdbcefgaaPOvT
import Derived.Test.YtneglngdbcefgaaPJnb
import Derived.Test.YtneglngdbcefgaaPPlain
import Derived.Test.YtneglngdbcefgaaPMach
namespace Go.Fn
open Go Go.Tc
/-- A rule that is drawn: it shortens words. -/
def ShrD (r : GRewrite) : Prop := Let 2 r.From ∧ Let 2 r.To ∧ 2 ≤ r.From.length ∧ r.From.length ≤ 3 ∧ r.To.length < r.From.length
theorem ShrD.rule {r : GRewrite} (h : ShrD r) : RuleD r := ⟨h.1.mono (by omega), h.2.1.mono (by omega), by have := h.2.2; omega, h.2.2.2.1, by have := h.2.2.2.2; omega⟩
theorem shr_draw {r1 : (List (Ik .u8)) × Int × (Ik .u64)} : ∀ (m : Nat) (a : Int) (sd : Ik .u64) (out : List GRewrite) (n : Int), SrcOk ⟨r1.1, a, sd⟩ n → n + 20 * m ≤ 1000000 → m ≤ 100 → out.length + m ≤ 1000 → (∀ r ∈ out, ShrD r) →
    ∃ rs a' sd', run (F_spec_B10Shrinking_L1 r1) (a, sd, out, (m : Int)) = some (.brk (a', sd', out ++ rs, 0)) ∧ rs.length = m ∧ (∀ r ∈ out ++ rs, ShrD r) ∧ SrcOk ⟨r1.1, a', sd'⟩ (n + 20 * m) := by
  intro m
  induction m with
  | zero =>
    intro a sd out n h _ _ _ hl
    refine ⟨[], a, sd, run_done ?_, rfl, by rwa [List.append_nil], by simpa using h⟩
    simp only [F_spec_B10Shrinking_L1]
    rw [decide_eq_false (by omega), cond_false, List.append_nil]
    rfl
  | succ m ih =>
    intro a sd out n h hn hm ho hl
    obtain ⟨u, a1, sd1, e1, u1, u2, u3, k1⟩ := src_word 2 3 2 h (by omega) (by omega) (by omega) (by omega) (by omega)
    obtain ⟨v, a2, sd2, e2, v1, v2, v3, k2⟩ := src_word 0 ((u.length : Int) - 1) 2 k1 (by omega) (by omega) (by omega) (by omega) (by omega)
    simp only at e2 k2
    have hd : ShrD ⟨u, v⟩ := ⟨u1, v1, by simp only; omega, by simp only; omega, by simp only; omega⟩
    obtain ⟨rs, a', sd', e, l1, l2, l3⟩ := ih a2 sd2 (out ++ [⟨u, v⟩]) (n + 1 + 3 + 1 + ((u.length : Int) - 1)) k2 (by omega) (by omega) (by simp; omega) (by
      intro x hx
      rcases List.mem_append.1 hx with hx | hx
      · exact hl x hx
      · rw [List.mem_singleton.1 hx]; exact hd)
    refine ⟨⟨u, v⟩ :: rs, a', sd', ?_, by simp [l1], by simpa using l2, ⟨l3.bytes, l3.lo, by have := l3.hi; simp only at this ⊢; omega⟩⟩
    have hb : F_spec_B10Shrinking_L1 r1 (a, sd, out, ((m + 1 : Nat) : Int)) = some (.inl (a2, sd2, out ++ [⟨u, v⟩], (m : Int))) := by
      simp only [F_spec_B10Shrinking_L1]
      rw [decide_eq_true (by omega), cond_true, e1, bnd_some_eq]
      simp only
      rw [w64_in (n := (u.length : Int) - 1) (by omega) (by omega), e2, bnd_some_eq, app_ok (by simp; omega), bnd_some_eq, w64_in (by omega) (by omega), show ((m + 1 : Nat) : Int) - 1 = (m : Int) by omega]
    rw [run_next hb, e]
    simp
theorem src_shr {c : List (Ik .u8)} (h : Bytes c) : ∃ rs w, F_spec_B10Shrinking c = some (rs, w) ∧ 1 ≤ rs.length ∧ rs.length ≤ 3 ∧ (∀ r ∈ rs, ShrD r) ∧ Let 2 w ∧ w.length ≤ 7 := by
  unfold F_spec_B10Shrinking F_spec_l00From
  rw [bnd_some_eq]
  obtain ⟨v, a1, sd1, e1, v0, v1, k1⟩ := src_pick (s := ⟨c, 0, ⟨0⟩⟩) (n := 0) 3 ⟨h, by simp, by simp⟩ (by omega) (by omega)
  simp only at e1 k1 ⊢
  rw [e1, bnd_some_eq]
  simp only
  obtain ⟨rs, a2, sd2, e2, l1, l2, k2⟩ := shr_draw (r1 := (c, 0, ⟨0⟩)) (1 + v).toNat a1 sd1 [] _ k1 (by omega) (by omega) (by simp; omega) (fun r hr => by simp at hr)
  rw [List.nil_append] at e2 l2
  rw [w64_in (n := 1 + v) (by omega) (by omega), show 1 + v = (((1 + v).toNat : Nat) : Int) by omega, e2, bnd_some_eq]
  simp only [Out.elim]
  obtain ⟨w, a3, sd3, e3, w1, _, w3, _⟩ := src_word 0 7 2 k2 (by omega) (by omega) (by omega) (by omega) (by omega)
  simp only at e3
  rw [e3, bnd_some_eq]
  exact ⟨rs, w, rfl, by omega, by omega, l2, w1, by omega⟩
/-! ### Overlaps -/
def okO (a b : GRewrite) (same : Bool) (s : Nat) : Bool := !(same && decide (s = a.From.length)) && decide (a.From.drop (a.From.length - s) = b.From.take s)
def trip (a b : GRewrite) (s : Nat) : List (List Int) := [a.From ++ b.From.drop s, a.To ++ b.From.drop s, a.From.take (a.From.length - s) ++ b.To]
def ovs (a b : GRewrite) (same : Bool) : Nat → List (List (List Int))
  | 0 => []
  | s + 1 => cond (okO a b same (s + 1)) (trip a b (s + 1) :: ovs a b same s) (ovs a b same s)
def ovl (a b : GRewrite) (same : Bool) : List (List (List Int)) := ovs a b same (min a.From.length b.From.length)
theorem ovs_len (a b : GRewrite) (same : Bool) : ∀ s, (ovs a b same s).length ≤ s
  | 0 => Nat.le_refl _
  | s + 1 => by
    have := ovs_len a b same s
    unfold ovs
    cases okO a b same (s + 1)
    · rw [cond_false]; omega
    · rw [cond_true, List.length_cons]; omega
theorem ovs_mem (a b : GRewrite) (same : Bool) : ∀ (n : Nat) (x : List (List Int)), x ∈ ovs a b same n ↔ ∃ s, 1 ≤ s ∧ s ≤ n ∧ okO a b same s = true ∧ x = trip a b s
  | 0, x => by
    unfold ovs
    constructor
    · intro h; simp at h
    · rintro ⟨s, h1, h2, _⟩; omega
  | n + 1, x => by
    have ih := ovs_mem a b same n x
    unfold ovs
    cases h : okO a b same (n + 1)
    · rw [cond_false, ih]
      constructor
      · rintro ⟨s, h1, h2, h3⟩; exact ⟨s, h1, by omega, h3⟩
      · rintro ⟨s, h1, h2, h3, h4⟩
        refine ⟨s, h1, ?_, h3, h4⟩
        by_cases he : s = n + 1
        · subst he
          rw [h] at h3
          cases h3
        · omega
    · rw [cond_true, List.mem_cons, ih]
      constructor
      · rintro (rfl | ⟨s, h1, h2, h3⟩)
        · exact ⟨n + 1, by omega, Nat.le_refl _, h, rfl⟩
        · exact ⟨s, h1, by omega, h3⟩
      · rintro ⟨s, h1, h2, h3, h4⟩
        by_cases he : s = n + 1
        · subst he
          exact .inl h4
        · exact .inr ⟨s, h1, by omega, h3, h4⟩
theorem ovs_run (a b : GRewrite) (same : Bool) (ha : ShrD a) (hb : ShrD b) : ∀ (s : Nat) (out : List (List (List Int))), s ≤ a.From.length → s ≤ b.From.length → out.length + s ≤ 1000 →
    run (F_impl_overlaps_L1 a b same) (out, (s : Int)) = some (.brk (out ++ ovs a b same s, 0))
  | 0, out, _, _, _ => by
    refine run_done ?_
    simp only [F_impl_overlaps_L1]
    rw [decide_eq_false (by omega), cond_false]
    unfold ovs
    rw [List.append_nil]
    rfl
  | s + 1, out, h1, h2, h3 => by
    have la := ha.2.2
    have lb := hb.2.2
    have hd : w64 (((s + 1 : Nat) : Int) - 1) = (s : Int) := by rw [w64_in (by omega) (by omega)]; omega
    have test : (bnd (slc a.From (w64 ((a.From.length : Int) - ((s + 1 : Nat) : Int))) (a.From.length : Int)) fun z11 => bnd (slc b.From 0 ((s + 1 : Nat) : Int)) fun z14 => bnd (F_slices_Equal_Sint64_int64 z11 z14) fun r20 => some (.brk (!r20)) : Option (Out Bool (List (List (List Int))))) = some (.brk (!decide (a.From.drop (a.From.length - (s + 1)) = b.From.take (s + 1)))) := by
      have e : w64 ((a.From.length : Int) - ((s + 1 : Nat) : Int)) = ((a.From.length - (s + 1) : Nat) : Int) := by rw [w64_in (by omega) (by omega)]; omega
      rw [e, slc_from (by omega), bnd_some_eq, slc0' h2, bnd_some_eq, impl_equal _ _ (by rw [List.length_drop]; omega), bnd_some_eq]
    have hcond : (cond same (cond (decide (((s + 1 : Nat) : Int) = (a.From.length : Int))) (some (.brk true)) (bnd (slc a.From (w64 ((a.From.length : Int) - ((s + 1 : Nat) : Int))) (a.From.length : Int)) fun z11 => bnd (slc b.From 0 ((s + 1 : Nat) : Int)) fun z14 => bnd (F_slices_Equal_Sint64_int64 z11 z14) fun r20 => some (.brk (!r20)))) (bnd (slc a.From (w64 ((a.From.length : Int) - ((s + 1 : Nat) : Int))) (a.From.length : Int)) fun z22 => bnd (slc b.From 0 ((s + 1 : Nat) : Int)) fun z25 => bnd (F_slices_Equal_Sint64_int64 z22 z25) fun r31 => some (.brk (!r31))) : Option (Out Bool (List (List (List Int))))) = some (.brk (!okO a b same (s + 1))) := by
      rw [test]
      unfold okO
      cases same
      · rw [cond_false, Bool.false_and, Bool.not_false, Bool.true_and]
      · rw [cond_true, Bool.true_and]
        by_cases he : s + 1 = a.From.length
        · rw [decide_eq_true (by omega), cond_true, decide_eq_true he]
          rfl
        · rw [decide_eq_false (by omega), cond_false, decide_eq_false he, Bool.not_false, Bool.true_and]
    unfold ovs
    have hj : ∀ x y : List Int, x.length ≤ 10 → y.length ≤ 10 → F_impl_joined [x, y] = some (x ++ y) := fun x y hx hy => by
      rw [impl_joined _ (by simp) (by simp; omega)]
      simp
    cases hok : okO a b same (s + 1)
    · have hst : F_impl_overlaps_L1 a b same (out, ((s + 1 : Nat) : Int)) = some (.inl (out, (s : Int))) := by
        simp only [F_impl_overlaps_L1]
        rw [decide_eq_true (by omega), cond_true, hcond, hok, bnd_some_eq]
        simp only [Out.elim, Bool.not_false, cond_true]
        rw [hd]
      rw [run_next hst, ovs_run a b same ha hb s out (by omega) (by omega) (by omega), cond_false]
    · have hst : F_impl_overlaps_L1 a b same (out, ((s + 1 : Nat) : Int)) = some (.inl (out ++ [trip a b (s + 1)], (s : Int))) := by
        have hdl : (b.From.drop (s + 1)).length ≤ 3 := by rw [List.length_drop]; omega
        have e : w64 (((a.From ++ b.From.drop (s + 1)).length : Int) - (b.From.length : Int)) = ((a.From.length - (s + 1) : Nat) : Int) := by
          rw [List.length_append, List.length_drop, w64_in (by omega) (by omega)]
          omega
        have et : (a.From ++ b.From.drop (s + 1)).take (a.From.length - (s + 1)) = a.From.take (a.From.length - (s + 1)) := List.take_append_of_le_length (by omega)
        simp only [F_impl_overlaps_L1]
        rw [decide_eq_true (by omega), cond_true, hcond, hok, bnd_some_eq]
        simp only [Out.elim, Bool.not_true, cond_false]
        rw [slc_from h2, bnd_some_eq, hj _ _ (by omega) (by omega), bnd_some_eq, bnd_some_eq, e, slc0' (by rw [List.length_append]; omega), bnd_some_eq, et, hj _ _ (by omega) (by omega), bnd_some_eq, hj _ _ (by rw [List.length_take]; omega) (by omega), bnd_some_eq, app_ok (by simp; omega), bnd_some_eq, hd]
        rfl
      rw [run_next hst, ovs_run a b same ha hb s _ (by omega) (by omega) (by simp; omega), cond_true, List.append_assoc]
      rfl
theorem impl_ovl (a b : GRewrite) (same : Bool) (ha : ShrD a) (hb : ShrD b) : F_impl_overlaps a b same = some (ovl a b same) := by
  have la := ha.2.2
  unfold F_impl_overlaps
  have e : (if (b.From.length : Int) < (a.From.length : Int) then (b.From.length : Int) else (a.From.length : Int)) = ((min a.From.length b.From.length : Nat) : Int) := by
    split
    · rw [Nat.min_eq_right (by omega)]
    · rw [Nat.min_eq_left (by omega)]
  rw [e, ovs_run a b same ha hb _ [] (by omega) (by omega) (by simp; omega), bnd_some_eq]
  rfl
def ovAll (rs : List GRewrite) : List (List (List Int)) := (List.range rs.length).flatMap fun i => (List.range rs.length).flatMap fun k => ovl (rs.getD i zR) (rs.getD k zR) (decide (i = k))
theorem trip_words {a b : GRewrite} (ha : ShrD a) (hb : ShrD b) (s : Nat) : (trip a b s).all wordB = true ∧ Sml (trip a b s) := by
  have la := ha.2.2
  have lb := hb.2.2
  have hw : ∀ x : List Int, Let 2 x → x.length ≤ 10 → wordB x = true := fun x hx hl => by
    unfold wordB
    rw [decide_eq_true (by omega), Bool.true_and]
    exact List.all_eq_true.2 fun y hy => inB_iff.2 (by have := hx y hy; omega)
  have app : ∀ x y : List Int, Let 2 x → Let 2 y → Let 2 (x ++ y) := fun x y hx hy z hz => by
    rcases List.mem_append.1 hz with h | h
    · exact hx z h
    · exact hy z h
  have drp : Let 2 (b.From.drop s) := fun z hz => hb.1 z (List.mem_of_mem_drop hz)
  have tk : Let 2 (a.From.take (a.From.length - s)) := fun z hz => ha.1 z (List.mem_of_mem_take hz)
  have l1 : (a.From ++ b.From.drop s).length ≤ 10 := by rw [List.length_append, List.length_drop]; omega
  have l2 : (a.To ++ b.From.drop s).length ≤ 10 := by rw [List.length_append, List.length_drop]; omega
  have l3 : (a.From.take (a.From.length - s) ++ b.To).length ≤ 10 := by rw [List.length_append, List.length_take]; omega
  constructor
  · unfold trip
    simp only [List.all_cons, List.all_nil, Bool.and_true]
    rw [hw _ (app _ _ ha.1 drp) l1, hw _ (app _ _ ha.2.1 drp) l2, hw _ (app _ _ tk hb.2.1) l3]
    rfl
  · refine ⟨by unfold trip; simp, fun x hx => ?_⟩
    unfold trip at hx
    simp only [List.mem_cons, List.not_mem_nil, or_false] at hx
    rcases hx with rfl | rfl | rfl
    · exact ⟨by omega, fun _ _ => trivial⟩
    · exact ⟨by omega, fun _ _ => trivial⟩
    · exact ⟨by omega, fun _ _ => trivial⟩
theorem impl_ovAll {rs : List GRewrite} (h1 : 1 ≤ rs.length) (h3 : rs.length ≤ 3) (hd : ∀ r ∈ rs, ShrD r) : F_impl_OverlapsOf rs = some (ovAll rs, 0) := by
  obtain ⟨hr, hs⟩ := rewsB_drawn h1 (by omega) (fun r h => (hd r h).rule)
  have hg : ∀ i, i < rs.length → ShrD (rs.getD i zR) := fun i hi => by
    rw [List.getD_eq_getElem?_getD, List.getElem?_eq_getElem hi]
    exact hd _ (List.getElem_mem hi)
  have ol : ∀ i k, i < rs.length → k < rs.length → (ovl (rs.getD i zR) (rs.getD k zR) (decide (i = k))).length ≤ 3 := fun i k hi hk => by
    have := ovs_len (rs.getD i zR) (rs.getD k zR) (decide (i = k)) (min (rs.getD i zR).From.length (rs.getD k zR).From.length)
    have h := (hg i hi).2.2
    unfold ovl
    omega
  unfold F_impl_OverlapsOf
  rw [impl_rews rs hs, hr]
  simp only [bnd_some_eq, Bool.not_true, cond_false]
  have one : ∀ (k : Nat), k < rs.length → ∀ i, i < rs.length → ∀ acc : List (List (List Int)), acc.length ≤ 100 → run (F_impl_OverlapsOf_L3 (ovl (rs.getD i zR) (rs.getD k zR) (decide (i = k)))) (acc, 0) = some (.brk (acc ++ ovl (rs.getD i zR) (rs.getD k zR) (decide (i = k)), ((ovl (rs.getD i zR) (rs.getD k zR) (decide (i = k))).length : Int))) := by
    intro k hk i hi acc hacc
    have hl := ol i k hi hk
    have hm : ∀ x ∈ ovl (rs.getD i zR) (rs.getD k zR) (decide (i = k)), F_impl_areWords x = some true := by
      intro x hx
      obtain ⟨s, _, _, _, rfl⟩ := (ovs_mem _ _ _ _ x).1 hx
      obtain ⟨w1, w2⟩ := trip_words (hg i hi) (hg k hk) s
      rw [impl_areWords _ w2, w1]
    generalize ovl (rs.getD i zR) (rs.getD k zR) (decide (i = k)) = L at hl hm
    have loop := (run_rowf (body := F_impl_OverlapsOf_L3 L) L (by omega) (fun (a : List (List (List Int))) j => (a, j)) (fun a x => a ++ [x]) (fun j a => a.length ≤ 100 + j) (fun j hj a ha => by
      refine ⟨?_, by simp; omega⟩
      simp only [F_impl_OverlapsOf_L3, Int.ofNat_lt, hj, decide_true, cond_true, idx_nat hj, bnd_some_eq]
      rw [hm _ (List.getElem_mem hj), bnd_some_eq, Bool.not_true, cond_false, decide_eq_false (by omega), cond_false, app_ok (by simp; omega), bnd_some_eq]) acc (by omega)).1
    have efold : ∀ (xs a : List (List (List Int))), xs.foldl (fun a x => a ++ [x]) a = a ++ xs := by
      intro xs
      induction xs with
      | nil => intro a; simp
      | cons x xs ih => intro a; rw [List.foldl_cons, ih]; simp
    rw [efold] at loop
    rw [loop]
    exact run_done (by simp [F_impl_OverlapsOf_L3])
  have two : ∀ i, i < rs.length → ∀ acc : List (List (List Int)), acc.length ≤ 60 → ∀ (hi : idx rs (i : Int) = some (rs.getD i zR)), run (F_impl_OverlapsOf_L2 rs (acc, (i : Int)) (rs.getD i zR)) (acc, 0) = some (.brk (acc ++ (List.range rs.length).flatMap fun k => ovl (rs.getD i zR) (rs.getD k zR) (decide (i = k)), (rs.length : Int))) := by
    intro i hi acc hacc _
    rw [run_rangeL (body := F_impl_OverlapsOf_L2 rs (acc, (i : Int)) (rs.getD i zR)) rs.length (by omega) (fun a j => (a, j)) (fun k => ovl (rs.getD i zR) (rs.getD k zR) (decide (i = k))) 3 (fun k hk => ol i k hi hk) acc 60 hacc (fun k a hk ha => by
      have hle : k * 3 ≤ 9 := by omega
      simp only [F_impl_OverlapsOf_L2]
      rw [decide_eq_true (by omega), cond_true, rget hk, bnd_some_eq, show decide ((i : Int) = (k : Int)) = decide (i = k) by rw [decide_eq_decide]; omega, impl_ovl _ _ _ (hg i hi) (hg k hk), bnd_some_eq, one k hk i hi a (by omega), bnd_some_eq]
      rfl)]
    exact run_done (by simp [F_impl_OverlapsOf_L2])
  rw [run_rangeL (body := F_impl_OverlapsOf_L1 rs) rs.length (by omega) (fun a j => (a, j)) (fun i => (List.range rs.length).flatMap fun k => ovl (rs.getD i zR) (rs.getD k zR) (decide (i = k))) 9 (fun i hi => by
    have : ∀ ks : List Nat, (∀ k ∈ ks, k < rs.length) → (ks.flatMap fun k => ovl (rs.getD i zR) (rs.getD k zR) (decide (i = k))).length ≤ 3 * ks.length := by
      intro ks
      induction ks with
      | nil => intro _; simp
      | cons k ks ih =>
        intro hk
        have h1 := ol i k hi (hk k (List.mem_cons_self ..))
        have h2 := ih (fun x hx => hk x (List.mem_cons_of_mem _ hx))
        rw [List.flatMap_cons, List.length_append, List.length_cons]
        omega
    have h := this (List.range rs.length) (fun k hk => List.mem_range.1 hk)
    rw [List.length_range] at h
    omega) [] 0 (by simp) (fun i a hi ha => by
    have hle : i * 9 ≤ 27 := by omega
    simp only [F_impl_OverlapsOf_L1]
    rw [decide_eq_true (by omega), cond_true, rget hi, bnd_some_eq, two i hi a (by omega) (rget hi), bnd_some_eq]
    rfl)]
  rw [run_done (x := Out.brk ([] ++ ovAll rs, (rs.length : Int))) (by simp [F_impl_OverlapsOf_L1, ovAll]), bnd_some_eq]
  rfl
end Go.Fn
