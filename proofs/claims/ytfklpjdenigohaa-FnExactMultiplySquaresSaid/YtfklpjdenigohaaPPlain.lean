/-
  Dominoes of dominoes and of rules: the plain laws of PlainDominoes and RewritesToDominoes. No program in sight. No condition.
-/
import Derived.Test.YtfklpjdenigohaaPDom
namespace Go.Tc
open Go
theorem foldl_snoc {α β : Type} (f : α → β) : ∀ (xs : List α) (a : List β), xs.foldl (fun s x => s ++ [f x]) a = a ++ xs.map f
  | [], a => by simp
  | x :: xs, a => by rw [List.foldl_cons, foldl_snoc f xs]; simp
theorem foldl_flat {β : Type} : ∀ (xs : List (List β)) (a : List β), xs.foldl (fun s x => s ++ x) a = a ++ xs.flatten
  | [], a => by simp
  | x :: xs, a => by rw [List.foldl_cons, foldl_flat xs]; simp
theorem all_and {α : Type} (p q : α → Bool) : ∀ xs : List α, (xs.all fun x => p x && q x) = (xs.all p && xs.all q)
  | [] => rfl
  | x :: xs => by
    rw [List.all_cons, List.all_cons, List.all_cons, all_and p q xs]
    cases p x <;> cases q x <;> simp
theorem slc_zero {α : Type} {xs : List α} : slc xs 0 ((0 : Nat) : Int) = some [] := by
  have := slc_ok (xs := xs) (lo := 0) (hi := 0) (Nat.le_refl 0) (Nat.zero_le _)
  simpa using this
theorem w64_00 : w64 (((0 : Nat) : Int) - ((0 : Nat) : Int)) = 0 := by
  rw [w64_in (by decide) (by decide)]; rfl
end Go.Tc
namespace Go.Fn
open Go Go.Tc
theorem impl_concat (xs : List (List Int)) (hn : xs.length ≤ 1048576) (h : xs.flatten.length ≤ 1048576) : F_slices_Concat_Sint64_int64 xs = some xs.flatten := by
  unfold F_slices_Concat_Sint64_int64
  have hdrop : ∀ (i : Nat) (hi : i < xs.length), (xs.drop i).flatten.length = xs[i].length + (xs.drop (i + 1)).flatten.length := fun i hi => by
    rw [List.drop_eq_getElem_cons hi, List.flatten_cons, List.length_append]
  obtain ⟨e1, e2⟩ := run_rowf (body := F_slices_Concat_Sint64_int64_L1 xs) xs (by omega) (fun (a : Int) i => (a, i)) (fun a x => a + (x.length : Int)) (fun i a => 0 ≤ a ∧ a + ((xs.drop i).flatten.length : Int) = (xs.flatten.length : Int)) (by
    rintro i hi a ⟨k0, k1⟩
    have := hdrop i hi
    have e : w64 (a + (xs[i].length : Int)) = a + (xs[i].length : Int) := w64_in (by omega) (by omega)
    refine ⟨?_, by omega, by omega⟩
    simp only [F_slices_Concat_Sint64_int64_L1, Int.ofNat_lt, hi, decide_true, cond_true, idx_nat hi, bnd_some_eq, e]
    rw [decide_eq_false (by omega), cond_false]) 0 ⟨by omega, by simp⟩
  rw [e1, run_done (x := .brk (xs.foldl (fun a x => a + (x.length : Int)) 0, (xs.length : Int))) (by simp [F_slices_Concat_Sint64_int64_L1])]
  rw [List.drop_length] at e2
  generalize xs.foldl (fun a x => a + (x.length : Int)) 0 = T at e2
  simp only [List.flatten_nil, List.length_nil] at e2
  simp only [bnd_some_eq, Out.elim]
  rw [decide_eq_false (by omega), cond_false, w64_00, w64_in (by omega) (by omega)]
  simp only [bnd_some_eq, Out.elim]
  have loop : ∀ (body : List Int × Int → Option ((List Int × Int) ⊕ Out (List Int × Int) (List Int))),
      (∀ (i : Nat) (hi : i < xs.length) (a : List Int), a.length + xs[i].length ≤ 1048576 → body (a, (i : Int)) = some (.inl (a ++ xs[i], w64 ((i : Int) + 1)))) →
      (∀ a, body (a, (xs.length : Int)) = some (.inr (.brk (a, (xs.length : Int))))) → run body ([], 0) = some (.brk (xs.flatten, (xs.length : Int))) := by
    intro body h1 h2
    have := (run_rowf (body := body) xs (by omega) (fun (a : List Int) i => (a, i)) (fun a x => a ++ x) (fun i a => a.length + (xs.drop i).flatten.length = xs.flatten.length) (by
      intro i hi a k
      have := hdrop i hi
      refine ⟨h1 i hi a (by omega), ?_⟩
      rw [List.length_append]; omega) [] (by simp)).1
    rw [foldl_flat, List.nil_append] at this
    rw [this, run_done (h2 _)]
  have l2 := loop (F_slices_Concat_Sint64_int64_L2 xs) (fun i hi a k => by
    simp only [F_slices_Concat_Sint64_int64_L2, Int.ofNat_lt, hi, decide_true, cond_true, idx_nat hi, bnd_some_eq]
    rw [app_ok (by omega), bnd_some_eq]) (fun a => by simp [F_slices_Concat_Sint64_int64_L2])
  have l3 := loop (F_slices_Concat_Sint64_int64_L3 xs) (fun i hi a k => by
    simp only [F_slices_Concat_Sint64_int64_L3, Int.ofNat_lt, hi, decide_true, cond_true, idx_nat hi, bnd_some_eq]
    rw [app_ok (by omega), bnd_some_eq]) (fun a => by simp [F_slices_Concat_Sint64_int64_L3])
  by_cases h0 : 0 < T - 0
  · rw [decide_eq_true h0, cond_true]
    obtain ⟨n, hn⟩ : ∃ n : Nat, T - 0 = n := ⟨(T - 0).toNat, by omega⟩
    rw [hn, mke_nat (by omega), bnd_some_eq, slc_zero, bnd_some_eq, l2]
    rfl
  · rw [decide_eq_false h0, cond_false, l3]
    rfl
theorem impl_joined (xs : List (List Int)) (hn : xs.length ≤ 1048576) (h : xs.flatten.length ≤ 1048576) : F_impl_joined xs = some xs.flatten := by
  unfold F_impl_joined
  rw [impl_concat xs hn h]
  rfl
def starW (w : List Int) (b : Bool) : List Int := w.flatMap fun c => cond b [c, 9] [9, c]
theorem starW_len (w : List Int) (b : Bool) : (starW w b).length ≤ w.length * 2 := flatMap_length_le _ w fun c _ => by cases b <;> simp
theorem run_star {body : List Int × Int → Option ((List Int × Int) ⊕ Out (List Int × Int) (List Int))} (w : List Int) (b : Bool) (hw : w.length ≤ 1048576)
    (h1 : ∀ (i : Nat) (hi : i < w.length) (a : List Int), a.length ≤ 2 * i → body (a, (i : Int)) = some (.inl (a ++ cond b [w[i], 9] [9, w[i]], w64 ((i : Int) + 1))))
    (h2 : ∀ a, body (a, (w.length : Int)) = some (.inr (.brk (a, (w.length : Int))))) : run body ([], 0) = some (.brk (starW w b, (w.length : Int))) := by
  have := (run_rowf (body := body) w (by omega) (fun (a : List Int) i => (a, i)) (fun a c => a ++ cond b [c, 9] [9, c]) (fun i a => a.length ≤ 2 * i) (by
    intro i hi a k
    refine ⟨h1 i hi a k, ?_⟩
    rw [List.length_append]
    cases b <;> simp <;> omega) [] (by simp)).1
  rw [foldl_app1, List.nil_append] at this
  rw [this, run_done (h2 _)]
  rfl
theorem spec_star (w : List Int) (b : Bool) (hw : w.length ≤ 1048576) : F_spec_l32Starred w b = some (starW w b) := by
  unfold F_spec_l32Starred
  rw [run_star w b hw (fun i hi a k => by
    simp only [F_spec_l32Starred_L1, Int.ofNat_lt, hi, decide_true, cond_true, idx_nat hi, bnd_some_eq]
    rw [app_ok (by simp; omega), app_ok (by simp; omega)]
    cases b <;> rfl) (fun a => by simp [F_spec_l32Starred_L1])]
  rfl
theorem impl_star (w : List Int) (b : Bool) (hw : w.length ≤ 1048576) : F_impl_spread w b = some (starW w b) := by
  unfold F_impl_spread
  rw [run_star w b hw (fun i hi a k => by
    simp only [F_impl_spread_L1, Int.ofNat_lt, hi, decide_true, cond_true, idx_nat hi, bnd_some_eq]
    rw [app_ok (by simp; omega), app_ok (by simp; omega)]
    cases b <;> rfl) (fun a => by simp [F_impl_spread_L1])]
  rfl
def leastB (k : Int) (d : GDomino) : Bool := (d.Top.all fun x => inB x 0 k) && (d.Bottom.all fun x => inB x 0 k)
def nonE (d : GDomino) : Bool := decide (d.Top.length ≠ 0) && decide (d.Bottom.length ≠ 0)
theorem spec_least (ds : List GDomino) (k : Int) (h : Sml ds) : F_spec_l32Least ds k = some (ds.all (leastB k)) := by
  have h1 := h.1
  unfold F_spec_l32Least
  rw [run_allp ds (by omega) (leastB k) (.ret false) (.brk (ds.length : Int)) (fun i hi => by
    have hd := h.mem hi
    simp only [F_spec_l32Least_L1, Int.ofNat_lt, hi, decide_true, cond_true, idx_nat hi, bnd_some_eq, spec_row _ _ _ hd.1.1, spec_row _ _ _ hd.2.1]
    unfold leastB
    cases ds[i].Top.all fun x => inB x 0 k
    · rfl
    cases ds[i].Bottom.all fun x => inB x 0 k <;> rfl) (by simp [F_spec_l32Least_L1])]
  cases ds.all (leastB k) <;> rfl
theorem dec_zero (n : Nat) : decide ((n : Int) = 0) = !decide (n ≠ 0) := by
  by_cases h : n = 0
  · subst h; rfl
  · rw [decide_eq_false (by omega : ¬ (n : Int) = 0), decide_eq_true h]; rfl
theorem spec_gap (ds : List GDomino) (h1 : ds.length ≤ 1048576) : F_spec_l32Gap ds = some (!(ds.all nonE)) := by
  unfold F_spec_l32Gap
  rw [run_allp ds (by omega) nonE (.ret true) (.brk (ds.length : Int)) (fun i hi => by
    simp only [F_spec_l32Gap_L1, Int.ofNat_lt, hi, decide_true, cond_true, idx_nat hi, bnd_some_eq, dec_zero]
    unfold nonE
    cases decide (ds[i].Top.length ≠ 0)
    · rfl
    cases decide (ds[i].Bottom.length ≠ 0) <;> rfl) (by simp [F_spec_l32Gap_L1])]
  cases ds.all nonE <;> rfl
def starD (d : GDomino) : GDomino := ⟨starW d.Top true, starW d.Bottom false⟩
def firstD (d : GDomino) : GDomino := ⟨9 :: starW d.Top true, starW d.Bottom false⟩
def lastD : GDomino := ⟨[8], [9, 8]⟩
def plainL (ds : List GDomino) : List GDomino := [firstD (ds.getD 0 zD)] ++ ds.map starD ++ [lastD]
def plainP (ds : List GDomino) : List GDomino × Int := cond (ds.all (leastB 7) && ds.all nonE) (cond (domsB (plainL ds)) (plainL ds, 0) ([], 5)) ([], 2)
theorem plainL_len (ds : List GDomino) : (plainL ds).length = ds.length + 2 := by simp [plainL]
theorem plainL_sml {ds : List GDomino} (h : domsB ds = true) : Sml (plainL ds) := by
  have hl := domsB_len h
  refine ⟨by rw [plainL_len]; omega, fun d hd => ?_⟩
  have key : ∀ e : GDomino, e.Top.length ≤ 400 ∧ e.Bottom.length ≤ 400 → Sml (starD e) ∧ Sml (firstD e) := by
    rintro e ⟨k1, k2⟩
    have s1 := starW_len e.Top true
    have s2 := starW_len e.Bottom false
    refine ⟨⟨⟨?_, fun _ _ => trivial⟩, ⟨?_, fun _ _ => trivial⟩⟩, ⟨⟨?_, fun _ _ => trivial⟩, ⟨?_, fun _ _ => trivial⟩⟩⟩
    · show (starW e.Top true).length ≤ _; omega
    · show (starW e.Bottom false).length ≤ _; omega
    · show (starW e.Top true).length + 1 ≤ _; omega
    · show (starW e.Bottom false).length ≤ _; omega
  simp only [plainL, List.mem_append, List.mem_singleton, List.mem_map] at hd
  rcases hd with (rfl | ⟨e, he, rfl⟩) | rfl
  · exact (key _ (getD_len h 0)).2
  · exact (key _ (domsB_mem h he)).1
  · exact ⟨⟨by decide, fun _ _ => trivial⟩, ⟨by decide, fun _ _ => trivial⟩⟩
theorem spec_plain (ds : List GDomino) (hd : domsB ds = true) (hs : Sml ds) : F_spec_l32Plain ds = some (plainP ds) := by
  have hl := domsB_len hd
  unfold F_spec_l32Plain plainP
  rw [spec_least ds 7 hs, spec_gap ds (by omega), bnd_some_eq]
  cases ds.all (leastB 7)
  · rfl
  cases ds.all nonE
  · rfl
  have g := getD_len hd 0
  simp only [Bool.not_true, cond_false, bnd_some_eq, Out.elim, Bool.and_true, cond_true]
  rw [idx_getD zD (by omega) (by omega : (0 : Int) < ds.length)]
  simp only [bnd_some_eq, Int.toNat_zero]
  have s1 := starW_len (ds.getD 0 zD).Top true
  rw [spec_star _ _ (by omega), bnd_some_eq, app_ok (by show 1 + _ ≤ _; omega), bnd_some_eq, spec_star _ _ (by omega)]
  simp only [bnd_some_eq, Out.elim]
  have := (run_rowf (body := F_spec_l32Plain_L1 ds) ds (by omega) (fun (a : List GDomino) i => (a, i)) (fun a d => a ++ [starD d]) (fun i a => a.length ≤ i + 1) (by
    intro i hi a k
    have hm := domsB_mem hd (List.getElem_mem hi)
    refine ⟨?_, by rw [List.length_append]; simp; omega⟩
    simp only [F_spec_l32Plain_L1, Int.ofNat_lt, hi, decide_true, cond_true, idx_nat hi, bnd_some_eq]
    rw [spec_star _ _ (by omega), bnd_some_eq, spec_star _ _ (by omega), bnd_some_eq, app_ok (by simp; omega), bnd_some_eq]
    rfl) [⟨[9] ++ starW (ds.getD 0 zD).Top true, starW (ds.getD 0 zD).Bottom false⟩] (by simp)).1
  rw [foldl_snoc] at this
  rw [this, run_done (x := .brk ([⟨[9] ++ starW (ds.getD 0 zD).Top true, starW (ds.getD 0 zD).Bottom false⟩] ++ ds.map starD, (ds.length : Int))) (by simp [F_spec_l32Plain_L1])]
  simp only [bnd_some_eq, Out.elim]
  rw [app_ok (by simp; omega), bnd_some_eq]
  have e : [(⟨[9] ++ starW (ds.getD 0 zD).Top true, starW (ds.getD 0 zD).Bottom false⟩ : GDomino)] ++ ds.map starD ++ [⟨[8], [9, 8]⟩] = plainL ds := rfl
  rw [e, spec_doms _ (plainL_sml hd), bnd_some_eq]
  cases domsB (plainL ds) <;> rfl
def stepD (a : List GDomino) (d : GDomino) : List GDomino := cond a.isEmpty [firstD d, starD d] (a ++ [starD d])
theorem foldl_stepD : ∀ (ds a : List GDomino), a ≠ [] → ds.foldl stepD a = a ++ ds.map starD
  | [], a, _ => by simp
  | d :: ds, a, h => by
    have e : stepD a d = a ++ [starD d] := by
      unfold stepD
      cases a with
      | nil => exact absurd rfl h
      | cons _ _ => rfl
    rw [List.foldl_cons, e, foldl_stepD ds _ (by simp)]
    simp
theorem impl_plain (ds : List GDomino) (hd : domsB ds = true) (hs : Sml ds) : F_impl_plainDominoes ds = some (plainP ds) := by
  have hl := domsB_len hd
  unfold F_impl_plainDominoes plainP
  obtain ⟨r1, r2⟩ := run_rowx (body := F_impl_plainDominoes_L1 ds) ds (by omega) (fun (a : List GDomino) i => (a, i)) stepD (fun d => leastB 7 d && nonE d) (.ret ([], 2)) (fun i a => (i = 0 ↔ a = []) ∧ a.length ≤ i + 1) (by
    rintro i hi a ⟨k0, k1⟩ hp
    have hm := domsB_mem hd (List.getElem_mem hi)
    simp only [Bool.and_eq_true] at hp
    obtain ⟨hp1, hp2⟩ := hp
    unfold nonE at hp2
    unfold leastB at hp1
    simp only [Bool.and_eq_true] at hp1 hp2
    have s1 := starW_len ds[i].Top true
    simp only [F_impl_plainDominoes_L1, Int.ofNat_lt, hi, decide_true, cond_true, idx_nat hi, bnd_some_eq, dec_zero, hp2.1, hp2.2, Bool.not_true, cond_false]
    rw [impl_joined [ds[i].Top, ds[i].Bottom] (by simp) (by simp; omega), bnd_some_eq, impl_allWithin _ _ _ (by simp; omega)]
    have ea : ([ds[i].Top, ds[i].Bottom].flatten.all fun x => inB x 0 7) = true := by
      simp only [List.flatten_cons, List.flatten_nil, List.append_nil, List.all_append, hp1.1, hp1.2, Bool.and_true]
    rw [ea]
    simp only [bnd_some_eq, Bool.not_true, cond_false, Out.elim]
    rw [impl_star _ _ (by omega), bnd_some_eq, impl_star _ _ (by omega)]
    simp only [bnd_some_eq]
    rw [impl_joined [[9], starW ds[i].Top true] (by simp) (by simp; omega)]
    simp only [bnd_some_eq]
    unfold stepD
    by_cases hi0 : i = 0
    · obtain rfl := k0.1 hi0
      subst hi0
      refine ⟨?_, by simp⟩
      rw [decide_eq_false (by decide : ¬ (0 : Nat) ≠ 0), Bool.not_false, cond_true, app_ok (by simp), bnd_some_eq, app_ok (by simp), bnd_some_eq]
      simp [firstD, starD]
    · have ha : a ≠ [] := fun e => hi0 (k0.2 e)
      have he : a.isEmpty = false := by cases a with
        | nil => exact absurd rfl ha
        | cons _ _ => rfl
      rw [he]
      refine ⟨?_, by simp, by simp; omega⟩
      rw [decide_eq_true (show i ≠ 0 from hi0), Bool.not_true, cond_false, app_ok (xs := a) (by simp; omega), bnd_some_eq]
      rfl) (by
    rintro i hi a - hp
    have hm := domsB_mem hd (List.getElem_mem hi)
    simp only [F_impl_plainDominoes_L1, Int.ofNat_lt, hi, decide_true, cond_true, idx_nat hi, bnd_some_eq, dec_zero]
    rw [impl_joined [ds[i].Top, ds[i].Bottom] (by simp) (by simp; omega), bnd_some_eq, impl_allWithin _ _ _ (by simp; omega)]
    have ea : ([ds[i].Top, ds[i].Bottom].flatten.all fun x => inB x 0 7) = leastB 7 ds[i] := by
      simp only [List.flatten_cons, List.flatten_nil, List.append_nil, List.all_append, leastB]
    rw [ea]
    unfold nonE at hp
    cases h1 : decide (ds[i].Top.length ≠ 0)
    · rfl
    cases h2 : decide (ds[i].Bottom.length ≠ 0)
    · rfl
    rw [h1, h2] at hp
    simp only [Bool.and_true] at hp
    rw [hp]
    rfl) [] ⟨by simp, by simp⟩
  rw [← all_and]
  cases hall : ds.all fun d => leastB 7 d && nonE d
  · rw [r1 hall]
    rfl
  · obtain ⟨d0, rest, rfl⟩ : ∃ d0 rest, ds = d0 :: rest := by
      cases ds with
      | nil => simp at hl
      | cons d0 rest => exact ⟨d0, rest, rfl⟩
    have e : (d0 :: rest).foldl stepD [] = [firstD d0] ++ (d0 :: rest).map starD := by
      rw [List.foldl_cons, foldl_stepD _ _ (by simp [stepD])]
      rfl
    rw [(r2 hall).1, e, run_done (x := .brk ([firstD d0] ++ (d0 :: rest).map starD, ((d0 :: rest).length : Int))) (by simp [F_impl_plainDominoes_L1])]
    simp only [bnd_some_eq, Out.elim, cond_true]
    simp only [List.length_cons] at hl
    rw [app_ok (by simp; omega), bnd_some_eq]
    have e2 : [firstD d0] ++ (d0 :: rest).map starD ++ [⟨[8], [9, 8]⟩] = plainL (d0 :: rest) := rfl
    rw [e2, impl_doms _ (plainL_sml hd), bnd_some_eq]
    cases domsB (plainL (d0 :: rest)) <;> rfl
theorem doms_fit {ds : List GDomino} (h : Sml ds) : Med ds ∧ Cnt.cnt ds ≤ 1152921504606846976 := by
  refine ⟨h.med, Nat.le_trans (cnt_le (n := 1048576) (m := 2097152) h.1 fun d hd => ?_) (by decide)⟩
  have := h.2 d hd
  have k1 := this.1.1
  have k2 := this.2.1
  show Cnt.cnt d.Top + Cnt.cnt d.Bottom ≤ _
  rw [cnt_ints, cnt_ints]
  omega
theorem nil_sml : Sml ([] : List GDomino) := ⟨by simp, by simp⟩
theorem plainP_sml {ds : List GDomino} (h : domsB ds = true) : Sml (plainP ds).1 := by
  unfold plainP
  cases ds.all (leastB 7) && ds.all nonE
  · exact nil_sml
  cases domsB (plainL ds)
  · exact nil_sml
  · exact plainL_sml h
end Go.Fn
