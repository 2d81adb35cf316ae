/-
  Dominoes of dominoes and of rules: the plain laws of PlainDominoes and RewritesToDominoes. No program in sight. No condition.
-/
import Derived.Test.YtnpkepfmicgelaaDoorPDom
namespace Go.Tc
open Go
theorem foldl_snoc {α β : Type} (f : α → β) : ∀ (xs : List α) (a : List β), xs.foldl (fun s x => s ++ [f x]) a = a ++ xs.map f
  | [], a => by simp
  | x :: xs, a => by rw [List.foldl_cons, foldl_snoc f xs]; simp
theorem foldl_flat {β : Type} : ∀ (xs : List (List β)) (a : List β), xs.foldl (fun s x => s ++ x) a = a ++ xs.flatten
  | [], a => by simp
  | x :: xs, a => by rw [List.foldl_cons, foldl_flat xs]; simp
theorem all_and {α : Type} (p q : α → Bool) : ∀ xs : List α, (xs.all fun x => p x && q x) = (xs.all p && xs.all q)
  | [] => rfl
  | x :: xs => by
    rw [List.all_cons, List.all_cons, List.all_cons, all_and p q xs]
    cases p x <;> cases q x <;> simp
theorem slc_zero {α : Type} {xs : List α} : slc xs 0 ((0 : Nat) : Int) = some [] := by
  have := slc_ok (xs := xs) (lo := 0) (hi := 0) (Nat.le_refl 0) (Nat.zero_le _)
  simpa using this
theorem w64_00 : w64 (((0 : Nat) : Int) - ((0 : Nat) : Int)) = 0 := by
  rw [w64_in (by decide) (by decide)]; rfl
end Go.Tc
namespace Go.Fn
open Go Go.Tc
def starW (w : List Int) (b : Bool) : List Int := w.flatMap fun c => cond b [c, 9] [9, c]
theorem starW_len (w : List Int) (b : Bool) : (starW w b).length ≤ w.length * 2 := flatMap_length_le _ w fun c _ => by cases b <;> simp
theorem run_star {body : List Int × Int → Option ((List Int × Int) ⊕ Out (List Int × Int) (List Int))} (w : List Int) (b : Bool) (hw : w.length ≤ 1048576)
    (h1 : ∀ (i : Nat) (hi : i < w.length) (a : List Int), a.length ≤ 2 * i → body (a, (i : Int)) = some (.inl (a ++ cond b [w[i], 9] [9, w[i]], w64 ((i : Int) + 1))))
    (h2 : ∀ a, body (a, (w.length : Int)) = some (.inr (.brk (a, (w.length : Int))))) : run body ([], 0) = some (.brk (starW w b, (w.length : Int))) := by
  have := (run_rowf (body := body) w (by omega) (fun (a : List Int) i => (a, i)) (fun a c => a ++ cond b [c, 9] [9, c]) (fun i a => a.length ≤ 2 * i) (by
    intro i hi a k
    refine ⟨h1 i hi a k, ?_⟩
    rw [List.length_append]
    cases b <;> simp <;> omega) [] (by simp)).1
  rw [foldl_app1, List.nil_append] at this
  rw [this, run_done (h2 _)]
  rfl
def leastB (k : Int) (d : GDomino) : Bool := (d.Top.all fun x => inB x 0 k) && (d.Bottom.all fun x => inB x 0 k)
def nonE (d : GDomino) : Bool := decide (d.Top.length ≠ 0) && decide (d.Bottom.length ≠ 0)
theorem dec_zero (n : Nat) : decide ((n : Int) = 0) = !decide (n ≠ 0) := by
  by_cases h : n = 0
  · subst h; rfl
  · rw [decide_eq_false (by omega : ¬ (n : Int) = 0), decide_eq_true h]; rfl
def starD (d : GDomino) : GDomino := ⟨starW d.Top true, starW d.Bottom false⟩
def firstD (d : GDomino) : GDomino := ⟨9 :: starW d.Top true, starW d.Bottom false⟩
def lastD : GDomino := ⟨[8], [9, 8]⟩
def plainL (ds : List GDomino) : List GDomino := [firstD (ds.getD 0 zD)] ++ ds.map starD ++ [lastD]
def plainP (ds : List GDomino) : List GDomino × Int := cond (ds.all (leastB 7) && ds.all nonE) (cond (domsB (plainL ds)) (plainL ds, 0) ([], 5)) ([], 2)
theorem plainL_len (ds : List GDomino) : (plainL ds).length = ds.length + 2 := by simp [plainL]
theorem plainL_sml {ds : List GDomino} (h : domsB ds = true) : Sml (plainL ds) := by
  have hl := domsB_len h
  refine ⟨by rw [plainL_len]; omega, fun d hd => ?_⟩
  have key : ∀ e : GDomino, e.Top.length ≤ 400 ∧ e.Bottom.length ≤ 400 → Sml (starD e) ∧ Sml (firstD e) := by
    rintro e ⟨k1, k2⟩
    have s1 := starW_len e.Top true
    have s2 := starW_len e.Bottom false
    refine ⟨⟨⟨?_, fun _ _ => trivial⟩, ⟨?_, fun _ _ => trivial⟩⟩, ⟨⟨?_, fun _ _ => trivial⟩, ⟨?_, fun _ _ => trivial⟩⟩⟩
    · show (starW e.Top true).length ≤ _; omega
    · show (starW e.Bottom false).length ≤ _; omega
    · show (starW e.Top true).length + 1 ≤ _; omega
    · show (starW e.Bottom false).length ≤ _; omega
  simp only [plainL, List.mem_append, List.mem_singleton, List.mem_map] at hd
  rcases hd with (rfl | ⟨e, he, rfl⟩) | rfl
  · exact (key _ (getD_len h 0)).2
  · exact (key _ (domsB_mem h he)).1
  · exact ⟨⟨by decide, fun _ _ => trivial⟩, ⟨by decide, fun _ _ => trivial⟩⟩
def stepD (a : List GDomino) (d : GDomino) : List GDomino := cond a.isEmpty [firstD d, starD d] (a ++ [starD d])
theorem foldl_stepD : ∀ (ds a : List GDomino), a ≠ [] → ds.foldl stepD a = a ++ ds.map starD
  | [], a, _ => by simp
  | d :: ds, a, h => by
    have e : stepD a d = a ++ [starD d] := by
      unfold stepD
      cases a with
      | nil => exact absurd rfl h
      | cons _ _ => rfl
    rw [List.foldl_cons, e, foldl_stepD ds _ (by simp)]
    simp
theorem doms_fit {ds : List GDomino} (h : Sml ds) : Med ds ∧ Cnt.cnt ds ≤ 1152921504606846976 := by
  refine ⟨h.med, Nat.le_trans (cnt_le (n := 1048576) (m := 2097152) h.1 fun d hd => ?_) (by decide)⟩
  have := h.2 d hd
  have k1 := this.1.1
  have k2 := this.2.1
  show Cnt.cnt d.Top + Cnt.cnt d.Bottom ≤ _
  rw [cnt_ints, cnt_ints]
  omega
theorem nil_sml : Sml ([] : List GDomino) := ⟨by simp, by simp⟩
theorem plainP_sml {ds : List GDomino} (h : domsB ds = true) : Sml (plainP ds).1 := by
  unfold plainP
  cases ds.all (leastB 7) && ds.all nonE
  · exact nil_sml
  cases domsB (plainL ds)
  · exact nil_sml
  · exact plainL_sml h
end Go.Fn
