/-
  AreJoinable. No program in sight. No condition.
-/
import Derived.Test.YtneglngdbcefgaaPFind
namespace Go.Fn
open Go Go.Tc
theorem foldU_any {κ ν R : Type} (p : κ → Bool) (r : R) {f : Unit → κ × ν → Option (Unit ⊕ Out Unit R)} (hf : ∀ s kv, f s kv = cond (p kv.1) (some (.inr (.ret r))) (some (.inl ()))) :
    ∀ l : List (κ × ν), foldU f l () = some (if (l.any fun kv => p kv.1) = true then .ret r else .brk ())
  | [] => rfl
  | kv :: l => by
    rw [foldU, hf]
    cases h : p kv.1
    · simp only [cond_false]
      rw [foldU_any p r hf l, List.any_cons, h, Bool.false_or]
    · simp only [cond_true]
      rw [List.any_cons, h, Bool.true_or]
      rfl
theorem rangeU_any {κ ν R : Type} (m : List (κ × ν)) (p : κ → Bool) (r : R) {f : Unit → κ × ν → Option (Unit ⊕ Out Unit R)} (hf : ∀ s kv, f s kv = cond (p kv.1) (some (.inr (.ret r))) (some (.inl ()))) :
    rangeU m f () = some (if (m.any fun kv => p kv.1) = true then .ret r else .brk ()) := by
  refine rangeU_eq fun l hl => ?_
  rw [foldU_any p r hf l]
  have : (l.any fun kv => p kv.1) = (m.any fun kv => p kv.1) := by
    rw [Bool.eq_iff_iff, List.any_eq_true, List.any_eq_true]
    exact ⟨fun ⟨x, hx, h⟩ => ⟨x, hl.mem_iff.1 hx, h⟩, fun ⟨x, hx, h⟩ => ⟨x, hl.mem_iff.2 hx, h⟩⟩
  rw [this]
theorem mget_isSome {κ ν : Type} [DecidableEq κ] : ∀ (m : List (κ × ν)) (k : κ), (mget m k).isSome = true ↔ ∃ v, (k, v) ∈ m
  | [], k => by simp
  | (a, v) :: m, k => by
    rw [mget]
    by_cases h : a = k
    · rw [if_pos h]
      subst h
      simp
    · rw [if_neg h, mget_isSome m k]
      constructor
      · rintro ⟨v', hv⟩; exact ⟨v', by simp [hv]⟩
      · rintro ⟨v', hv⟩
        rcases List.mem_cons.1 hv with e | hv
        · exact absurd (congrArg Prod.fst e).symm h
        · exact ⟨v', hv⟩
/-- Both searches found a word. -/
def jn (X Y : List Gfound) : Bool := X.any fun x => Y.any fun y => decide (y.move_word = x.move_word)
theorem keys_jn {X Y : List Gfound} {n1 n2 : List (ByteArray × Int)} (h1 : NumK X n1) (h2 : NumK Y n2) (g1 : GoodF (fun w => wordB w = true) X) (g2 : GoodF (fun w => wordB w = true) Y) : (n1.any fun kv => (mget n2 kv.1).isSome) = jn X Y := by
  rw [Bool.eq_iff_iff, List.any_eq_true]
  unfold jn
  rw [List.any_eq_true]
  constructor
  · rintro ⟨⟨k, v⟩, hm, hs⟩
    have a := (h1.some k).1 ((mget_isSome _ _).2 ⟨v, hm⟩)
    have b := (h2.some k).1 hs
    obtain ⟨x, hx, ex⟩ := List.mem_map.1 a
    obtain ⟨y, hy, ey⟩ := List.mem_map.1 b
    refine ⟨x, hx, List.any_eq_true.2 ⟨y, hy, decide_eq_true ?_⟩⟩
    exact keyW_inj (wordB_letters (g2 y hy)) (wordB_letters (g1 x hx)) (ey.trans ex.symm)
  · rintro ⟨x, hx, h⟩
    obtain ⟨y, hy, h⟩ := List.any_eq_true.1 h
    have h := of_decide_eq_true h
    obtain ⟨v, hv⟩ := (mget_isSome n1 (kF x)).1 ((h1.some _).2 (List.mem_map_of_mem hx))
    refine ⟨(kF x, v), hv, (h2.some _).2 ?_⟩
    have : kF y = kF x := by unfold kF; rw [h]
    rw [← this]
    exact List.mem_map_of_mem hy
noncomputable def imF (n1 n2 : List (ByteArray × Int)) (e : Option (Bool × Int)) : Option (Bool × Int) :=
  bnd (rangeU n1 (fun (_ : Unit) (kv : ByteArray × Int) => (cond ((mget n2 kv.1).isSome) (some (.inr (.ret (true, 0)))) (some (.inl ())) : Option (Unit ⊕ Out Unit (Bool × Int)))) ()) (Out.elim (fun (_ : Unit) => e) (fun (r : Bool × Int) => some r))
theorem imF_eq {X Y : List Gfound} {n1 n2 : List (ByteArray × Int)} (h1 : NumK X n1) (h2 : NumK Y n2) (g1 : GoodF (fun w => wordB w = true) X) (g2 : GoodF (fun w => wordB w = true) Y) (e : Option (Bool × Int)) : imF n1 n2 e = if jn X Y = true then some (true, 0) else e := by
  unfold imF
  rw [rangeU_any n1 (fun k => (mget n2 k).isSome) ((true, 0) : Bool × Int) (fun _ _ => rfl), bnd_some_eq, keys_jn h1 h2 g1 g2]
  split <;> rfl
/-- The answer: a word that both searches found, else whether both were complete. -/
def jv (X Y : List Gfound) (c1 c2 : Bool) : Bool × Int := if jn X Y = true then (true, 0) else if c1 = true ∧ c2 = true then (false, 0) else (false, 5)
theorem jv_end (X Y : List Gfound) (c1 c2 : Bool) : (if jn X Y = true then some (true, (0 : Int)) else (cond (!c1) (some (false, 5)) (cond (!c2) (some (false, 5)) (some (false, 0))))) = some (jv X Y c1 c2) := by
  unfold jv
  cases jn X Y <;> cases c1 <;> cases c2 <;> rfl
end Go.Fn
