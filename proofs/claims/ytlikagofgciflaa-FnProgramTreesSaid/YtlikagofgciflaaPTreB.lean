/-
  The trees of the tags. No program in sight. No condition.
-/
import Derived.Test.YtlikagofgciflaaPTreA
import Derived.Test.YtlikagofgciflaaPTwin
namespace Go.Fn
open Go Go.Tc
noncomputable def stpCnt : (List (Gendings × Int) × Int × Int → Option (Int × List (Gendings × Int))) → List (Gendings × Int) × Int × Int → Option (Int × List (Gendings × Int)) := fun rec_ a_ => F_impl_ranker_count_step (fun p0 p1 p2 => rec_ (p0, p1, p2)) a_.1 a_.2.1 a_.2.2
theorem mono_cnt : Mono stpCnt := by
 intro f g h a r
 refine (?_ : OLe _ _) r
 unfold stpCnt F_impl_ranker_count_step
 have hr : ∀ x, OLe (f x) (g x) := fun x r => h x r
 repeat' first | with_reducible exact OLe.refl _ | with_reducible exact hr _ | with_reducible refine OLe.cond _ ?_ ?_ | with_reducible refine OLe.bnd ?_ (fun _ => ?_) | with_reducible refine OLe.elim _ (fun _ => ?_) (fun _ => ?_)
noncomputable def T_count (p0 : List (Gendings × Int)) (p1 p2 : Int) : Option (Int × List (Gendings × Int)) := fixN stpCnt 24 (p0, p1, p2)
theorem le_count (p0 : List (Gendings × Int)) (p1 p2 : Int) : OLe (T_count p0 p1 p2) (F_impl_ranker_count p0 p1 p2) := fun _ h => (fixR_iff mono_cnt).2 ⟨_, h⟩
noncomputable def T_treeAt_L1 (s2 : Int × List (Gendings × Int) × Int) : Option ((Int × List (Gendings × Int) × Int) ⊕ Out (Int × List (Gendings × Int) × Int) (List Bool)) :=
 bnd (T_count s2.2.1 s2.2.2 1) fun r4 => (cond (decide (r4.1 ≤ s2.1)) (bnd (T_count r4.2 s2.2.2 1) fun r7 => some (.inl ((w64 (s2.1 - r7.1)), r7.2, (w64 (s2.2.2 + 2))))) (some (.inr (.brk (s2.1, r4.2, s2.2.2)))))
theorem le_treeAt_L1 (s2 : Int × List (Gendings × Int) × Int) : OLe (T_treeAt_L1 s2) (F_impl_treeAt_L1 s2) := by
 unfold T_treeAt_L1 F_impl_treeAt_L1
 repeat' first | with_reducible exact OLe.refl _ | with_reducible exact le_count _ _ _ | with_reducible refine OLe.cond _ ?_ ?_ | with_reducible refine OLe.bnd ?_ (fun _ => ?_) | with_reducible refine OLe.elim _ (fun _ => ?_) (fun _ => ?_)
noncomputable def T_treeAt_L2 (s10 : Int × List (Gendings × Int) × (List Bool) × Int × Int) : Option ((Int × List (Gendings × Int) × (List Bool) × Int × Int) ⊕ Out (Int × List (Gendings × Int) × (List Bool) × Int × Int) (List Bool)) :=
 (cond (decide (0 ≤ s10.2.2.2.2)) (bnd (T_count s10.2.1 s10.2.2.2.2 (w64 (s10.2.2.2.1 - 1))) fun r13 => (cond (decide (r13.1 ≤ s10.1)) (bnd (app s10.2.2.1 ([(decide (r13.1 ≤ s10.1))] : List Bool)) fun z17 => some (.inl ((w64 (s10.1 - r13.1)), r13.2, z17, (w64 (s10.2.2.2.1 + 1)), (w64 (s10.2.2.2.2 - 1))))) (bnd (app s10.2.2.1 ([(decide (r13.1 ≤ s10.1))] : List Bool)) fun z21 => some (.inl (s10.1, r13.2, z21, (w64 (s10.2.2.2.1 - 1)), (w64 (s10.2.2.2.2 - 1))))))) (some (.inr (.brk (s10.1, s10.2.1, s10.2.2.1, s10.2.2.2.1, s10.2.2.2.2)))))
theorem le_treeAt_L2 (s10 : Int × List (Gendings × Int) × (List Bool) × Int × Int) : OLe (T_treeAt_L2 s10) (F_impl_treeAt_L2 s10) := by
 unfold T_treeAt_L2 F_impl_treeAt_L2
 repeat' first | with_reducible exact OLe.refl _ | with_reducible exact le_count _ _ _ | with_reducible refine OLe.cond _ ?_ ?_ | with_reducible refine OLe.bnd ?_ (fun _ => ?_) | with_reducible refine OLe.elim _ (fun _ => ?_) (fun _ => ?_)
noncomputable def T_treeAt (p0 : Int) : Option ((List Bool)) :=
 bnd (runK 12 (T_treeAt_L1) (p0, ([] : List (Gendings × Int)), 1)) (Out.elim (fun (s2 : Int × List (Gendings × Int) × Int) => bnd (runK 16 (T_treeAt_L2) (s2.1, s2.2.1, ([] : List Bool), 1, (w64 (s2.2.2 - 1)))) (Out.elim (fun (s10 : Int × List (Gendings × Int) × (List Bool) × Int × Int) => some s10.2.2.1) (fun (r : (List Bool)) => some r))) (fun (r : (List Bool)) => some r))
theorem le_treeAt (p0 : Int) : OLe (T_treeAt p0) (F_impl_treeAt p0) := by
 unfold T_treeAt F_impl_treeAt
 repeat' first | with_reducible exact OLe.refl _ | with_reducible refine OLe.runK (fun _ => ?_) | with_reducible exact le_treeAt_L1 _ | with_reducible exact le_treeAt_L2 _ | with_reducible refine OLe.cond _ ?_ ?_ | with_reducible refine OLe.bnd ?_ (fun _ => ?_) | with_reducible refine OLe.elim _ (fun _ => ?_) (fun _ => ?_)
def tagS : Nat → Sh
 | 0 => .nl
 | 1 => .nd .nl .nl
 | 2 => .nd .nl (.nd .nl .nl)
 | 3 => .nd (.nd .nl .nl) .nl
 | 4 => .nd .nl (.nd .nl (.nd .nl .nl))
 | 5 => .nd .nl (.nd (.nd .nl .nl) .nl)
 | 6 => .nd (.nd .nl .nl) (.nd .nl .nl)
 | 7 => .nd (.nd .nl (.nd .nl .nl)) .nl
 | 8 => .nd (.nd (.nd .nl .nl) .nl) .nl
 | _ => .nd .nl (.nd .nl (.nd .nl (.nd .nl .nl)))
set_option maxRecDepth 100000 in
theorem treeAt_all : ∀ k : Nat, k < 10 → T_treeAt (k : Int) = some (tagS k).bits := by decide +kernel
theorem tag_tree {k : Nat} (h : k < 10) : F_impl_tagTree (k : Int) = some (tagS k).tr := by
 have hs : (tagS k).sz ≤ 9 := by
  revert h
  revert k
  decide
 unfold F_impl_tagTree
 rw [le_treeAt _ _ (treeAt_all k h), bnd_some_eq, tr_of _ (by omega), bnd_some_eq]
theorem tagS_inj : ∀ i : Nat, i < 10 → ∀ j : Nat, j < 10 → tagS i = tagS j → i = j := by decide
theorem tagS_sz : ∀ k : Nat, k < 10 → (tagS k).sz ≤ 9 := by decide
end Go.Fn
