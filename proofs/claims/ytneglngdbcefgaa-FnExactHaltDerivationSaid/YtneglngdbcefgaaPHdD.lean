/-
  The erasing steps, on both sides. No program in sight. No condition.
-/
import Derived.Test.YtneglngdbcefgaaPHdC
namespace Go.Fn
open Go Go.Tc
theorem skip_run {X : Type} {body : Int → Option (Int ⊕ X)} : ∀ (n k : Nat), (∀ j : Nat, k ≤ j → j < k + n → body (j : Int) = some (.inl ((j + 1 : Nat) : Int))) → run body (k : Int) = run body ((k + n : Nat) : Int)
  | 0, k, _ => rfl
  | n + 1, k, h => by
    rw [run_next (h k (Nat.le_refl _) (by omega)), skip_run n (k + 1) (fun j h1 h2 => h j (by omega) (by omega))]
    congr 1
    omega
section
variable {m : GMachine} {s q : Nat}
def bas (m : GMachine) (s : Nat) : Nat := (ownL m s).length + (freeL m).length
theorem halt_free {k : Nat} (hk : k < (freeL m).length) : (haltL m s)[(ownL m s).length + k]? = some (freeL m)[k] := by
  rw [haltL_eq, List.getElem?_append_right (by omega), Nat.add_sub_cancel_left, List.getElem?_append_left hk, List.getElem?_eq_getElem hk]
theorem halt_erase {c : Nat} (hc : c < s) : (haltL m s)[bas m s + 2 * c]? = some ⟨[ers m, (c : Int)], [ers m]⟩ ∧ (haltL m s)[bas m s + 2 * c + 1]? = some ⟨[(c : Int), ers m], [ers m]⟩ := by
  have hl := eraseL_len m s
  obtain ⟨a, b⟩ := eraseL_get m s c hc
  unfold bas
  rw [haltL_eq, List.getElem?_append_right (by omega), List.getElem?_append_right (by omega), List.getElem?_append_right (by omega), List.getElem?_append_right (by omega)]
  constructor
  · rw [← a]; congr 1; omega
  · rw [← b]; congr 1; omega
theorem halt_len : (haltL m s).length = bas m s + 2 * s := by
  have hl := eraseL_len m s
  unfold bas
  rw [haltL_eq, List.length_append, List.length_append]
  omega
theorem own_small (T : Tiny m s q) : ∀ r ∈ haltL m s, r.From.length ≤ 10 ∧ r.To.length ≤ 10 := by
  intro r hr
  rw [haltL_eq] at hr
  rcases List.mem_append.1 hr with hr | hr
  · have := off_own T hr; omega
  · rcases List.mem_append.1 hr with hr | hr
    · obtain ⟨p', _, b, _, e, h⟩ := free_small T r hr
      rw [e]
      simp only [List.length_cons, List.length_nil]
      omega
    · unfold eraseL at hr
      obtain ⟨c, _, hr⟩ := List.mem_flatMap.1 hr
      unfold eraseRw at hr
      simp only [List.mem_cons, List.not_mem_nil, or_false] at hr
      rcases hr with rfl | rfl <;> simp
variable {X : List Int} {p : Int} {Y : List Int}
/-! ### The first step -/
theorem spec_first (T : Tiny m s q) (C : Cfw m X p Y) (hW : (Wd m X p Y).length ≤ 400) (hL : (haltL m s).length ≤ 60) {k : Nat} (hk : k < (freeL m).length) (h1 : mF m X p Y (freeL m)[k] = true) (h2 : ∀ j (hj : j < k), mF m X p Y ((freeL m)[j]'(by omega)) = false) :
    F_spec_l32Step (haltL m s) (Wd m X p Y) ((ownL m s).length : Int) (bas m s : Int) 1 = some ([(((ownL m s).length + k : Nat) : Int), ((X.length + 1 : Nat) : Int)], Ed m X Y.tail, true) := by
  have hlen := halt_len (m := m) (s := s)
  obtain ⟨q1, _⟩ := step32 (L := haltL m s) (w := Wd m X p Y) (lo := 0) (hi := bas m s) (by' := 1) (by omega) (by omega) (by omega) (by omega) (own_small T) k (ownL m s).length (fun j hj => by
    rw [Nat.one_mul]
    refine ⟨by unfold bas; omega, fun r hr => ?_⟩
    rw [halt_free (by omega)] at hr
    cases hr
    rw [posnF T C (List.getElem_mem _), h2 j hj]
    rfl)
  rw [Nat.one_mul] at q1
  have := q1 (freeL m)[k] (X.length + 1) (halt_free hk) (by unfold bas; omega) (by rw [posnF T C (List.getElem_mem _), h1]; rfl)
  unfold F_spec_l32Step
  rw [show (1 : Int) = ((1 : Nat) : Int) from rfl, this, bnd_some_eq, newF T C (List.getElem_mem _) h1]
  rfl
theorem Wd_no_ers (T : Tiny m s q) (C : Cfw m X p Y) : ers m ∉ Wd m X p Y := by
  have hq := T.hq
  have := C.p1
  unfold Wd ers
  simp only [List.mem_cons, List.mem_append, List.not_mem_nil, or_false, not_or]
  refine ⟨by omega, fun h => ?_, by omega, fun h => ?_, by omega⟩
  · have := C.sx _ h; omega
  · have := C.sy _ h; omega
theorem idx_none {w : List Int} {z : Int} (hw : w.length ≤ 1048576) (h : z ∉ w) : F_slices_Index_Sint64_int64 w z = some (-1) := by
  rw [impl_index _ _ hw]
  have : w.findIdx? (fun y => decide (z = y)) = none := by
    rw [List.findIdx?_eq_none_iff]
    intro y hy
    exact decide_eq_false (fun e => h (e ▸ hy))
  rw [this]
theorem idx_first {u v : List Int} {z : Int} (hw : (u ++ (z :: v)).length ≤ 1048576) (h : z ∉ u) : F_slices_Index_Sint64_int64 (u ++ (z :: v)) z = some (u.length : Int) := by
  rw [impl_index _ _ hw]
  have h1 : u.findIdx? (fun y => decide (z = y)) = none := by
    rw [List.findIdx?_eq_none_iff]
    intro y hy
    exact decide_eq_false (fun e => h (e ▸ hy))
  have h2 : (z :: v).findIdx? (fun y => decide (z = y)) = some 0 := by
    rw [List.findIdx?_cons, decide_eq_true rfl]
    rfl
  rw [List.findIdx?_append, h1, h2]
  simp
theorem impl_first (T : Tiny m s q) (C : Cfw m X p Y) (hW : (Wd m X p Y).length ≤ 400) (hL : (haltL m s).length ≤ 60) {k : Nat} (hk : k < (freeL m).length) (h1 : mF m X p Y (freeL m)[k] = true) (h2 : ∀ j (hj : j < k), mF m X p Y ((freeL m)[j]'(by omega)) = false) :
    F_impl_erasing (haltL m s) ((ownL m s).length : Int) (Wd m X p Y) (ers m) = some (⟨(((ownL m s).length + k : Nat) : Int), ((X.length + 1 : Nat) : Int), Ed m X Y.tail⟩, true) := by
  have hlen := halt_len (m := m) (s := s)
  have hl := Wd_len m X p Y
  have hq := T.hq
  have hp0 := C.p0
  have hp1 := C.p1
  have step : ∀ j (hj : j < (freeL m).length), F_impl_erasing_L1 (haltL m s) (Wd m X p Y) (ers m) (-1) (((ownL m s).length + j : Nat) : Int) = cond (mF m X p Y (freeL m)[j]) (some (.inr (.ret (⟨(((ownL m s).length + j : Nat) : Int), ((X.length + 1 : Nat) : Int), Ed m X Y.tail⟩, true)))) (some (.inl (((ownL m s).length + j + 1 : Nat) : Int))) := by
    intro j hj
    obtain ⟨p', hp', b, hb, hF, hT⟩ := free_small T _ (List.getElem_mem hj)
    have hkl : (ownL m s).length + j < (haltL m s).length := by rw [hlen]; unfold bas; omega
    have hbody : ∀ (c : Bool) (at' : Int), (c = true → at' = ((X.length + 1 : Nat) : Int)) → c = mF m X p Y (freeL m)[j] → (cond c (bnd (F_impl_replaced (Wd m X p Y) at' ((freeL m)[j].From.length : Int) (freeL m)[j].To) fun r31 => some (.inr (.ret ((⟨(((ownL m s).length + j : Nat) : Int), at', r31⟩ : Gmove), true)))) (some (.inl (w64 ((((ownL m s).length + j : Nat) : Int) + 1)))) : Option (Int ⊕ Out Int (Gmove × Bool))) = cond (mF m X p Y (freeL m)[j]) (some (.inr (.ret (⟨(((ownL m s).length + j : Nat) : Int), ((X.length + 1 : Nat) : Int), Ed m X Y.tail⟩, true)))) (some (.inl (((ownL m s).length + j + 1 : Nat) : Int))) := by
      intro c at' h1 h2
      rw [← h2]
      cases c
      · rw [cond_false, cond_false, w64_nat1 (by omega)]
      · have hm := h2.symm
        rw [cond_true, cond_true, h1 rfl]
        have hfit : X.length + 1 + (freeL m)[j].From.length ≤ (Wd m X p Y).length := take_eq_len (of_decide_eq_true hm) (by omega)
        rw [impl_put _ _ _ _ (by omega) (by omega) hfit, bnd_some_eq, newF T C (List.getElem_mem _) hm]
    have i0 : idx (freeL m)[j].From 0 = some (m.Symbols + (p' : Int)) := by rw [hF]; rfl
    simp only [F_impl_erasing_L1]
    rw [decide_eq_true (by omega), cond_true, idx_get, halt_free hj, bnd_some_eq, decide_eq_true (by decide), cond_true, i0, bnd_some_eq]
    by_cases hpp : p = (p' : Int)
    · have hix : F_slices_Index_Sint64_int64 (Wd m X p Y) (m.Symbols + (p' : Int)) = some ((X.length + 1 : Nat) : Int) := by
        have hW' : Wd m X p Y = ((m.Symbols + m.States) :: X) ++ ((m.Symbols + (p' : Int)) :: (Y ++ [m.Symbols + m.States])) := by rw [← hpp]; rfl
        rw [hW', idx_first (by rw [← hW']; omega) (by
          intro h
          rcases List.mem_cons.1 h with h | h
          · omega
          · have := C.sx _ h; omega)]
        rfl
      rw [hix, bnd_some_eq, decide_eq_true (by omega), cond_true, slc_from (by omega), bnd_some_eq, impl_begins _ _ (by rw [List.length_drop]; omega), bnd_some_eq, bnd_some_eq]
      exact hbody _ _ (fun _ => rfl) rfl
    · have hix : F_slices_Index_Sint64_int64 (Wd m X p Y) (m.Symbols + (p' : Int)) = some (-1) := by
        refine idx_none (by omega) ?_
        unfold Wd
        simp only [List.mem_cons, List.mem_append, List.not_mem_nil, or_false, not_or]
        refine ⟨by omega, fun h => ?_, by omega, fun h => ?_, by omega⟩
        · have := C.sx _ h; omega
        · have := C.sy _ h; omega
      rw [hix, bnd_some_eq, decide_eq_false (by decide), cond_false, bnd_some_eq]
      refine hbody false (-1) (fun h => by cases h) ?_
      cases hm : mF m X p Y (freeL m)[j]
      · rfl
      · exfalso
        unfold mF at hm
        have hm := of_decide_eq_true hm
        have hd : (Wd m X p Y).drop (X.length + 1) = (m.Symbols + p) :: (Y ++ [m.Symbols + m.States]) := by
          have hW' : Wd m X p Y = ((m.Symbols + m.States) :: X) ++ ((m.Symbols + p) :: (Y ++ [m.Symbols + m.States])) := rfl
          rw [hW', List.drop_left' (by rw [List.length_cons])]
        rw [hd, hF] at hm
        simp only [List.length_cons, List.length_nil, List.take_succ_cons, List.cons.injEq] at hm
        omega
  have hr2 : F_slices_Index_Sint64_int64 (Wd m X p Y) (ers m) = some (-1) := idx_none (by omega) (Wd_no_ers T C)
  unfold F_impl_erasing
  rw [hr2, bnd_some_eq, skip_run k (ownL m s).length (fun j hj1 hj2 => by
    obtain ⟨j', rfl⟩ : ∃ j', j = (ownL m s).length + j' := ⟨j - (ownL m s).length, by omega⟩
    have := step j' (by omega)
    rw [h2 j' (by omega), cond_false] at this
    exact this)]
  have hst := step k hk
  rw [h1, cond_true] at hst
  rw [run_done hst, bnd_some_eq]
  rfl
/-! ### The other steps -/
variable {L R : List Int}
structure Edw (m : GMachine) (L R : List Int) : Prop where
  sl : sym m L
  sr : sym m R
  hl : (Ed m L R).length ≤ 400
theorem ers_no (T : Tiny m s q) (E : Edw m L R) : ers m ∉ (m.Symbols + m.States) :: L ∧ ers m ∉ R ++ [m.Symbols + m.States] := by
  have hq := T.hq
  unfold ers
  constructor
  · intro h
    rcases List.mem_cons.1 h with h | h
    · omega
    · have := E.sl _ h; omega
  · intro h
    rcases List.mem_append.1 h with h | h
    · have := E.sr _ h; omega
    · rw [List.mem_singleton] at h; omega
theorem posn_r (T : Tiny m s q) (E : Edw m L R) (c : Int) : posn (Ed m L R) [ers m, c] = if (R ++ [m.Symbols + m.States]).head? = some c then [L.length + 1] else [] := by
  obtain ⟨n1, n2⟩ := ers_no T E
  have hE : Ed m L R = ((m.Symbols + m.States) :: L) ++ (ers m :: (R ++ [m.Symbols + m.States])) := rfl
  have hlen := Ed_len m L R
  rw [posn_one (a0 := L.length + 1) (fun a ha => by
    obtain ⟨h1, h2⟩ := mem_posn.1 ha
    have hc := cut3 (Ed m L R) a [ers m, c].length
    rw [h2, hE] at hc
    obtain ⟨g1, _, _⟩ := uniq_at (u := (Ed m L R).take a) (z' := ers m) (v := c :: (Ed m L R).drop (a + 2)) n1 n2 hc
    have := congrArg List.length g1
    rw [List.length_take, Nat.min_eq_left h1, List.length_cons] at this
    exact this)]
  have hd : (Ed m L R).drop (L.length + 1) = ers m :: (R ++ [m.Symbols + m.States]) := by
    rw [hE, List.drop_left' (by rw [List.length_cons])]
  rw [hd]
  cases hR : R ++ [m.Symbols + m.States] with
  | nil => simp at hR
  | cons y l =>
    simp only [List.length_cons, List.length_nil, List.take_succ_cons, List.take_zero, List.cons.injEq, and_true, true_and, List.head?_cons, Option.some.injEq]
    by_cases hy : y = c
    · rw [if_pos ⟨hy, by omega⟩, if_pos hy]
    · rw [if_neg (fun e => hy e.1), if_neg hy]
theorem posn_l (T : Tiny m s q) (E : Edw m L R) (c : Int) : posn (Ed m L R) [c, ers m] = if ((m.Symbols + m.States) :: L).getLast? = some c then [L.length] else [] := by
  obtain ⟨n1, n2⟩ := ers_no T E
  have hE : Ed m L R = ((m.Symbols + m.States) :: L) ++ (ers m :: (R ++ [m.Symbols + m.States])) := rfl
  have hlen := Ed_len m L R
  rw [posn_one (a0 := L.length) (fun a ha => by
    obtain ⟨h1, h2⟩ := mem_posn.1 ha
    have hc := cut3 (Ed m L R) a [c, ers m].length
    rw [h2] at hc
    have hc' : ((m.Symbols + m.States) :: L) ++ (ers m :: (R ++ [m.Symbols + m.States])) = ((Ed m L R).take a ++ [c]) ++ (ers m :: (Ed m L R).drop (a + 2)) := by
      refine (hE.symm.trans hc).trans ?_
      simp
    obtain ⟨g1, _, _⟩ := uniq_at n1 n2 hc'
    have := congrArg List.length g1
    simp only [List.length_append, List.length_take, Nat.min_eq_left h1, List.length_cons, List.length_nil] at this
    omega)]
  obtain ⟨l', z, hz⟩ : ∃ l' z, (m.Symbols + m.States) :: L = l' ++ [z] := by
    rcases snoc_cases ((m.Symbols + m.States) :: L) with h | ⟨l', z, h⟩
    · cases h
    · exact ⟨l', z, h⟩
  have hl' : l'.length = L.length := by
    have := congrArg List.length hz
    rw [List.length_cons, List.length_append, List.length_singleton] at this
    omega
  have hd : (Ed m L R).drop L.length = z :: ers m :: (R ++ [m.Symbols + m.States]) := by
    rw [hE, hz, ← hl', List.append_assoc, List.drop_left' rfl]
    rfl
  rw [hd, hz, List.getLast?_concat]
  simp only [List.length_cons, List.length_nil, List.take_succ_cons, List.take_zero, List.cons.injEq, and_true, Option.some.injEq]
  by_cases hy : z = c
  · rw [if_pos ⟨hy, by omega⟩, if_pos hy]
  · rw [if_neg (fun e => hy e.1), if_neg hy]
theorem put_r {c : Int} {R' : List Int} : putW (Ed m L (c :: R')) [ers m] (L.length + 1) 2 = Ed m L R' := by
  have hE : Ed m L (c :: R') = ((m.Symbols + m.States) :: L) ++ ([ers m, c] ++ (R' ++ [m.Symbols + m.States])) := by unfold Ed; simp
  unfold putW
  rw [hE, List.take_left' (by rw [List.length_cons]), ← List.append_assoc, List.drop_left' (by simp)]
  unfold Ed
  simp
theorem put_l {c : Int} {L' : List Int} : putW (Ed m (L' ++ [c]) R) [ers m] (L'.length + 1) 2 = Ed m L' R := by
  have hE : Ed m (L' ++ [c]) R = ((m.Symbols + m.States) :: L') ++ ([c, ers m] ++ (R ++ [m.Symbols + m.States])) := by unfold Ed; simp
  unfold putW
  rw [hE, List.take_left' (by rw [List.length_cons]), ← List.append_assoc, List.drop_left' (by simp)]
  unfold Ed
  simp
theorem Edw.tailr {c : Int} (E : Edw m L (c :: R)) : Edw m L R := ⟨E.sl, fun x hx => E.sr x (List.mem_cons_of_mem _ hx), by
  have := E.hl
  rw [Ed_len] at this ⊢
  rw [List.length_cons] at this
  omega⟩
theorem Edw.initl {c : Int} (E : Edw m (L ++ [c]) R) : Edw m L R := ⟨fun x hx => E.sl x (List.mem_append_left _ hx), E.sr, by
  have := E.hl
  rw [Ed_len] at this ⊢
  rw [List.length_append] at this
  omega⟩
/-- The reference's steps to the right of the eraser. -/
theorem spec_right (T : Tiny m s q) (hL : (haltL m s).length ≤ 60) : (∀ {c : Int} {R' : List Int}, Edw m L (c :: R') → F_spec_l32Step (haltL m s) (Ed m L (c :: R')) (bas m s : Int) ((haltL m s).length : Int) 2 = some ([((bas m s + 2 * c.toNat : Nat) : Int), ((L.length + 1 : Nat) : Int)], Ed m L R', true)) ∧
    (Edw m L [] → F_spec_l32Step (haltL m s) (Ed m L []) (bas m s : Int) ((haltL m s).length : Int) 2 = some ([], [], false)) := by
  have hlen := halt_len (m := m) (s := s)
  have hs := T.hs
  have hq := T.hq
  have b2 := T.b2
  constructor
  · intro c R' E
    have hc := E.sr c (List.mem_cons_self ..)
    have el := E.hl
    obtain ⟨q1, _⟩ := step32 (L := haltL m s) (w := Ed m L (c :: R')) (lo := 0) (hi := (haltL m s).length) (by' := 2) (by omega) (by omega) (by omega) (Nat.le_refl _) (own_small T) c.toNat (bas m s) (fun j hj => by
      refine ⟨by omega, fun r hr => ?_⟩
      rw [(halt_erase (by omega)).1] at hr
      cases hr
      rw [posn_r T E, if_neg]
      simp only [List.cons_append, List.head?_cons, Option.some.injEq]
      omega)
    have := q1 _ (L.length + 1) (halt_erase (by omega)).1 (by omega) (by
      rw [posn_r T E, if_pos]
      simp only [List.cons_append, List.head?_cons, Option.some.injEq]
      omega)
    unfold F_spec_l32Step
    rw [show (2 : Int) = ((2 : Nat) : Int) from rfl, this, bnd_some_eq]
    simp only [Out.elim, List.length_cons, List.length_nil]
    rw [put_r]
  · intro E
    have el := E.hl
    obtain ⟨_, q2⟩ := step32 (L := haltL m s) (w := Ed m L []) (lo := 0) (hi := (haltL m s).length) (by' := 2) (by omega) (by omega) (by omega) (Nat.le_refl _) (own_small T) s (bas m s) (fun j hj => by
      refine ⟨by omega, fun r hr => ?_⟩
      rw [(halt_erase (by omega)).1] at hr
      cases hr
      rw [posn_r T E, if_neg]
      simp only [List.nil_append, List.head?_cons, Option.some.injEq]
      omega)
    unfold F_spec_l32Step
    rw [show (2 : Int) = ((2 : Nat) : Int) from rfl, q2 (by omega), bnd_some_eq]
    rfl
theorem spec_left (T : Tiny m s q) (hL : (haltL m s).length ≤ 60) : (∀ {c : Int} {L' : List Int}, Edw m (L' ++ [c]) R → F_spec_l32Step (haltL m s) (Ed m (L' ++ [c]) R) ((bas m s + 1 : Nat) : Int) ((haltL m s).length : Int) 2 = some ([((bas m s + 2 * c.toNat + 1 : Nat) : Int), ((L'.length + 1 : Nat) : Int)], Ed m L' R, true)) ∧
    (Edw m [] R → F_spec_l32Step (haltL m s) (Ed m [] R) ((bas m s + 1 : Nat) : Int) ((haltL m s).length : Int) 2 = some ([], [], false)) := by
  have hlen := halt_len (m := m) (s := s)
  have hs := T.hs
  have hq := T.hq
  have b2 := T.b2
  have b1 := T.b1
  have ec : ∀ c : Nat, bas m s + 1 + 2 * c = bas m s + 2 * c + 1 := fun c => by omega
  have el2 : ∀ (L' : List Int) (c : Int), ((m.Symbols + m.States) :: (L' ++ [c])).getLast? = some c := fun L' c => by
    rw [← List.cons_append, List.getLast?_concat]
  constructor
  · intro c L' E
    have hc := E.sl c (by simp)
    have el := E.hl
    obtain ⟨q1, _⟩ := step32 (L := haltL m s) (w := Ed m (L' ++ [c]) R) (lo := 0) (hi := (haltL m s).length) (by' := 2) (by omega) (by omega) (by omega) (Nat.le_refl _) (own_small T) c.toNat (bas m s + 1) (fun j hj => by
      refine ⟨by omega, fun r hr => ?_⟩
      rw [ec, (halt_erase (by omega)).2] at hr
      cases hr
      rw [posn_l T E, if_neg]
      rw [el2, Option.some.injEq]
      omega)
    rw [ec] at q1
    have := q1 _ (L' ++ [c]).length (halt_erase (by omega)).2 (by omega) (by
      rw [posn_l T E, if_pos]
      rw [el2, Option.some.injEq]
      omega)
    unfold F_spec_l32Step
    rw [show (2 : Int) = ((2 : Nat) : Int) from rfl, this, bnd_some_eq]
    simp only [Out.elim, List.length_cons, List.length_nil, List.length_append, Nat.zero_add]
    rw [put_l]
  · intro E
    have el := E.hl
    obtain ⟨_, q2⟩ := step32 (L := haltL m s) (w := Ed m [] R) (lo := 0) (hi := (haltL m s).length) (by' := 2) (by omega) (by omega) (by omega) (Nat.le_refl _) (own_small T) s (bas m s + 1) (fun j hj => by
      refine ⟨by omega, fun r hr => ?_⟩
      rw [ec, (halt_erase (by omega)).2] at hr
      cases hr
      rw [posn_l T E, if_neg]
      simp only [List.getLast?_singleton, Option.some.injEq]
      omega)
    unfold F_spec_l32Step
    rw [show (2 : Int) = ((2 : Nat) : Int) from rfl, q2 (by omega), bnd_some_eq]
    rfl
end
end Go.Fn
