/-
  SolveDominoes: both searches, loop by loop. No program in sight. No condition.
-/
import Derived.Test.YtabpcmbohmodnaaDoorPDSol
namespace Go.Fn
open Go Go.Tc
/-! ### What the law does with the reference's answer -/
noncomputable def solK (p0 : List GDomino) (p1 p2 : Int) (a : List Int × Int) : Option Bool :=
  bnd (F_laws_toDominoS p0) fun r411 => bnd (F_impl_SolveDominoes r411 p1 p2) fun r414 => bnd (bnd (F_laws_eqInt64S r414.1 a.1) fun r419 => (cond (!r419) (some (.ret false)) (cond (decide (r414.2 ≠ a.2)) (some (.ret false)) (some (.brk ())))) : Option (Out (Unit) Bool)) (Out.elim (fun (s417 : Unit) => bnd (F_laws_toDominoS p0) fun r423 => bnd (F_laws_eqDominoS r411 r423) fun r426 => (cond (!r426) (some false) (bnd (F_laws_markDominoS r411 1) fun r429 => bnd ((cond (decide (r429.1 < 0)) (some (.ret false)) (bnd (F_laws_eqInt64S r414.1 a.1) fun r434 => (cond (!r434) (some (.ret false)) (cond (decide (r414.2 ≠ a.2)) (some (.ret false)) (some (.brk ())))))) : Option (Out (Unit) Bool)) (Out.elim (fun (s431 : Unit) => bnd (F_laws_markInt64S r414.1 1) fun r438 => bnd (F_laws_heldInt64S r438.2 1) fun r440 => (cond (decide (r440 < 0)) (some false) (cond (decide (r440 ≠ r438.1)) (some false) (bnd (F_laws_toDominoS p0) fun r444 => bnd (F_impl_SolveDominoes r444 p1 p2) fun r447 => bnd (F_laws_eqInt64S r447.1 a.1) fun r450 => (cond (!r450) (some false) (cond (decide (r447.2 ≠ a.2)) (some false) (bnd (F_laws_heldInt64S r438.2 1) fun r454 => (cond (decide (r454 < 0)) (some false) (cond (decide (r454 ≠ r438.1)) (some false) (some true)))))))))) (fun (r : Bool) => some r))))) (fun (r : Bool) => some r))
theorem solK_ok {p0 : List GDomino} {p1 p2 : Int} (s0 : Sml p0) {w : List Int × Int} (hi : F_impl_SolveDominoes p0 p1 p2 = some w) (hl : w.1.length ≤ 1048576) : solK p0 p1 p2 w = some true := by
  obtain ⟨m0, hc⟩ := ints_fit hl
  have cx0 : Cnt.cnt p0 ≤ 2199023255552 := cnt_le (n := 1048576) (m := 2097152) s0.1 (fun x hx => by
    have h1 : Cnt.cnt x.Top ≤ 1048576 := cnt_le (n := 1048576) (m := 1) (s0.2 x hx).1.1 (fun _ _ => Nat.le_refl _)
    have h2 : Cnt.cnt x.Bottom ≤ 1048576 := cnt_le (n := 1048576) (m := 1) (s0.2 x hx).2.1 (fun _ _ => Nat.le_refl _)
    show Cnt.cnt x.Top + Cnt.cnt x.Bottom ≤ 2097152
    omega)
  obtain ⟨yx0, ex0, _⟩ := mark_DominoS p0 (1) (Sml.med s0) (by omega) (by omega)
  have nx : ¬ (1 + (Cnt.cnt p0 : Int) < 0) := by omega
  obtain ⟨yg0, eg0, gg0⟩ := mark_Int64S w.1 (1) m0 (by omega) (by omega)
  have ng0 : ¬ (1 + (Cnt.cnt w.1 : Int) < 0) := by omega
  unfold solK
  simp [hi, Out.elim, ex0, nx, eg0, gg0, ng0, to_DominoS p0 s0, eq_DominoS p0 s0.med, eq_Int64S w.1 m0]
/-! ### The program's inner loop -/
theorem isG01 : isG 0 1 = some false := rfl
theorem isG02 : isG 0 2 = some false := rfl
theorem isG21 : isG 2 1 = some false := rfl
theorem isG22 : isG 2 2 = some true := rfl
theorem isG11 : isG 1 1 = some true := rfl
def MpOk (L : List Gl32Rest) (mp : List (ByteArray × Bool)) : Prop := ∀ (u : Bool) (w : List Int), Let9 w → (mget mp (keyR u w)).getD false = L.any (sameR w u)
theorem MpOk.add {L : List Gl32Rest} {mp : List (ByteArray × Bool)} (h : MpOk L mp) {w : List Int} (hw : Let9 w) (u : Bool) (b d : Int) : MpOk (L ++ [⟨w, u, b, d⟩]) (mput mp (keyR u w) true) := by
  intro v z hz
  rw [mget_mput, List.any_append]
  by_cases e : keyR u w = keyR v z
  · obtain ⟨rfl, rfl⟩ := keyR_inj hw hz e
    rw [if_pos rfl]
    simp [sameR]
  · rw [if_neg e, h v z hz]
    have : sameR z v ⟨w, u, b, d⟩ = false := by
      unfold sameR
      by_cases hu : u = v
      · by_cases hww : w = z
        · subst hu hww
          exact absurd rfl e
        · simp [hww]
      · simp [hu]
    simp [this]
theorem ds_get {ds : List GDomino} {i : Nat} (hi : i < ds.length) : ds.getD i ⟨[], []⟩ = ds[i] := by rw [List.getD_eq_getElem?_getD, List.getElem?_eq_getElem hi]; rfl
theorem innerO_cons (ds : List GDomino) (k i : Nat) (l : List Nat) (s : StD) : innerO ds k (i :: l) s = match stepO ds k i s with
    | .inl s' => innerO ds k l s'
    | .inr r => .inr r := rfl
theorem conv_snoc (L : List Gl32Rest) (w : List Int) (u : Bool) (b d : Int) : (rootI :: L.map conv) ++ [⟨u, w, d, b⟩] = rootI :: (L ++ [(⟨w, u, b, d⟩ : Gl32Rest)]).map conv := by
  rw [List.map_append]
  rfl
theorem mat_new {L : List Gl32Rest} (h : InvD L) (w : List Int) (u : Bool) {k i : Nat} (hk : k ≤ L.length) :
    (bnd (isG 0 1) fun r115 => (cond r115 (some (([] : (List Int)), 3)) (bnd (isG 0 2) fun r118 => (cond r118 (some (([] : (List Int)), 5)) (bnd (run (F_impl_SolveDominoes_L4 (rootI :: (L ++ [(⟨w, u, (k : Int), (i : Int)⟩ : Gl32Rest)]).map conv)) (([] : List Int), (w64 (((rootI :: (L ++ [(⟨w, u, (k : Int), (i : Int)⟩ : Gl32Rest)]).map conv).length : Int) - 1)))) (Out.elim (fun (s122 : (List Int) × Int) => (cond (decide (400 < (s122.1.length : Int))) (some (([] : (List Int)), 5)) (bnd (F_impl_reversed s122.1) fun r145 => some (r145, 0)))) (fun (r : (List Int) × Int) => some r))))))) = some (pth (rootS :: L) (L.length + 2) k i, 0) := by
  have hl := h.len
  have hw : w64 (((rootI :: (L ++ [(⟨w, u, (k : Int), (i : Int)⟩ : Gl32Rest)]).map conv).length : Int) - 1) = ((L.length + 1 : Nat) : Int) := by
    rw [List.length_cons, List.length_map, List.length_append, List.length_singleton, w64_in (by omega) (by omega)]
    omega
  rw [isG01, bnd_some_eq, cond_false, isG02, bnd_some_eq, cond_false, hw]
  obtain ⟨k', e⟩ := mat_runDS (h.bef w u hk (i := i)) (L.length + 2) (L.length + 1) [] (by omega) (by rw [List.length_append, List.length_singleton]; omega) (by simp; omega)
  have hg : (rootS :: (L ++ [(⟨w, u, (k : Int), (i : Int)⟩ : Gl32Rest)])).getD (L.length + 1) zRest = ⟨w, u, (k : Int), (i : Int)⟩ := by
    rw [List.getD_cons_succ, List.getD_eq_getElem?_getD, List.getElem?_append_right (Nat.le_refl _), Nat.sub_self]
    rfl
  rw [hg] at e
  simp only at e
  rw [pth_app h _ _ _ _ (by omega), List.nil_append] at e
  rw [e, bnd_some_eq]
  simp only [Out.elim]
  have := pth_len (rootS :: L) (L.length + 2) (k : Int) (i : Int)
  rw [decide_eq_false (by rw [List.length_reverse]; omega), cond_false, impl_reversed _ (by rw [List.length_reverse]; omega), List.reverse_reverse, bnd_some_eq]
theorem impl_innerDS {ds : List GDomino} (hD : DsOk ds) {k to : Nat} (hto : to ≤ ds.length) (R18 : List Grest) (M18 : List (ByteArray × Bool)) (b18 : Bool) (f0 : Int) : ∀ (d i : Nat) (L : List Gl32Rest) (wh : Bool) (mp : List (ByteArray × Bool)), i + d = to → InvD L → k ≤ L.length → MpOk L mp →
    ∃ o, run (F_impl_SolveDominoes_L3 ds (R18, M18, b18, (k : Int)) (f0, (to : Int))) (rootI :: L.map conv, mp, !wh, (i : Int)) = some o ∧
      match innerO ds k (List.range' i d) (L, wh) with
      | .inl s' => ∃ mp', o = .brk (rootI :: s'.1.map conv, mp', !s'.2, (to : Int)) ∧ MpOk s'.1 mp'
      | .inr r => o = .ret (some (.inr (.ret (some r)))) := by
  intro d
  induction d with
  | zero =>
    intro i L wh mp hi hL hk hM
    obtain rfl : i = to := by omega
    refine ⟨_, run_done ?_, mp, rfl, hM⟩
    simp only [F_impl_SolveDominoes_L3]
    rw [decide_eq_false (Int.lt_irrefl _), cond_false]
  | succ d ih =>
    intro i L wh mp hi hL hk hM
    have hid : i < ds.length := by omega
    have hd := hD.el ds[i] (List.getElem_mem hid)
    have hLl := hL.len
    have hn := hD.n
    obtain ⟨r, er, hrw, hrt, _, _⟩ := rs_idx (L := L) (k := k) (by omega)
    obtain ⟨hl9, hlen, _, _⟩ := hL.at k
    have hput : F_impl_rest_put r ds[i] = some (putI (putA (((rootS :: L).getD k zRest).word, ((rootS :: L).getD k zRest).upper) ds[i])) := by
      rw [impl_put_eq r ds[i] (by rw [hrw]; exact hlen) hd.2.1 hd.2.2, hrw, hrt]
    have hst : stepO ds k i (L, wh) = match putA (((rootS :: L).getD k zRest).word, ((rootS :: L).getD k zRest).upper) ds[i] with
      | none => .inl (L, wh)
      | some x => if x.1 = [] then .inr (pth (rootS :: L) (L.length + 2) k i, 0) else if 400 < x.1.length then .inl (L, false)
        else if L.any (sameR x.1 x.2) = true then .inl (L, wh) else if 299 ≤ L.length then .inr ([], 5) else .inl (L ++ [⟨x.1, x.2, (k : Int), (i : Int)⟩], wh) := by
      unfold stepO
      rw [ds_get hid]
      rfl
    rw [List.range'_succ, innerO_cons, hst]
    cases hp : putA (((rootS :: L).getD k zRest).word, ((rootS :: L).getD k zRest).upper) ds[i] with
    | none =>
      rw [hp] at hput
      have hb : F_impl_SolveDominoes_L3 ds (R18, M18, b18, (k : Int)) (f0, (to : Int)) (rootI :: L.map conv, mp, !wh, (i : Int)) = some (.inl (rootI :: L.map conv, mp, !wh, ((i + 1 : Nat) : Int))) := by
        simp only [F_impl_SolveDominoes_L3]
        rw [decide_eq_true (by omega), cond_true, er, bnd_some_eq, idx_nat hid, bnd_some_eq, hput, bnd_some_eq, bnd_some_eq]
        simp only [Out.elim, putI]
        rw [Bool.not_false, cond_true, w64_nat1 (by omega)]
      rw [run_next hb]
      exact ih (i + 1) L wh mp (by omega) hL hk hM
    | some x =>
      rw [hp] at hput
      have hx := putA_let hl9 hd.1.1 hd.1.2 hp
      have head : ∀ X, (cond (decide (400 < (x.1.length : Int))) (some (.inl (rootI :: L.map conv, mp, true, (w64 ((i : Int) + 1))))) (bnd (F_impl_rest_key (⟨x.2, x.1, 0, 0⟩ : Grest)) fun r93 => (cond ((mget mp r93).getD false) (some (.inl (rootI :: L.map conv, mp, !wh, (w64 ((i : Int) + 1))))) (bnd (F_impl_rest_key (⟨x.2, x.1, (i : Int), (k : Int)⟩ : Grest)) fun r99 => bnd (bnd (app (rootI :: L.map conv) ([(⟨x.2, x.1, (i : Int), (k : Int)⟩ : Grest)] : List Grest)) fun z107 => some (.brk z107) : Option (Out ((List Grest)) (Option (((List Grest) × List (ByteArray × Bool) × Bool × Int) ⊕ Out ((List Grest) × List (ByteArray × Bool) × Bool × Int) (Option ((List Int) × Int)))))) (Out.elim (fun (s101 : (List Grest)) => (cond (decide ((x.1.length : Int) = 0)) (some (.inr (.ret (some (.inr (.ret (bnd (isG 0 1) fun r115 => (cond r115 (some (([] : (List Int)), 3)) (bnd (isG 0 2) fun r118 => (cond r118 (some (([] : (List Int)), 5)) (bnd (run (F_impl_SolveDominoes_L4 s101) (([] : List Int), (w64 ((s101.length : Int) - 1)))) (Out.elim (fun (s122 : (List Int) × Int) => (cond (decide (400 < (s122.1.length : Int))) (some (([] : (List Int)), 5)) (bnd (F_impl_reversed s122.1) fun r145 => some (r145, 0)))) (fun (r : (List Int) × Int) => some r))))))))))))) (cond (decide ((s101.length : Int) = 301)) (some (.inr (.ret (some (.inr (.ret (bnd (isG 2 1) fun r149 => (cond r149 (some (([] : (List Int)), 3)) (bnd (isG 2 2) fun r152 => (cond r152 (some (([] : (List Int)), 5)) (bnd (run (F_impl_SolveDominoes_L5 s101) (([] : List Int), (w64 ((s101.length : Int) - 1)))) (Out.elim (fun (s156 : (List Int) × Int) => (cond (decide (400 < (s156.1.length : Int))) (some (([] : (List Int)), 5)) (bnd (F_impl_reversed s156.1) fun r179 => some (r179, 0)))) (fun (r : (List Int) × Int) => some r))))))))))))) (some (.inl (s101, (mput mp r99 true), !wh, (w64 ((i : Int) + 1)))))))) (fun (r : Option (((List Grest) × List (ByteArray × Bool) × Bool × Int) ⊕ Out ((List Grest) × List (ByteArray × Bool) × Bool × Int) (Option ((List Int) × Int)))) => some (.inr (.ret r)))))))) = X →
          F_impl_SolveDominoes_L3 ds (R18, M18, b18, (k : Int)) (f0, (to : Int)) (rootI :: L.map conv, mp, !wh, (i : Int)) = X := by
        intro X hX
        simp only [F_impl_SolveDominoes_L3]
        rw [decide_eq_true (by omega), cond_true, er, bnd_some_eq, idx_nat hid, bnd_some_eq, hput, bnd_some_eq, bnd_some_eq]
        simp only [Out.elim, putI]
        rw [Bool.not_true, cond_false]
        exact hX
      have happ : app (rootI :: L.map conv) ([(⟨x.2, x.1, (i : Int), (k : Int)⟩ : Grest)] : List Grest) = some (rootI :: (L ++ [(⟨x.1, x.2, (k : Int), (i : Int)⟩ : Gl32Rest)]).map conv) := by
        rw [app_ok (by rw [List.length_cons, List.length_map, List.length_singleton]; omega), conv_snoc]
      have hlen2 : (rootI :: (L ++ [(⟨x.1, x.2, (k : Int), (i : Int)⟩ : Gl32Rest)]).map conv).length = L.length + 2 := by
        rw [List.length_cons, List.length_map, List.length_append, List.length_singleton]
      simp only
      by_cases he : x.1 = []
      · rw [if_pos he]
        refine ⟨_, run_done (head _ ?_), rfl⟩
        have hany : L.any (sameR x.1 x.2) = false := by
          rw [List.any_eq_false]
          intro t ht hs
          unfold sameR at hs
          simp only [Bool.and_eq_true, decide_eq_true_eq] at hs
          exact hL.ne t ht (hs.2.trans he)
        have hz : (x.1.length : Int) = 0 := by rw [he]; rfl
        rw [decide_eq_false (by omega), cond_false, impl_rkey _ (by simp only; omega), bnd_some_eq]
        simp only
        rw [hM x.2 x.1 hx, hany, cond_false, impl_rkey _ (by simp only; omega), bnd_some_eq, happ, bnd_some_eq, bnd_some_eq]
        simp only [Out.elim]
        rw [decide_eq_true hz, cond_true, mat_new hL x.1 x.2 hk]
      · rw [if_neg he]
        have hpos : (x.1.length : Int) ≠ 0 := by
          intro h0
          exact he (List.eq_nil_of_length_eq_zero (by omega))
        by_cases hbig : 400 < x.1.length
        · rw [if_pos hbig]
          have hb := head (some (.inl (rootI :: L.map conv, mp, true, ((i + 1 : Nat) : Int)))) (by rw [decide_eq_true (show (400 : Int) < (x.1.length : Int) by omega), cond_true, w64_nat1 (by omega)])
          rw [run_next hb]
          exact ih (i + 1) L false mp (by omega) hL hk hM
        · rw [if_neg hbig]
          by_cases hany : L.any (sameR x.1 x.2) = true
          · rw [if_pos hany]
            have hb := head (some (.inl (rootI :: L.map conv, mp, !wh, ((i + 1 : Nat) : Int)))) (by
              rw [decide_eq_false (show ¬ (400 : Int) < (x.1.length : Int) by omega), cond_false, impl_rkey _ (by simp only; omega), bnd_some_eq]
              simp only
              rw [hM x.2 x.1 hx, hany, cond_true, w64_nat1 (by omega)])
            rw [run_next hb]
            exact ih (i + 1) L wh mp (by omega) hL hk hM
          · rw [if_neg hany]
            have hany' : L.any (sameR x.1 x.2) = false := by simpa using hany
            by_cases hful : 299 ≤ L.length
            · rw [if_pos hful]
              refine ⟨_, run_done (head _ ?_), rfl⟩
              rw [decide_eq_false (show ¬ (400 : Int) < (x.1.length : Int) by omega), cond_false, impl_rkey _ (by simp only; omega), bnd_some_eq]
              simp only
              rw [hM x.2 x.1 hx, hany', cond_false, impl_rkey _ (by simp only; omega), bnd_some_eq, happ, bnd_some_eq, bnd_some_eq]
              simp only [Out.elim]
              rw [decide_eq_false hpos, cond_false, hlen2, decide_eq_true (show ((L.length + 2 : Nat) : Int) = 301 by omega), cond_true, isG21, bnd_some_eq, cond_false, isG22, bnd_some_eq, cond_true]
            · rw [if_neg hful]
              have hb := head (some (.inl (rootI :: (L ++ [(⟨x.1, x.2, (k : Int), (i : Int)⟩ : Gl32Rest)]).map conv, mput mp (keyR x.2 x.1) true, !wh, ((i + 1 : Nat) : Int)))) (by
                rw [decide_eq_false (show ¬ (400 : Int) < (x.1.length : Int) by omega), cond_false, impl_rkey _ (by simp only; omega), bnd_some_eq]
                simp only
                rw [hM x.2 x.1 hx, hany', cond_false, impl_rkey _ (by simp only; omega), bnd_some_eq, happ, bnd_some_eq, bnd_some_eq]
                simp only [Out.elim]
                rw [decide_eq_false hpos, cond_false, hlen2, decide_eq_false (show ¬ ((L.length + 2 : Nat) : Int) = 301 by omega), cond_false, w64_nat1 (by omega)])
              rw [run_next hb]
              exact ih (i + 1) _ wh _ (by omega) (hL.add hx he (by omega) hk (by omega)) (by rw [List.length_append]; omega) (hM.add hx x.2 k i)
/-! ### The program's outer loop -/
def frDS (k : Nat) (first : Int) : Nat := if k = 0 ∧ 0 ≤ first then first.toNat else 0
def toDS (k : Nat) (first : Int) (n : Nat) : Nat := if k = 0 ∧ 0 ≤ first then first.toNat + 1 else n
theorem filter_none {f : Int} : ∀ (d i : Nat), (∀ j : Nat, i ≤ j → j < i + d → (j : Int) ≠ f) → (List.range' i d).filter (fun (j : Nat) => decide ((j : Int) = f)) = []
  | 0, _, _ => rfl
  | d + 1, i, h => by
    rw [List.range'_succ, List.filter_cons, if_neg (by simpa using h i (Nat.le_refl _) (by omega))]
    exact filter_none d (i + 1) fun j h1 h2 => h j (by omega) (by omega)
theorem filter_one {f : Nat} : ∀ (d i : Nat), i ≤ f → f < i + d → (List.range' i d).filter (fun (j : Nat) => decide ((j : Int) = (f : Int))) = [f]
  | 0, i, h1, h2 => by omega
  | d + 1, i, h1, h2 => by
    rw [List.range'_succ, List.filter_cons]
    by_cases e : i = f
    · rw [if_pos (decide_eq_true (by omega)), filter_none d (i + 1) (fun j h3 h4 => by omega), e]
    · rw [if_neg (by rw [decide_eq_true_eq]; omega)]
      exact filter_one d (i + 1) (by omega) (by omega)
theorem idxs_eqDS {k n : Nat} {first : Int} (h1 : -1 ≤ first) (h2 : first < n) : (List.range' 0 n).filter (fun i => !skB k i first) = List.range' (frDS k first) (toDS k first n - frDS k first) := by
  unfold frDS toDS
  by_cases hc : k = 0 ∧ 0 ≤ first
  · rw [if_pos hc, if_pos hc, Nat.add_sub_cancel_left]
    have e : (fun i : Nat => !skB k i first) = fun j : Nat => decide ((j : Int) = ((first.toNat : Nat) : Int)) := by
      funext i
      unfold skB
      rw [decide_eq_true hc.1, decide_eq_true hc.2, Bool.true_and, Bool.true_and, show ((first.toNat : Nat) : Int) = first by omega]
      simp
    rw [e, filter_one n 0 (by omega) (by omega)]
    rfl
  · rw [if_neg hc, if_neg hc, Nat.sub_zero]
    refine List.filter_eq_self.2 fun i _ => ?_
    unfold skB
    by_cases h0 : k = 0
    · rw [decide_eq_true h0, decide_eq_false (fun h => hc ⟨h0, h⟩)]
      rfl
    · rw [decide_eq_false h0]
      rfl
theorem idxs_range (k : Nat) (first : Int) (n : Nat) : idxs k first n = (List.range' 0 n).filter (fun i => !skB k i first) := by
  unfold idxs
  rw [List.range_eq_range']
theorem idxs_lt {k : Nat} {first : Int} {n : Nat} : ∀ i ∈ idxs k first n, i < n := by
  intro i hi
  unfold idxs at hi
  exact List.mem_range.1 (List.mem_filter.1 hi).1
theorem outerO_succ (ds : List GDomino) (first budget : Int) (n k : Nat) (s : StD) : outerO ds first budget (n + 1) k s = if k < s.1.length + 1 then (if (k : Int) = budget then ([], 5) else match innerO ds k (idxs k first ds.length) s with
      | .inl s' => outerO ds first budget n (k + 1) s'
      | .inr r => r)
    else if s.2 = true then ([], 3) else ([], 5) := rfl
theorem impl_outerDS {ds : List GDomino} (hD : DsOk ds) {first budget : Int} (h1 : -1 ≤ first) (h2 : first < ds.length) : ∀ (n k : Nat) (L : List Gl32Rest) (wh : Bool) (mp : List (ByteArray × Bool)), 302 ≤ n + k → InvD L → MpOk L mp → k ≤ L.length + 1 →
    ∃ o, run (F_impl_SolveDominoes_L1 ds first budget) (rootI :: L.map conv, mp, !wh, (k : Int)) = some o ∧
      (o = .ret (some (outerO ds first budget n k (L, wh))) ∨ ∃ rs mp' b k', o = .brk (rs, mp', b, k') ∧ outerO ds first budget n k (L, wh) = if b = true then ([], 5) else ([], 3)) := by
  intro n
  induction n with
  | zero =>
    intro k L wh mp hn hL hM hk
    have := hL.len
    omega
  | succ n ih =>
    intro k L wh mp hn hL hM hk
    have hLl := hL.len
    have hn80 := hD.n
    rw [outerO_succ]
    simp only
    have hlen : (rootI :: L.map conv).length = L.length + 1 := by rw [List.length_cons, List.length_map]
    by_cases hkl : k < L.length + 1
    · rw [if_pos hkl]
      have hft : (cond (decide ((k : Int) = 0)) (cond (decide (0 ≤ first)) (some (.brk (first, (w64 (first + 1))))) (some (.brk (0, (ds.length : Int))))) (some (.brk (0, (ds.length : Int)))) : Option (Out (Int × Int) (Option ((List Int) × Int)))) = some (.brk ((frDS k first : Int), (toDS k first ds.length : Int))) := by
        unfold frDS toDS
        by_cases h0 : k = 0
        · rw [decide_eq_true (by omega), cond_true]
          by_cases hf : 0 ≤ first
          · rw [decide_eq_true hf, cond_true, if_pos ⟨h0, hf⟩, if_pos ⟨h0, hf⟩, w64_in (by omega) (by omega), show ((first.toNat : Nat) : Int) = first by omega, show ((first.toNat + 1 : Nat) : Int) = first + 1 by omega]
          · rw [decide_eq_false hf, cond_false, if_neg (fun h => hf h.2), if_neg (fun h => hf h.2)]
            rfl
        · rw [decide_eq_false (by omega), cond_false, if_neg (fun h => h0 h.1), if_neg (fun h => h0 h.1)]
          rfl
      by_cases hb : (k : Int) = budget
      · rw [if_pos hb]
        refine ⟨_, run_done ?_, .inl rfl⟩
        simp only [F_impl_SolveDominoes_L1]
        rw [hlen, decide_eq_true (by omega), cond_true, hft, bnd_some_eq]
        simp only [Out.elim]
        rw [decide_eq_true hb, cond_true, isG21, bnd_some_eq, cond_false, isG22, bnd_some_eq, cond_true]
      · rw [if_neg hb]
        have hto : toDS k first ds.length ≤ ds.length := by
          unfold toDS
          split <;> omega
        have hfr : frDS k first + (toDS k first ds.length - frDS k first) = toDS k first ds.length := by
          unfold toDS frDS
          split <;> omega
        obtain ⟨o, e, ho⟩ := impl_innerDS hD (k := k) hto (rootI :: L.map conv) mp (!wh) (frDS k first : Int) (toDS k first ds.length - frDS k first) (frDS k first) L wh mp hfr hL (by omega) hM
        rw [← idxs_eqDS h1 h2, ← idxs_range] at ho
        cases hin : innerO ds k (idxs k first ds.length) (L, wh) with
        | inl s' =>
          rw [hin] at ho
          obtain ⟨mp', rfl, hM'⟩ := ho
          obtain ⟨hL', hle⟩ := innerO_inv hD _ _ _ idxs_lt hL (by simp only; omega) hin
          simp only at hle
          have hl' : (rootI :: s'.1.map conv).length = s'.1.length + 1 := by rw [List.length_cons, List.length_map]
          have hL'l := hL'.len
          have hbd : F_impl_SolveDominoes_L1 ds first budget (rootI :: L.map conv, mp, !wh, (k : Int)) = some (.inl (rootI :: s'.1.map conv, mp', !s'.2, ((k + 1 : Nat) : Int))) := by
            simp only [F_impl_SolveDominoes_L1]
            rw [hlen, decide_eq_true (by omega), cond_true, hft, bnd_some_eq]
            simp only [Out.elim]
            rw [decide_eq_false hb, cond_false, e, bnd_some_eq]
            simp only [Out.elim]
            rw [hl', decide_eq_false (by omega), cond_false, w64_nat1 (by omega)]
          rw [run_next hbd]
          exact ih (k + 1) s'.1 s'.2 mp' (by omega) hL' hM' (by omega)
        | inr r =>
          rw [hin] at ho
          simp only at ho
          subst ho
          refine ⟨_, run_done ?_, .inl rfl⟩
          simp only [F_impl_SolveDominoes_L1]
          rw [hlen, decide_eq_true (by omega), cond_true, hft, bnd_some_eq]
          simp only [Out.elim]
          rw [decide_eq_false hb, cond_false, e, bnd_some_eq]
          rfl
    · rw [if_neg hkl]
      refine ⟨_, run_done (x := .brk (rootI :: L.map conv, mp, !wh, (k : Int))) ?_, .inr ⟨_, _, _, _, rfl, ?_⟩⟩
      · simp only [F_impl_SolveDominoes_L1]
        rw [hlen, decide_eq_false (by omega), cond_false]
      · cases wh <;> rfl
def solO (ds : List GDomino) (first budget : Int) : List Int × Int :=
  if domsB ds = true then (if inB budget 1 20000 = true ∧ inB first (-1) ((ds.length : Int) - 1) = true then outerO ds first budget 302 0 ([], true) else ([], 2)) else ([], 1)
theorem DsOk.of {ds : List GDomino} (h : domsB ds = true) : DsOk ds := by
  have hl := domsB_len h
  refine ⟨hl.2, fun d hd => ?_⟩
  have hm := domsB_mem h hd
  unfold domsB at h
  simp only [Bool.and_eq_true] at h
  have hb := List.all_eq_true.1 h.2 d hd
  unfold domB at hb
  simp only [Bool.and_eq_true] at hb
  exact ⟨⟨Let9.of hb.1.1, Let9.of hb.1.2⟩, hm⟩
theorem impl_solDS {ds : List GDomino} (s0 : Sml ds) (first budget : Int) : F_impl_SolveDominoes ds first budget = some (solO ds first budget) := by
  unfold F_impl_SolveDominoes solO
  rw [impl_doms ds s0, bnd_some_eq]
  cases hd : domsB ds
  · rfl
  have hl := domsB_len hd
  rw [if_pos rfl, Bool.not_true, cond_false]
  have hb : (bnd (F_impl_budgetOk budget) fun r6 => (cond (!r6) (some (.ret (([] : (List Int)), 2))) (bnd (F_impl_size_impl_Domino ds) fun r9 => bnd (F_impl_within first (-1) (w64 (r9 - 1))) fun r11 => (cond (!r11) (some (.ret (([] : (List Int)), 2))) (some (.brk ())))) : Option (Out (Unit) ((List Int) × Int)))) = some (if inB budget 1 20000 = true ∧ inB first (-1) ((ds.length : Int) - 1) = true then .brk () else .ret ([], 2)) := by
    unfold F_impl_budgetOk F_impl_size_impl_Domino
    rw [impl_in, bnd_some_eq, bnd_some_eq, bnd_some_eq, impl_in, w64_in (by omega) (by omega), bnd_some_eq]
    cases inB budget 1 20000
    · rfl
    · cases inB first (-1) ((ds.length : Int) - 1) <;> rfl
  rw [hb, bnd_some_eq]
  by_cases hc : inB budget 1 20000 = true ∧ inB first (-1) ((ds.length : Int) - 1) = true
  · rw [if_pos hc, if_pos hc]
    have h3 := inB_iff'.1 hc.2
    obtain ⟨o, e, ho⟩ := impl_outerDS (DsOk.of hd) (first := first) (budget := budget) (by omega) (by omega) 302 0 [] true [] (by omega) InvD.nil (fun u w _ => rfl) (by omega)
    simp only [Out.elim]
    rw [show run (F_impl_SolveDominoes_L1 ds first budget) (([(⟨false, ([] : (List Int)), 0, (-1)⟩ : Grest)] : List Grest), ([] : List (ByteArray × Bool)), false, 0) = some o from e, bnd_some_eq]
    rcases ho with rfl | ⟨rs, mp', b, k', rfl, hr⟩
    · rfl
    · rw [hr]
      simp only [Out.elim]
      cases b
      · rw [cond_false, isG11, bnd_some_eq, cond_true]
        rfl
      · rw [cond_true, isG21, bnd_some_eq, cond_false, isG22, bnd_some_eq, cond_true]
        rfl
  · rw [if_neg hc, if_neg hc]
    rfl
end Go.Fn
