/-
  The plain law of FnMatrices. No program in sight. No condition.
-/
import Derived.Test.YtgojoooilijiiaaPMatA
import Derived.Test.YtgojoooilijiiaaPMatB
import Derived.Test.YtgojoooilijiiaaPR8
namespace Go.Fn
open Go Go.Tc
theorem allD_run {ds : List GDomino} {ms : List Int} (hd : domsB ds = true) (hr : rangeB ds.length ms = true) : ∃ k, run (F_laws_FnMatrices_L1 (ds, ms)) (([] : List Int), ([] : List Int), 0) = some (.brk (topsOf ds ms, botsOf ds ms, k)) := by
  have hlen := rangeB_len hr
  have loop := (run_rowf (body := F_laws_FnMatrices_L1 (ds, ms)) ms (by omega) (fun (a : List Int × List Int) i => (a.1, a.2, i)) (fun a k => (a.1 ++ (ds.getD k.toNat zD).Top, a.2 ++ (ds.getD k.toNat zD).Bottom)) (fun i a => a.1.length ≤ i * 400 ∧ a.2.length ≤ i * 400) (fun i hi a ha => by
    have hm := rangeB_mem hr (List.getElem_mem hi)
    have hg := getD_len hd (ms[i]).toNat
    refine ⟨?_, ?_⟩
    · simp only [F_laws_FnMatrices_L1, Int.ofNat_lt, hi, decide_true, cond_true, idx_nat hi, bnd_some_eq]
      rw [idx_getD zD hm.1 hm.2, bnd_some_eq, app_ok (by omega), bnd_some_eq, bnd_some_eq, app_ok (by omega), bnd_some_eq]
    · simp only [List.length_append]
      omega) ([], []) ⟨by simp, by simp⟩).1
  have efold : ∀ (xs : List Int) (a : List Int × List Int), xs.foldl (fun a k => (a.1 ++ (ds.getD k.toNat zD).Top, a.2 ++ (ds.getD k.toNat zD).Bottom)) a = (a.1 ++ topsOf ds xs, a.2 ++ botsOf ds xs) := by
    intro xs
    induction xs with
    | nil => intro a; simp [topsOf, botsOf]
    | cons x xs ih => intro a; rw [List.foldl_cons, ih]; simp [topsOf, botsOf]
  rw [efold] at loop
  simp only [List.nil_append] at loop
  refine ⟨(ms.length : Int), ?_⟩
  rw [loop]
  exact run_done (by simp [F_laws_FnMatrices_L1])
theorem range_part {n : Nat} {ms ns : List Int} (h : rangeB n ms = true) (h1 : 1 ≤ ns.length) (h2 : ns.length ≤ ms.length) (h3 : ∀ x ∈ ns, x ∈ ms) : rangeB n ns = true := by
  have hl := rangeB_len h
  unfold rangeB
  rw [decide_eq_true h1, decide_eq_true (by omega), Bool.true_and, Bool.true_and]
  exact List.all_eq_true.2 fun y hy => inB_iff.2 (by have := rangeB_mem h (h3 y hy); omega)
theorem law_Matrices (c d : List (Ik .u8)) (w0 : Wf.wf c) (w1 : Wf.wf d) : F_laws_FnMatrices c d = some true := by
  unfold F_laws_FnMatrices
  rw [r8_long, bnd_some_eq]
  by_cases hl : 1048576 < c.length
  · rw [decide_eq_true hl, Bool.true_or, cond_true]
  rw [decide_eq_false hl, Bool.false_or]
  by_cases hl2 : 1048576 < d.length
  · rw [decide_eq_true hl2, cond_true]
  rw [decide_eq_false hl2, cond_false]
  have hc := bytes_of w0 (by omega)
  have hdb := bytes_of w1 (by omega)
  obtain ⟨ds, ms, e1, hd, hr, s0⟩ := src_r8Doms hc
  have hdl := domsB_len hd
  have hlen := rangeB_len hr
  have hsym := allD_sym hd hr
  rw [e1, bnd_some_eq]
  simp only
  have hmw : F_impl_MatchWord ds ms = some (matchW ds ms) := by
    unfold F_impl_MatchWord
    rw [impl_doms ds s0, hd, bnd_some_eq, Bool.not_true, cond_false, impl_match ds ms hd (by omega)]
    rfl
  rw [impl_prodOf hd hr s0, bnd_some_eq, hmw, bnd_some_eq]
  unfold resT
  by_cases hf : fitsT (domT (allD ds ms)) = true
  · obtain ⟨s1, s2⟩ := fits_short hf
    have hm : matchW ds ms = cond (decide (topsOf ds ms = botsOf ds ms)) (topsOf ds ms, 0) ([], 6) := by
      unfold matchW
      rw [hr, cond_true, decide_eq_false (by show ¬ 4000 < (allD ds ms).Top.length; omega), decide_eq_false (by show ¬ 4000 < (allD ds ms).Bottom.length; omega)]
      rfl
    have hbal := impl_balanced hf
    have hiff : decide (enc (domT (allD ds ms)).2.2.1 = enc (domT (allD ds ms)).2.2.2) = decide (topsOf ds ms = botsOf ds ms) := by
      rw [decide_eq_decide]
      constructor
      · intro h
        exact vw_inj hsym.1 hsym.2.1 (enc_inj (vw_nonneg hsym.1) (vw_nonneg hsym.2.1) h)
      · intro h
        show enc (vw (topsOf ds ms)) = enc (vw (botsOf ds ms))
        rw [h]
    rw [hiff] at hbal
    have hws := impl_wordsSq hsym hf
    obtain ⟨k, hk⟩ := allD_run hd hr
    have hS : Sml (sqT (domT (allD ds ms))) := sqT_sml hf
    have hrl : F_laws_r8Lists (sqT (domT (allD ds ms))) (sqT (domT (allD ds ms))) = some true := r8_lists hS.1 (fun x hx => (hS.2 x hx).1)
    rw [hf, cond_true, hm]
    have hs1 : F_laws_r8Same (allD ds ms).Top (topsOf ds ms) = some true := r8_same _ (by omega)
    have hs2 : F_laws_r8Same (allD ds ms).Bottom (botsOf ds ms) = some true := r8_same _ (by omega)
    obtain ⟨v, ev, v0, v1⟩ := r8_at hdb 0 (n := (ms.length : Int)) (by omega)
    rw [show ((0 : Nat) : Int) = 0 from rfl] at ev
    have rest : (bnd (run (F_laws_FnMatrices_L1 (ds, ms)) (([] : List Int), ([] : List Int), 0)) (Out.elim (fun (s31 : (List Int) × (List Int) × Int) => bnd (bnd (F_laws_r8Same (allD ds ms).Top s31.1) fun r60 => (cond (!r60) (some (.ret false)) (bnd (F_laws_r8Same (allD ds ms).Bottom s31.2.1) fun r63 => (cond (!r63) (some (.ret false)) (some (.brk ()))))) : Option (Out (Unit) Bool)) (Out.elim (fun (s58 : Unit) => bnd (F_laws_r8At d 0 (ms.length : Int)) fun r66 => (cond (decide (0 < r66)) (bnd (slc ms 0 r66) fun z69 => bnd (F_impl_ProductOf ds z69) fun r72 => bnd (slc ms r66 (ms.length : Int)) fun z75 => bnd (F_impl_ProductOf ds z75) fun r78 => bnd (F_impl_MultiplySquares r72.1 r78.1) fun r81 => (cond (decide (r72.2 ≠ 0)) (some false) (cond (decide (r78.2 ≠ 0)) (some false) (cond (decide (r81.2 ≠ 0)) (some false) (bnd (F_laws_r8Lists r81.1 (sqT (domT (allD ds ms)))) fun r87 => some r87))))) (bnd (F_laws_r8Lists (sqT (domT (allD ds ms))) (sqT (domT (allD ds ms)))) fun r89 => some r89))) (fun (r : Bool) => some r))) (fun (r : Bool) => some r))) = some true := by
      rw [hk, bnd_some_eq]
      simp only [Out.elim]
      rw [hs1, bnd_some_eq, Bool.not_true, cond_false, hs2, bnd_some_eq, Bool.not_true, cond_false, bnd_some_eq]
      simp only [Out.elim]
      rw [ev, bnd_some_eq]
      by_cases hv : 0 < v
      · rw [decide_eq_true hv, cond_true]
        obtain ⟨n, rfl⟩ : ∃ n : Nat, v = n := ⟨v.toNat, by omega⟩
        have hn : n ≤ ms.length := by omega
        have r1 : rangeB ds.length (ms.take n) = true := range_part hr (by rw [List.length_take]; omega) (by rw [List.length_take]; omega) (fun x hx => List.mem_of_mem_take hx)
        have r2 : rangeB ds.length (ms.drop n) = true := range_part hr (by rw [List.length_drop]; omega) (by rw [List.length_drop]; omega) (fun x hx => List.mem_of_mem_drop hx)
        have k1 := okT_dom (allD_sym hd r1)
        have k2 := okT_dom (allD_sym hd r2)
        have hcat : domT (allD ds ms) = mulT (domT (allD ds (ms.take n))) (domT (allD ds (ms.drop n))) := by
          rw [← domT_cat, ← allD_app, List.take_append_drop]
        have hfm := hf
        rw [hcat] at hfm
        obtain ⟨f1, f2⟩ := fits_mul k1 k2 hfm
        rw [slc0 hn, bnd_some_eq, impl_prodOf hd r1 s0, bnd_some_eq, slc_from hn, bnd_some_eq, impl_prodOf hd r2 s0, bnd_some_eq]
        unfold resT
        rw [f1, f2]
        simp only [cond_true]
        rw [impl_mulSq f1 f2 k1 k2 hfm, bnd_some_eq, ← hcat, hrl]
        rfl
      · rw [decide_eq_false hv, cond_false, hrl]
        rfl
    by_cases he : topsOf ds ms = botsOf ds ms
    · rw [decide_eq_true he] at hbal ⊢
      simp only [cond_true, decide_eq_false (by decide : ¬ (0 : Int) = 5), cond_false, bnd_some_eq, Out.elim]
      rw [hws, bnd_some_eq, hbal]
      simp only [ne_eq, not_true, decide_false, cond_false, bnd_some_eq, Out.elim, decide_true, bne_self_eq_false]
      exact rest
    · rw [decide_eq_false he] at hbal ⊢
      simp only [cond_false, decide_eq_false (by decide : ¬ (0 : Int) = 5), decide_eq_false (by decide : ¬ (6 : Int) = 5), bnd_some_eq, Out.elim]
      rw [hws, bnd_some_eq, hbal]
      simp only [ne_eq, not_true, decide_false, cond_false, bnd_some_eq, Out.elim, decide_eq_false (by decide : ¬ (6 : Int) = 0), bne_self_eq_false, not_false_eq_true, decide_true, cond_true]
      exact rest
  · have hf' : fitsT (domT (allD ds ms)) = false := by simpa using hf
    rw [hf', cond_false]
    rfl
end Go.Fn
