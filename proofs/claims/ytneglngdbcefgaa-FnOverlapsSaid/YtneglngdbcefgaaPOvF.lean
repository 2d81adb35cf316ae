/-
  The plain law of FnOverlaps, whole. No program in sight. No condition.
-/
import Derived.Test.YtneglngdbcefgaaPOvL
namespace Go.Fn
open Go Go.Tc
theorem impl_areJ {rs : List GRewrite} {f t : List Int} (b : Int) (hr : rewsB rs = true) (hs : Sml rs) (hf : wordB f = true) (ht : wordB t = true) (hb : inB b 1 20000 = true) :
    F_impl_AreJoinable rs f t b = some (jv (sch rs f b).1 (sch rs t b).1 (sch rs f b).2 (sch rs t b).2) := by
  have s1 : Sml f := ⟨by have := wordB_len hf; omega, fun _ _ => trivial⟩
  have s2 : Sml t := ⟨by have := wordB_len ht; omega, fun _ _ => trivial⟩
  unfold F_impl_AreJoinable F_impl_searchCode F_impl_budgetOk
  rw [impl_rews rs hs, two_words f t s1 s2, impl_in, hr, hf, ht, hb]
  have k0 : decide ((0 : Int) ≠ 0) = false := rfl
  simp only [Bool.not_true, Bool.and_self, cond_false, bnd_some_eq, Out.elim, k0]
  obtain ⟨n1, h1, e1⟩ := impl_searched (b := b) hr hf
  obtain ⟨n2, h2, e2⟩ := impl_searched (b := b) hr ht
  obtain ⟨_, pG, pl, _⟩ := sch_props (b := b) hr hf
  obtain ⟨_, qG, ql, _⟩ := sch_props (b := b) hr ht
  rw [e1, e2]
  simp only [bnd_some_eq]
  exact (imF_eq h1 h2 pG qG _).trans (jv_end _ _ _ _)
theorem succ_run2 (ms : List Gmove) (b : Bool) (hm : ∀ m ∈ ms, wordB m.word = true) (hn : ms.length ≤ 100000) : ∀ (n i : Nat) (seen : List (ByteArray × Bool)) (out : List (List Int)), i + n = ms.length → out.length ≤ i → (∀ x ∈ out, wordB x = true) → (∀ x, wordB x = true → (mget seen (keyW x)).getD false = true → x ∈ out) →
    ∃ seen' out', run (F_impl_SuccessorsOf_L1 (ms, b)) (seen, out, (i : Int)) = some (.brk (seen', out', (ms.length : Int))) ∧ (∀ x ∈ out, x ∈ out') ∧ out'.length ≤ ms.length ∧ (∀ x ∈ out', wordB x = true) ∧ ∀ j (hj : j < ms.length), i ≤ j → ms[j].word ∈ out' := by
  intro n
  induction n with
  | zero =>
    intro i seen out hi ho hx hsn
    obtain rfl : i = ms.length := by omega
    refine ⟨seen, out, run_done ?_, fun _ h => h, ho, hx, fun j hj h => by omega⟩
    simp only [F_impl_SuccessorsOf_L1]
    rw [decide_eq_false (by omega), cond_false]
  | succ n ih =>
    intro i seen out hi ho hx hsn
    have hlt : i < ms.length := by omega
    have hw := hm _ (List.getElem_mem hlt)
    have hwl := wordB_len hw
    have hb : F_impl_SuccessorsOf_L1 (ms, b) (seen, out, (i : Int)) = cond (!((mget seen (keyW ms[i].word)).getD false)) (some (.inl (mput seen (keyW ms[i].word) true, out ++ [ms[i].word], ((i + 1 : Nat) : Int)))) (some (.inl (seen, out, ((i + 1 : Nat) : Int)))) := by
      simp only [F_impl_SuccessorsOf_L1]
      rw [decide_eq_true (by omega), cond_true, idx_nat hlt, bnd_some_eq, impl_key _ (by omega), bnd_some_eq, app_ok (by simp; omega), bnd_some_eq, w64_nat1 (by omega)]
    cases hs : (mget seen (keyW ms[i].word)).getD false
    · rw [hs, Bool.not_false, cond_true] at hb
      obtain ⟨s', o', e, q1, q2, q3, q4⟩ := ih (i + 1) (mput seen (keyW ms[i].word) true) (out ++ [ms[i].word]) (by omega) (by simp; omega) (fun x hx' => by
        rcases List.mem_append.1 hx' with h | h
        · exact hx x h
        · rw [List.mem_singleton.1 h]; exact hw) (fun x hxw hget => by
        rw [mget_mput] at hget
        by_cases hk : keyW ms[i].word = keyW x
        · have := keyW_inj (wordB_letters hw) (wordB_letters hxw) hk
          rw [← this]
          exact List.mem_append_right _ (List.mem_singleton.2 rfl)
        · rw [if_neg hk] at hget
          exact List.mem_append_left _ (hsn x hxw hget))
      refine ⟨s', o', by rw [run_next hb, e], fun x h => q1 x (List.mem_append_left _ h), q2, q3, fun j hj hij => ?_⟩
      by_cases he : j = i
      · subst he
        exact q1 _ (List.mem_append_right _ (List.mem_singleton.2 rfl))
      · exact q4 j hj (by omega)
    · rw [hs, Bool.not_true, cond_false] at hb
      obtain ⟨s', o', e, q1, q2, q3, q4⟩ := ih (i + 1) seen out (by omega) (by omega) hx hsn
      refine ⟨s', o', by rw [run_next hb, e], q1, q2, q3, fun j hj hij => ?_⟩
      by_cases he : j = i
      · subst he
        exact q1 _ (hsn _ hw hs)
      · exact q4 j hj (by omega)
theorem impl_succ2 {rs : List GRewrite} {w : List Int} (hr : rewsB rs = true) (hs : Sml rs) (hw : wordB w = true) : ∃ out, F_impl_SuccessorsOf rs w = some (out, 0) ∧ out.length ≤ 100000 ∧ (∀ x ∈ out, wordB x = true) ∧ ∀ m ∈ movesL rs w, m.word ∈ out := by
  have hwl := wordB_len hw
  have hml := movesL_len hr hwl
  unfold F_impl_SuccessorsOf
  rw [impl_rews rs hs, hr, impl_word w (by omega), hw, impl_moves hr hwl]
  simp only [bnd_some_eq, Bool.not_true, cond_false, Out.elim]
  obtain ⟨s', o', e, _, q2, q3, q4⟩ := succ_run2 (movesL rs w) (tooL rs w) (fun m hm => mv_word hr hw hm) (by omega) (movesL rs w).length 0 [] [] (by omega) (by simp) (fun x hx => by simp at hx) (fun x _ h => by simp [mget] at h)
  rw [show ((0 : Nat) : Int) = 0 from rfl] at e
  rw [e, bnd_some_eq]
  refine ⟨o', rfl, by omega, q3, fun m hm => ?_⟩
  obtain ⟨j, hj, rfl⟩ := List.mem_iff_getElem.1 hm
  exact q4 j hj (Nat.zero_le _)
noncomputable def jnB (rs : List GRewrite) (x : List (List Int)) : Bool := jn (sch rs (x.getD 1 []) 40).1 (sch rs (x.getD 2 []) 40).1
theorem ovAll_mem {rs : List GRewrite} (x : List (List Int)) : x ∈ ovAll rs ↔ ∃ (i k s : Nat) (hi : i < rs.length) (hk : k < rs.length), 1 ≤ s ∧ s ≤ rs[i].From.length ∧ s ≤ rs[k].From.length ∧ okO rs[i] rs[k] (decide (i = k)) s = true ∧ x = trip rs[i] rs[k] s := by
  have g : ∀ i (hi : i < rs.length), rs.getD i zR = rs[i] := fun i hi => by rw [List.getD_eq_getElem?_getD, List.getElem?_eq_getElem hi]; rfl
  unfold ovAll
  rw [List.mem_flatMap]
  constructor
  · rintro ⟨i, hi, hx⟩
    obtain ⟨k, hk, hx⟩ := List.mem_flatMap.1 hx
    have hi := List.mem_range.1 hi
    have hk := List.mem_range.1 hk
    rw [g i hi, g k hk] at hx
    obtain ⟨s, h1, h2, h3, h4⟩ := (ovs_mem _ _ _ _ x).1 hx
    exact ⟨i, k, s, hi, hk, h1, by omega, by omega, h3, h4⟩
  · rintro ⟨i, k, s, hi, hk, h1, h2, h2', h3, h4⟩
    refine ⟨i, List.mem_range.2 hi, ?_⟩
    rw [List.mem_flatMap]
    refine ⟨k, List.mem_range.2 hk, ?_⟩
    rw [g i hi, g k hk]
    exact (ovs_mem _ _ _ _ x).2 ⟨s, h1, by omega, h3, h4⟩
theorem jn_jbl {rs : List GRewrite} {x y : List Int} (b : Int) (hr : rewsB rs = true) (hx : wordB x = true) (hy : wordB y = true) (h : jn (sch rs x b).1 (sch rs y b).1 = true) : jbl rs x y := by
  unfold jn at h
  obtain ⟨g, hg, h⟩ := List.any_eq_true.1 h
  obtain ⟨g', hg', h⟩ := List.any_eq_true.1 h
  have h := of_decide_eq_true h
  refine ⟨g.move_word, (sch_gen b hr hx).1 g hg, ?_⟩
  rw [← h]
  exact (sch_gen b hr hy).1 g' hg'
theorem stp_short {rs : List GRewrite} (hd : ∀ r ∈ rs, ShrD r) (u v : List Int) (h : stp rs u v) : v.length < u.length := by
  obtain ⟨r, hr, x, y, rfl, rfl⟩ := h
  have := (hd r hr).2.2.2.2
  simp only [List.length_append]
  omega
theorem ov_loop {rs : List GRewrite} (h1 : 1 ≤ rs.length) (h3 : rs.length ≤ 3) (hd : ∀ r ∈ rs, ShrD r) (w : List Int) : run (F_laws_FnOverlaps_L1 (rs, w) (ovAll rs, 0)) (true, 0) = some (.brk ((ovAll rs).all (jnB rs), ((ovAll rs).length : Int))) := by
  obtain ⟨hr, hs⟩ := rewsB_drawn h1 (by omega) (fun r h => (hd r h).rule)
  have hlen : (ovAll rs).length ≤ 1000 := by
    unfold ovAll
    have one : ∀ i k, (ovl (rs.getD i zR) (rs.getD k zR) (decide (i = k))).length ≤ 3 := by
      intro i k
      have := ovs_len (rs.getD i zR) (rs.getD k zR) (decide (i = k)) (min (rs.getD i zR).From.length (rs.getD k zR).From.length)
      have hl : (rs.getD i zR).From.length ≤ 3 := by
        rw [List.getD_eq_getElem?_getD]
        cases h : rs[i]? with
        | none => simp [zR]
        | some r => exact (hd r (List.mem_of_getElem? h)).2.2.2.1
      unfold ovl
      omega
    have two : ∀ (i : Nat) (ks : List Nat), (ks.flatMap fun k => ovl (rs.getD i zR) (rs.getD k zR) (decide (i = k))).length ≤ 3 * ks.length := by
      intro i ks
      induction ks with
      | nil => simp
      | cons k ks ih =>
        have := one i k
        rw [List.flatMap_cons, List.length_append, List.length_cons]
        omega
    have three : ∀ is : List Nat, (is.flatMap fun i => (List.range rs.length).flatMap fun k => ovl (rs.getD i zR) (rs.getD k zR) (decide (i = k))).length ≤ 9 * is.length := by
      intro is
      induction is with
      | nil => simp
      | cons i is ih =>
        have := two i (List.range rs.length)
        rw [List.length_range] at this
        rw [List.flatMap_cons, List.length_append, List.length_cons]
        omega
    have := three (List.range rs.length)
    rw [List.length_range] at this
    omega
  have loop := (run_rowf (body := F_laws_FnOverlaps_L1 (rs, w) (ovAll rs, 0)) (ovAll rs) (by omega) (fun (a : Bool) i => (a, i)) (fun a x => a && jnB rs x) (fun _ _ => True) (fun j hj a _ => by
    refine ⟨?_, trivial⟩
    obtain ⟨i, k, s, hi, hk, s1, s2, s3, hok, hx⟩ := (ovAll_mem _).1 (List.getElem_mem hj)
    have ha := hd _ (List.getElem_mem hi)
    have hb := hd _ (List.getElem_mem hk)
    obtain ⟨tw, _⟩ := trip_words ha hb s
    have tw' := tw
    unfold trip at tw'
    simp only [List.all_cons, List.all_nil, Bool.and_true, Bool.and_eq_true] at tw'
    obtain ⟨t0, t1, t2⟩ := tw'
    unfold okO at hok
    rw [Bool.and_eq_true, decide_eq_true_eq] at hok
    have hsplit : rs[i].From ++ rs[k].From.drop s = rs[i].From.take (rs[i].From.length - s) ++ rs[k].From := by
      conv => lhs; rw [← List.take_append_drop (rs[i].From.length - s) rs[i].From, hok.2, List.append_assoc, List.take_append_drop]
    have hto : ∀ r ∈ rs, r.To.length ≤ r.From.length := fun r h => by have := (hd r h).2.2.2.2; omega
    have hwl := wordB_len t0
    obtain ⟨out, eo, ol, ow, om⟩ := impl_succ2 hr hs t0
    obtain ⟨m1, hm1, e1⟩ := move_stp hto hwl (show stp rs (rs[i].From ++ rs[k].From.drop s) (rs[i].To ++ rs[k].From.drop s) from ⟨rs[i], List.getElem_mem hi, [], rs[k].From.drop s, rfl, rfl⟩)
    obtain ⟨m2, hm2, e2⟩ := move_stp hto hwl (show stp rs (rs[i].From ++ rs[k].From.drop s) (rs[i].From.take (rs[i].From.length - s) ++ rs[k].To) from ⟨rs[k], List.getElem_mem hk, rs[i].From.take (rs[i].From.length - s), [], by rw [hsplit, List.append_nil], by rw [List.append_nil]⟩)
    have b1 : F_laws_b10Row out (rs[i].To ++ rs[k].From.drop s) = some true := by
      rw [b10Row_mem _ _ (by omega) (fun r h => by have := wordB_len (ow r h); omega)]
      congr 1
      exact List.any_eq_true.2 ⟨_, om m1 hm1, decide_eq_true e1⟩
    have b2 : F_laws_b10Row out (rs[i].From.take (rs[i].From.length - s) ++ rs[k].To) = some true := by
      rw [b10Row_mem _ _ (by omega) (fun r h => by have := wordB_len (ow r h); omega)]
      congr 1
      exact List.any_eq_true.2 ⟨_, om m2 hm2, decide_eq_true e2⟩
    have hj' := impl_areJ 40 hr hs t1 t2 rfl
    have hJ : jnB rs (ovAll rs)[j] = jn (sch rs (rs[i].To ++ rs[k].From.drop s) 40).1 (sch rs (rs[i].From.take (rs[i].From.length - s) ++ rs[k].To) 40).1 := by
      rw [hx]
      rfl
    rw [hJ]
    simp only [F_laws_FnOverlaps_L1]
    rw [decide_eq_true (by omega), cond_true, idx_nat hj, bnd_some_eq, hx]
    have i0 : idx (trip rs[i] rs[k] s) 0 = some (rs[i].From ++ rs[k].From.drop s) := rfl
    have i1 : idx (trip rs[i] rs[k] s) 1 = some (rs[i].To ++ rs[k].From.drop s) := rfl
    have i2 : idx (trip rs[i] rs[k] s) 2 = some (rs[i].From.take (rs[i].From.length - s) ++ rs[k].To) := rfl
    rw [decide_eq_false (by simp [trip]), cond_false, bnd_some_eq, i0, bnd_some_eq, eo, bnd_some_eq, decide_eq_false (fun h => h rfl), cond_false, bnd_some_eq, i1, bnd_some_eq, b1, bnd_some_eq, Bool.not_true, cond_false, bnd_some_eq, i2, bnd_some_eq, b2, bnd_some_eq, Bool.not_true, cond_false, bnd_some_eq]
    simp only [Out.elim, bnd_some_eq]
    rw [i1, bnd_some_eq, i2, bnd_some_eq, hj', bnd_some_eq]
    unfold jv
    cases a
    · rfl
    · cases jn (sch rs (rs[i].To ++ rs[k].From.drop s) 40).1 (sch rs (rs[i].From.take (rs[i].From.length - s) ++ rs[k].To) 40).1
      · cases (sch rs (rs[i].To ++ rs[k].From.drop s) 40).2 <;> cases (sch rs (rs[i].From.take (rs[i].From.length - s) ++ rs[k].To) 40).2 <;> rfl
      · rfl) true trivial).1
  have efold : ∀ (xs : List (List (List Int))) (a : Bool), xs.foldl (fun a x => a && jnB rs x) a = (a && xs.all (jnB rs)) := by
    intro xs
    induction xs with
    | nil => intro a; simp
    | cons x xs ih => intro a; rw [List.foldl_cons, ih, List.all_cons, Bool.and_assoc]
  rw [efold, Bool.true_and] at loop
  rw [loop]
  exact run_done (by simp [F_laws_FnOverlaps_L1])
theorem law_Overlaps (c : List (Ik .u8)) (w0 : Wf.wf c) : F_laws_FnOverlaps c = some true := by
  unfold F_laws_FnOverlaps F_laws_b10Long
  simp only [bnd_some_eq]
  by_cases hc : 1048576 < c.length
  · rw [decide_eq_true (by omega)]; rfl
  rw [decide_eq_false (by omega), cond_false]
  obtain ⟨rs, w, e, h1, h3, hd, hwl, hw7⟩ := src_shr (bytes_of w0 (by omega))
  obtain ⟨hr, hs⟩ := rewsB_drawn h1 (by omega) (fun r h => (hd r h).rule)
  have hw : wordB w = true := by
    unfold wordB
    rw [decide_eq_true (by omega), Bool.true_and]
    exact List.all_eq_true.2 fun x hx => inB_iff.2 (by have := hwl x hx; omega)
  have sw : Sml w := ⟨by omega, fun _ _ => trivial⟩
  rw [e, bnd_some_eq]
  simp only
  rw [impl_ovAll h1 h3 hd, bnd_some_eq, decide_eq_false (fun h => h rfl), cond_false, ov_loop h1 h3 hd w, bnd_some_eq]
  simp only [Out.elim]
  obtain ⟨q, q1, q2, q3, _⟩ := nf_ex2 rs w 200 hs sw
  have hq := q3 hr hw rfl
  rw [q2, q1, bnd_some_eq, bnd_some_eq, hq]
  obtain ⟨g1, g2, g3, g4⟩ := sch_gen 200 hr hw
  obtain ⟨_, pG, _, _⟩ := sch_props (b := 200) hr hw
  simp only
  rw [decide_eq_false (by decide), cond_false]
  cases hcm : (sch rs w 200).2
  · rfl
  · rw [Bool.not_true, cond_false]
    have g4 := g4 hcm
    have hto : ∀ r ∈ rs, r.To.length ≤ r.From.length := fun r h => by have := (hd r h).2.2.2.2; omega
    have hsh := stp_short hd
    have clos : ∀ u v, Rch rs u v → u ∈ wF (sch rs w 200).1 → v ∈ wF (sch rs w 200).1 := by
      intro u v h
      induction h with
      | refl u => exact fun h => h
      | head hst _ ih =>
        intro hu
        apply ih
        obtain ⟨g, hg, e⟩ := List.mem_map.1 hu
        have hwg := wordB_len (pG g hg)
        rw [show g.move_word = _ from e] at hwg
        obtain ⟨m, hm, rfl⟩ := move_stp hto hwg hst
        exact g4 _ hu m hm
    obtain ⟨v, v1, v2⟩ := nf_ex hsh w.length w (Nat.le_refl _)
    have hv : v ∈ (wF (sch rs w 200).1).filter (normB rs) := List.mem_filter.2 ⟨clos w v v1 g3, (normB_nrm v).2 v2⟩
    have hpos : 0 < ((wF (sch rs w 200).1).filter (normB rs)).length := List.length_pos_of_mem hv
    rw [decide_eq_true (by omega), cond_true]
    cases hall : (ovAll rs).all (jnB rs)
    · rfl
    · rw [Bool.not_true, cond_false]
      have hcp : cps rs := by
        intro i k hi hk t c e ea eb hne hns
        have ha := hd _ (List.getElem_mem hi)
        have hb := hd _ (List.getElem_mem hk)
        have la : rs[i].From.length = t.length + c.length := by rw [ea, List.length_append]
        have lb : rs[k].From.length = c.length + e.length := by rw [eb, List.length_append]
        have hcl : 1 ≤ c.length := by
          cases c with
          | nil => exact absurd rfl hne
          | cons _ _ => simp
        have d1 : rs[i].From.drop (rs[i].From.length - c.length) = c := by
          rw [la, Nat.add_sub_cancel, ea, List.drop_left' rfl]
        have d2 : rs[i].From.take (rs[i].From.length - c.length) = t := by
          rw [la, Nat.add_sub_cancel, ea, List.take_left' rfl]
        have d3 : rs[k].From.take c.length = c := by rw [eb, List.take_left' rfl]
        have d4 : rs[k].From.drop c.length = e := by rw [eb, List.drop_left' rfl]
        have hok : okO rs[i] rs[k] (decide (i = k)) c.length = true := by
          unfold okO
          rw [d1, d3, decide_eq_true rfl, Bool.and_true]
          by_cases hik : i = k
          · rw [decide_eq_true hik, Bool.true_and, decide_eq_false]
            · rfl
            · intro he
              apply hns
              exact ⟨hik, List.eq_nil_of_length_eq_zero (by omega)⟩
          · rw [decide_eq_false hik, Bool.false_and]
            rfl
        have hmem : trip rs[i] rs[k] c.length ∈ ovAll rs := (ovAll_mem _).2 ⟨i, k, c.length, hi, hk, hcl, by omega, by omega, hok, rfl⟩
        have hJ := List.all_eq_true.1 hall _ hmem
        have hJ' : jn (sch rs (rs[i].To ++ rs[k].From.drop c.length) 40).1 (sch rs (rs[i].From.take (rs[i].From.length - c.length) ++ rs[k].To) 40).1 = true := hJ
        obtain ⟨tw, _⟩ := trip_words ha hb c.length
        unfold trip at tw
        simp only [List.all_cons, List.all_nil, Bool.and_true, Bool.and_eq_true] at tw
        have hj := jn_jbl 40 hr tw.2.1 tw.2.2 hJ'
        rw [d4, d2] at hj
        exact hj
      have huni : ∀ x ∈ (wF (sch rs w 200).1).filter (normB rs), x = v := by
        intro x hx
        obtain ⟨x1, x2⟩ := List.mem_filter.1 hx
        obtain ⟨g, hg, rfl⟩ := List.mem_map.1 x1
        exact newman hsh (fun u p q hp hq => lc_all hcp (fun r h => ⟨(hd r h).2.2.1, (hd r h).2.2.2.1⟩) hp hq) w.length w (Nat.le_refl _) _ _ (g1 g hg) v1 ((normB_nrm _).1 x2) v2
      have hnd : ((wF (sch rs w 200).1).filter (normB rs)).Nodup := g2.filter _
      have hone : ((wF (sch rs w 200).1).filter (normB rs)).length = 1 := by
        generalize (wF (sch rs w 200).1).filter (normB rs) = L at huni hnd hpos
        match L, huni, hnd, hpos with
        | [a], _, _, _ => rfl
        | a :: b :: l, huni, hnd, _ =>
          exfalso
          have e1 := huni a (by simp)
          have e2 := huni b (by simp)
          rw [List.nodup_cons] at hnd
          exact hnd.1 (by rw [e1, e2]; simp)
      rw [decide_eq_true (by omega)]
end Go.Fn
