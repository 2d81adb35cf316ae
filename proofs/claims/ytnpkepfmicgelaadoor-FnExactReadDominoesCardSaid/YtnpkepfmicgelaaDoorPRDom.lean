/-
  Dominoes read back from their text: both readings find the one list with this text, if there is one. No program in sight. No condition.
-/
import Derived.Test.YtnpkepfmicgelaaDoorPDTxt
import Derived.Test.YtnpkepfmicgelaaDoorPSplt
namespace Go.Fn
open Go Go.Tc
/-! ### Words -/
def isD (x : UInt8) : Bool := decide (48 ≤ x.toNat) && decide (x.toNat ≤ 57)
def dv (x : UInt8) : Int := (x.toNat : Int) - 48
theorem isD_iff {x : UInt8} : isD x = true ↔ 48 ≤ x.toNat ∧ x.toNat ≤ 57 := by
  unfold isD
  rw [Bool.and_eq_true, decide_eq_true_eq, decide_eq_true_eq]
theorem isD_no {x : UInt8} (h : isD x = false) : x.toNat < 48 ∨ 57 < x.toNat := by
  by_cases h1 : 48 ≤ x.toNat ∧ x.toNat ≤ 57
  · rw [isD_iff.2 h1] at h
    cases h
  · omega
def rdI (l : List UInt8) : List Int × Bool := if l = [45] then ([], true) else if (l.all isD && decide (0 < l.length) && decide (l.length ≤ 400)) = true then (l.map dv, true) else ([], false)
def rdS (l : List UInt8) : List Int × Bool := if l = [45] then ([], true) else if l.all isD = true then (l.map dv, decide (0 < l.length) && decide (l.length ≤ 400)) else ([], false)
theorem eq_dash (b : ByteArray) : decide (b = (⟨#[45]⟩ : ByteArray)) = decide (lb b = [45]) := by
  rw [decide_eq_decide]
  exact ⟨fun h => by rw [h]; rfl, fun h => lb_ext h⟩
theorem foldl_dv (l : List UInt8) (a : List Int) : l.foldl (fun s x => s ++ [dv x]) a = a ++ l.map dv := foldl_list dv l a
theorem byte_val {x : UInt8} (h : isD x = true) : w64 (wk .u8 ((x.toNat : Int) - 48)) = dv x := by
  have := isD_iff.1 h
  rw [wk_u8 (by omega) (by omega), w64_in (by omega) (by omega)]
  rfl
theorem impl_digits_run (b : ByteArray) (hb : b.size ≤ 1073741824) : F_impl_readDigits b = some (if (lb b).all isD = true then ((lb b).map dv, true) else ([], false)) := by
  unfold F_impl_readDigits
  have hl := lb_len b
  obtain ⟨h1, h2⟩ := run_rowx (body := F_impl_readDigits_L1 b) (lb b) (by omega) (fun (a : List Int) i => (a, i)) (fun s x => s ++ [dv x]) isD (.ret ([], false)) (fun i a => a.length = i) (fun i hi a hk hp => by
    have hp' := isD_iff.1 hp
    refine ⟨?_, by rw [List.length_append, List.length_singleton, hk]⟩
    simp only [F_impl_readDigits_L1]
    rw [decide_eq_true (by omega), cond_true, bidx_lb hi, bnd_some_eq, decide_eq_false (by omega), cond_false, bnd_some_eq, decide_eq_false (by omega), cond_false, bnd_some_eq, byte_val hp, app_ok (by simp; omega), bnd_some_eq]) (fun i hi a hk hp => by
    simp only [F_impl_readDigits_L1]
    rw [decide_eq_true (by omega), cond_true, bidx_lb hi, bnd_some_eq]
    rcases isD_no hp with hp | hp
    · rw [decide_eq_true (by omega), cond_true]
    · rw [decide_eq_false (by omega), cond_false, bnd_some_eq, decide_eq_true (by omega), cond_true]) [] rfl
  cases ha : (lb b).all isD with
  | false => rw [h1 ha, bnd_some_eq]; rfl
  | true =>
    rw [(h2 ha).1, foldl_dv, List.nil_append, run_done (x := .brk ((lb b).map dv, ((lb b).length : Int))) (by simp only [F_impl_readDigits_L1]; rw [decide_eq_false (by omega), cond_false]), bnd_some_eq]
    rfl
theorem impl_rd (b : ByteArray) (hb : b.size ≤ 1073741824) : F_impl_ReadWord b = some (rdI (lb b)) := by
  unfold F_impl_ReadWord rdI
  rw [str_beq, eq_dash]
  by_cases h0 : lb b = [45]
  · rw [decide_eq_true h0, cond_true, if_pos h0]
  · rw [decide_eq_false h0, cond_false, if_neg h0, impl_digits_run b hb, bnd_some_eq]
    cases ha : (lb b).all isD with
    | false => rfl
    | true =>
      have hm : ((lb b).map dv).length = (lb b).length := List.length_map ..
      simp only [if_true, Bool.not_true, cond_false, Bool.true_and]
      rw [hm]
      by_cases h1 : (lb b).length = 0
      · rw [decide_eq_true (by omega), cond_true, decide_eq_false (by omega), if_neg (by simp)]
      · rw [decide_eq_false (by omega), cond_false, decide_eq_true (by omega : 0 < (lb b).length)]
        by_cases h2 : (lb b).length ≤ 400
        · rw [decide_eq_false (by omega), cond_false, decide_eq_true h2, if_pos (by rfl)]
        · rw [decide_eq_true (by omega), cond_true, decide_eq_false h2, if_neg (by simp)]
theorem spec_rd (b : ByteArray) (hb : b.size ≤ 1073741824) : F_spec_l03Read b = some (rdS (lb b)) := by
  have hl := lb_len b
  unfold F_spec_l03Read rdS
  rw [str_beq, eq_dash]
  by_cases h0 : lb b = [45]
  · rw [decide_eq_true h0, cond_true, if_pos h0]
  · rw [decide_eq_false h0, cond_false, if_neg h0]
    have hdig : ∀ x : UInt8, F_spec_l01Digit (⟨(x.toNat : Int)⟩ : Ik .u8) = some (isD x) := by
      intro x
      unfold F_spec_l01Digit isD
      by_cases h1 : 48 ≤ x.toNat
      · rw [decide_eq_true (by simp only; omega : 48 ≤ (⟨(x.toNat : Int)⟩ : Ik .u8).val), cond_true, decide_eq_true h1, Bool.true_and]
        congr 1
        rw [decide_eq_decide]
        simp only
        omega
      · rw [decide_eq_false (by simp only; omega : ¬ 48 ≤ (⟨(x.toNat : Int)⟩ : Ik .u8).val), cond_false, decide_eq_false h1, Bool.false_and]
    obtain ⟨h1, h2⟩ := run_rowx (body := F_spec_l03Read_L1 b) (lb b) (by omega) (fun (a : List Int) i => (a, i)) (fun s x => s ++ [dv x]) isD (.ret ([], false)) (fun i a => a.length = i) (fun i hi a hk hp => by
      refine ⟨?_, by rw [List.length_append, List.length_singleton, hk]⟩
      simp only [F_spec_l03Read_L1]
      rw [decide_eq_true (by omega), cond_true, bidx_lb hi, bnd_some_eq, hdig, hp, bnd_some_eq, Bool.not_true, cond_false, bnd_some_eq, byte_val hp, app_ok (by simp; omega), bnd_some_eq]) (fun i hi a hk hp => by
      simp only [F_spec_l03Read_L1]
      rw [decide_eq_true (by omega), cond_true, bidx_lb hi, bnd_some_eq, hdig, hp, bnd_some_eq, Bool.not_false, cond_true]) [] rfl
    cases ha : (lb b).all isD with
    | false => rw [h1 ha, bnd_some_eq]; rfl
    | true =>
      have hm : ((lb b).map dv).length = (lb b).length := List.length_map ..
      rw [(h2 ha).1, foldl_dv, List.nil_append, run_done (x := .brk ((lb b).map dv, ((lb b).length : Int))) (by simp only [F_spec_l03Read_L1]; rw [decide_eq_false (by omega), cond_false]), bnd_some_eq]
      simp only [Out.elim, if_true]
      rw [hm]
      by_cases h1 : (lb b).length = 0
      · rw [decide_eq_false (by omega), cond_false, decide_eq_false (by omega), Bool.false_and]
      · rw [decide_eq_true (by omega), cond_true, decide_eq_true (by omega : 0 < (lb b).length), Bool.true_and]
        congr 2
        rw [decide_eq_decide]
        omega
/-- A word's text is read as the word. -/
theorem lb_wtxt {w : List Int} : lb (wtxt w) = if w.length = 0 then [45] else w.map fun x => UInt8.ofNat (48 + x).toNat := by
  unfold wtxt
  split
  · rfl
  · unfold lb strOf digB
    simp only [List.map_map]
    rfl
theorem dig_nat {x : Int} (h : 0 ≤ x ∧ x ≤ 9) : (UInt8.ofNat (48 + x).toNat).toNat = (48 + x).toNat := by
  rw [UInt8.toNat_ofNat']
  exact Nat.mod_eq_of_lt (by omega)
theorem wtxt_parts {w : List Int} (h : wordB w = true) : rdI (lb (wtxt w)) = (w, true) ∧ rdS (lb (wtxt w)) = (w, true) ∧ ∀ x ∈ lb (wtxt w), x = 45 ∨ isD x = true := by
  obtain ⟨hl, hx⟩ := word_in h
  rw [lb_wtxt]
  by_cases h0 : w.length = 0
  · have : w = [] := List.eq_nil_of_length_eq_zero h0
    rw [if_pos h0, this]
    refine ⟨rfl, rfl, fun x hx => .inl (by simpa using hx)⟩
  · rw [if_neg h0]
    have hd : ∀ x ∈ w, isD (UInt8.ofNat (48 + x).toNat) = true := fun x hm => by
      have := hx x hm
      rw [isD_iff, dig_nat this]
      omega
    have hall : (w.map fun x => UInt8.ofNat (48 + x).toNat).all isD = true := by
      rw [List.all_map]
      exact List.all_eq_true.2 hd
    have hmap : (w.map fun x => UInt8.ofNat (48 + x).toNat).map dv = w := by
      rw [List.map_map]
      conv => rhs; rw [← List.map_id w]
      refine List.map_congr_left fun x hm => ?_
      have := hx x hm
      show ((UInt8.ofNat (48 + x).toNat).toNat : Int) - 48 = x
      rw [dig_nat this]
      omega
    have hne : (w.map fun x => UInt8.ofNat (48 + x).toNat) ≠ [45] := by
      intro e
      have hm : (45 : UInt8) ∈ (w.map fun x => UInt8.ofNat (48 + x).toNat) := by rw [e]; simp
      have := List.all_eq_true.1 hall _ hm
      revert this
      decide
    have hlen : (w.map fun x => UInt8.ofNat (48 + x).toNat).length = w.length := List.length_map ..
    refine ⟨?_, ?_, fun x hm => .inr (List.all_eq_true.1 hall x hm)⟩
    · unfold rdI
      rw [if_neg hne, hall, hlen, decide_eq_true (by omega : 0 < w.length), decide_eq_true hl, if_pos (by rfl), hmap]
    · unfold rdS
      rw [if_neg hne, hall, hlen, decide_eq_true (by omega : 0 < w.length), decide_eq_true hl, if_pos rfl, hmap]
      rfl
theorem noslash {w : List Int} (h : wordB w = true) : (47 : UInt8) ∉ lb (wtxt w) ∧ (32 : UInt8) ∉ lb (wtxt w) := by
  have := (wtxt_parts h).2.2
  constructor
  · intro hm
    rcases this _ hm with e | e <;> revert e <;> decide
  · intro hm
    rcases this _ hm with e | e <;> revert e <;> decide
/-! ### Dominoes -/
theorem lb_app (a b : ByteArray) : lb (a ++ b) = lb a ++ lb b := bl_app a b
theorem lb_dtxt (d : GDomino) : lb (dtxt d) = lb (wtxt d.Top) ++ 47 :: lb (wtxt d.Bottom) := by
  unfold dtxt
  rw [lb_app, lb_app, show lb (⟨#[47]⟩ : ByteArray) = [47] from rfl]
  simp
def rI (w : ByteArray) : GDomino := ⟨(rdI (Lib.cut (lb w) [47]).1).1, (rdI (Lib.cut (lb w) [47]).2.1).1⟩
def rS (w : ByteArray) : Option GDomino :=
  match spG 47 [] (lb w) with
  | [a, b] => if ((rdS a).2 && (rdS b).2) = true then some ⟨(rdS a).1, (rdS b).1⟩ else none
  | _ => none
theorem rI_dtxt {d : GDomino} (h : domB d = true) : rI (dtxt d) = d := by
  obtain ⟨h1, h2⟩ := dom_in h
  unfold rI
  rw [lb_dtxt, cut_hit (noslash h1).1, (wtxt_parts h1).1, (wtxt_parts h2).1]
theorem rS_dtxt {d : GDomino} (h : domB d = true) : rS (dtxt d) = some d := by
  obtain ⟨h1, h2⟩ := dom_in h
  unfold rS
  rw [lb_dtxt, spG_at (noslash h1).1, spG_all (noslash h2).1]
  simp only
  rw [(wtxt_parts h1).2.1, (wtxt_parts h2).2.1]
  rfl
def mapO {α β : Type} (f : α → Option β) : List α → Option (List β)
  | [] => some []
  | x :: xs => match f x with
    | none => none
    | some y => (mapO f xs).map (y :: ·)
theorem mapO_all {α β : Type} {f : α → Option β} {g : β → α} : ∀ {ds : List β}, (∀ d ∈ ds, f (g d) = some d) → mapO f (ds.map g) = some ds
  | [], _ => rfl
  | d :: ds, h => by
    rw [List.map_cons, mapO, h d (List.mem_cons_self ..)]
    simp only
    rw [mapO_all fun e he => h e (List.mem_cons_of_mem _ he)]
    rfl
theorem mapO_len {α β : Type} {f : α → Option β} : ∀ {xs : List α} {ys : List β}, mapO f xs = some ys → ys.length = xs.length ∧ ∀ y ∈ ys, ∃ x ∈ xs, f x = some y
  | [], ys, h => by
    obtain rfl := Option.some.inj h
    exact ⟨rfl, by simp⟩
  | x :: xs, ys, h => by
    rw [mapO] at h
    cases hf : f x with
    | none => rw [hf] at h; cases h
    | some y =>
      rw [hf] at h
      obtain ⟨zs, hz, rfl⟩ := Option.map_eq_some_iff.1 h
      obtain ⟨h1, h2⟩ := mapO_len hz
      refine ⟨by simp [h1], fun z hz' => ?_⟩
      rcases List.mem_cons.1 hz' with rfl | hz'
      · exact ⟨x, List.mem_cons_self .., hf⟩
      · obtain ⟨a, ha, hb⟩ := h2 z hz'
        exact ⟨a, List.mem_cons_of_mem _ ha, hb⟩
/-- The text of a list. -/
def dstxt (ds : List GDomino) : ByteArray := (ds.foldl spF (⟨#[]⟩, false)).1
theorem parts_of {ds : List GDomino} (h : domsB ds = true) : (spG 32 [] (lb (dstxt ds))).map mkB = ds.map dtxt := by
  have hl := domsB_len h
  have hd := all_dom h
  have e : lb (dstxt ds) = Lib.join ((ds.map dtxt).map lb) [32] := spF_join ds
  rw [e, spG_join]
  · rw [List.map_map]
    conv => rhs; rw [← List.map_id (ds.map dtxt)]
    exact List.map_congr_left fun x _ => mk_lb x
  · intro e0
    have := congrArg List.length e0
    simp at this
    rw [this] at hl
    simp at hl
  · intro x hx
    rw [List.map_map] at hx
    obtain ⟨d, hm, rfl⟩ := List.mem_map.1 hx
    obtain ⟨h1, h2⟩ := dom_in (hd d hm)
    show (32 : UInt8) ∉ lb (dtxt d)
    rw [lb_dtxt, List.mem_append, List.mem_cons]
    rintro (h' | h' | h')
    · exact (noslash h1).2 h'
    · revert h'; decide
    · exact (noslash h2).2 h'
theorem cut_len (l : List UInt8) : (Lib.cut l [47]).1.length ≤ l.length ∧ (Lib.cut l [47]).2.1.length ≤ l.length := by
  unfold Lib.cut
  split
  · simp only [List.length_take, List.length_drop]
    omega
  · simp
theorem impl_rrun (ws : List ByteArray) (hn : ws.length ≤ 1073741824) (hw : ∀ w ∈ ws, w.size ≤ 1073741824) : run (F_impl_ReadDominoes_L1 ws) ([], 0) = some (.brk (ws.map rI, (ws.length : Int))) := by
  have := (run_rowf (body := F_impl_ReadDominoes_L1 ws) ws (by omega) (fun (a : List GDomino) i => (a, i)) (fun s x => s ++ [rI x]) (fun i a => a.length = i) (fun i hi a hk => by
    have hs := hw _ (List.getElem_mem hi)
    have hc := cut_len (lb ws[i])
    rw [lb_len] at hc
    refine ⟨?_, by rw [List.length_append, List.length_singleton, hk]⟩
    simp only [F_impl_ReadDominoes_L1, Int.ofNat_lt, hi, decide_true, cond_true, idx_nat hi, bnd_some_eq]
    have hcut : cutG ws[i] (⟨#[47]⟩ : ByteArray) = some (mkB (Lib.cut (lb ws[i]) [47]).1, mkB (Lib.cut (lb ws[i]) [47]).2.1, (Lib.cut (lb ws[i]) [47]).2.2) := by
      unfold cutG
      rw [if_pos (by omega)]
      rfl
    rw [hcut, bnd_some_eq]
    simp only
    rw [impl_rd _ (by rw [← lb_len, lb_mk]; omega), bnd_some_eq, impl_rd _ (by rw [← lb_len, lb_mk]; omega), bnd_some_eq, lb_mk, lb_mk, app_ok (by simp; omega), bnd_some_eq, w64_nat1 (by omega)]
    rfl) [] rfl).1
  rw [this, foldl_list, List.nil_append, run_done (x := .brk (ws.map rI, (ws.length : Int))) (by simp [F_impl_ReadDominoes_L1])]
theorem spec_rrun (ws : List ByteArray) (hn : ws.length ≤ 80) (hw : ∀ w ∈ ws, w.size ≤ 1073741824) : ∀ (k i : Nat) (out : List GDomino), i + k = ws.length → out.length = i →
    run (F_spec_ReadDominoes_L1 ws) (out, (i : Int)) = some (match mapO rS (ws.drop i) with | none => .ret ([], false) | some L => .brk (out ++ L, (ws.length : Int)))
  | 0, i, out, hi, ho => by
    obtain rfl : i = ws.length := by omega
    rw [List.drop_length, mapO]
    simp only [List.append_nil]
    refine run_done ?_
    simp only [F_spec_ReadDominoes_L1]
    rw [decide_eq_false (by omega), cond_false]
  | k + 1, i, out, hi, ho => by
    have hlt : i < ws.length := by omega
    have hs := hw _ (List.getElem_mem hlt)
    rw [List.drop_eq_getElem_cons hlt, mapO]
    have hsp : F_spec_l01Split ws[i] (⟨47⟩ : Ik .u8) = some ((spG 47 [] (lb ws[i])).map mkB) := spec_split 47 rfl hs
    have hmem := spG_mem 47 [] (lb ws[i])
    rw [List.length_nil, lb_len] at hmem
    have hb : F_spec_ReadDominoes_L1 ws (out, (i : Int)) = some (match rS ws[i] with | none => .inr (.ret ([], false)) | some d => .inl (out ++ [d], ((i + 1 : Nat) : Int))) := by
      simp only [F_spec_ReadDominoes_L1]
      rw [decide_eq_true (by omega), cond_true, idx_nat hlt, bnd_some_eq, hsp, bnd_some_eq]
      unfold rS
      generalize spG 47 [] (lb ws[i]) = L at hmem
      match L, hmem with
      | [], _ => rfl
      | [a], _ => rfl
      | a :: b :: c :: r, _ =>
        rw [decide_eq_true (by simp only [List.length_map, List.length_cons]; omega), cond_true]
      | [a, b], hmem =>
        have ha := hmem a (by simp)
        have hb := hmem b (by simp)
        rw [decide_eq_false (by simp), cond_false]
        show bnd (some (mkB a)) _ = _
        rw [bnd_some_eq, spec_rd _ (by rw [← lb_len, lb_mk]; omega), bnd_some_eq]
        show bnd (some (mkB b)) _ = _
        rw [bnd_some_eq, spec_rd _ (by rw [← lb_len, lb_mk]; omega), bnd_some_eq, lb_mk, lb_mk]
        dsimp only
        cases (rdS a).2
        · rfl
        · cases (rdS b).2
          · rfl
          · simp only [Bool.not_true, cond_false, Bool.and_self, if_true]
            rw [app_ok (by simp; omega), bnd_some_eq, w64_nat1 (by omega)]
    cases hr : rS ws[i] with
    | none =>
      rw [hr] at hb
      exact run_done hb
    | some d =>
      rw [hr] at hb
      rw [run_next hb, spec_rrun ws hn hw k (i + 1) (out ++ [d]) (by omega) (by simp; omega)]
      cases mapO rS (ws.drop (i + 1)) with
      | none => rfl
      | some L => simp
theorem impl_dstxt {ds : List GDomino} (s0 : Sml ds) (hd : domsB ds = true) : F_impl_DominoesText ds = some (dstxt ds) := by
  unfold F_impl_DominoesText
  rw [impl_doms ds s0, bnd_some_eq, hd]
  simp only [Bool.not_true, cond_false]
  have hl := domsB_len hd
  have hsz := spF_size (all_dom hd) (⟨#[]⟩, false)
  have hj := spF_join ds
  have hjl : (Lib.join ((ds.map dtxt).map (·.data.toList)) (⟨#[32]⟩ : ByteArray).data.toList).length ≤ 140737488355328 := by
    have e : Lib.join ((ds.map dtxt).map (·.data.toList)) (⟨#[32]⟩ : ByteArray).data.toList = Lib.join ((ds.map dtxt).map bl) [32] := rfl
    rw [e, ← hj]
    unfold bl
    rw [Array.length_toList]
    have e2 : (ds.foldl spF (⟨#[]⟩, false)).1.data.size = (ds.foldl spF (⟨#[]⟩, false)).1.size := rfl
    have e3 : (⟨#[]⟩ : ByteArray).size = 0 := rfl
    rw [e2]
    simp only [e3] at hsz
    omega
  rw [impl_parts hd, bnd_some_eq]
  simp only [Out.elim]
  unfold joinG
  rw [if_pos ⟨by rw [List.length_map]; omega, hjl⟩, bnd_some_eq]
  congr 1
  refine bl_ext ?_
  unfold dstxt
  rw [hj]
  rfl
theorem rdI_len (l : List UInt8) : (rdI l).1.length ≤ 400 := by
  unfold rdI
  split
  · exact Nat.zero_le _
  · split
    · rename_i h
      simp only [Bool.and_eq_true, decide_eq_true_eq] at h
      rw [List.length_map]
      exact h.2
    · exact Nat.zero_le _
theorem sml_dom {d : GDomino} (h1 : d.Top.length ≤ 1048576) (h2 : d.Bottom.length ≤ 1048576) : Sml d := ⟨⟨h1, fun _ _ => trivial⟩, ⟨h2, fun _ _ => trivial⟩⟩
theorem sml_doms {ds : List GDomino} (h : ds.length ≤ 1048576) (h2 : ∀ d ∈ ds, d.Top.length ≤ 400 ∧ d.Bottom.length ≤ 400) : Sml ds := ⟨h, fun d hd => sml_dom (by have := h2 d hd; omega) (by have := h2 d hd; omega)⟩
theorem impl_doms_big (ds : List GDomino) (h : 80 < ds.length) : F_impl_ValidDominoes ds = some false := by
  unfold F_impl_ValidDominoes F_impl_size_impl_Domino
  rw [bnd_some_eq, impl_in, bnd_some_eq]
  have : inB (ds.length : Int) 1 80 = false := by
    cases hb : inB (ds.length : Int) 1 80 with
    | false => rfl
    | true =>
      have := inB_two.1 hb
      omega
  rw [this, cond_false]
theorem ex_ReadDominoes (s : ByteArray) (s0 : Sml s) : ∃ w : List GDomino × Bool, F_spec_ReadDominoes s = some w ∧ F_impl_ReadDominoes s = some w ∧ Med w.1 ∧ Cnt.cnt w.1 ≤ 1152921504606846976 := by
  have hs : s.size ≤ 1048576 := s0
  have hln := spG_len 32 [] (lb s)
  rw [lb_len] at hln
  have hmem := spG_mem 32 [] (lb s)
  rw [List.length_nil, lb_len] at hmem
  have hws : ∀ w ∈ (spG 32 [] (lb s)).map mkB, w.size ≤ 1073741824 := by
    intro w hw
    obtain ⟨x, hx, rfl⟩ := List.mem_map.1 hw
    have := hmem x hx
    rw [← lb_len, lb_mk]
    omega
  have hnil : Med ((([] : List GDomino), false) : List GDomino × Bool).1 ∧ Cnt.cnt ((([] : List GDomino), false) : List GDomino × Bool).1 ≤ 1152921504606846976 := doms_fit (sml_doms (by simp) (by simp))
  have hsp : F_spec_l01Split s (⟨32⟩ : Ik .u8) = some ((spG 32 [] (lb s)).map mkB) := spec_split 32 rfl (by omega)
  have hI : F_impl_ReadDominoes s = bnd (F_impl_ValidDominoes (((spG 32 [] (lb s)).map mkB).map rI)) fun r26 => (cond (!r26) (some (([] : (List GDomino)), false)) (bnd (F_impl_DominoesText (((spG 32 [] (lb s)).map mkB).map rI)) fun r29 => (cond (!(r29.toList == s.toList)) (some (([] : (List GDomino)), false)) (some (((spG 32 [] (lb s)).map mkB).map rI, true))))) := by
    unfold F_impl_ReadDominoes
    rw [split_ok (by omega), bnd_some_eq, impl_rrun _ (by rw [List.length_map]; omega) hws, bnd_some_eq]
    rfl
  have hS1 : 80 < (spG 32 [] (lb s)).length → F_spec_ReadDominoes s = some ([], false) := by
    intro h
    unfold F_spec_ReadDominoes
    rw [hsp, bnd_some_eq, List.length_map, decide_eq_true (by omega), cond_true]
  have hS2 : (spG 32 [] (lb s)).length ≤ 80 → F_spec_ReadDominoes s = match mapO rS ((spG 32 [] (lb s)).map mkB) with
      | none => some ([], false)
      | some L => bnd (F_spec_l32Is L) fun r38 => (cond (!r38) (some (([] : (List GDomino)), false)) (bnd (F_spec_l32Text L) fun r41 => (cond (!(r41.toList == s.toList)) (some (([] : (List GDomino)), false)) (some (L, true))))) := by
    intro h
    unfold F_spec_ReadDominoes
    have hr := spec_rrun ((spG 32 [] (lb s)).map mkB) (by rw [List.length_map]; exact h) hws ((spG 32 [] (lb s)).map mkB).length 0 [] (by omega) rfl
    rw [List.drop_zero, show ((0 : Nat) : Int) = 0 from rfl] at hr
    rw [hsp, bnd_some_eq, decide_eq_false (by rw [List.length_map]; omega), cond_false, hr, bnd_some_eq]
    cases mapO rS ((spG 32 [] (lb s)).map mkB) with
    | none => rfl
    | some L => simp only [Out.elim, List.nil_append]
  have hrS : ∀ w d, rS w = some d → d.Top.length ≤ 400 ∧ d.Bottom.length ≤ 400 := by
    intro w d h
    have hlen : ∀ l, (rdS l).2 = true → (rdS l).1.length ≤ 400 := by
      intro l h
      unfold rdS at h ⊢
      split
      · exact Nat.zero_le _
      · rename_i hn
        rw [if_neg hn] at h
        split
        · rename_i ha
          rw [if_pos ha] at h
          simp only [Bool.and_eq_true, decide_eq_true_eq] at h
          rw [List.length_map]
          exact h.2
        · exact Nat.zero_le _
    unfold rS at h
    split at h
    · split at h
      · rename_i hb
        rw [Bool.and_eq_true] at hb
        obtain rfl := Option.some.inj h
        exact ⟨hlen _ hb.1, hlen _ hb.2⟩
      · cases h
    · cases h
  by_cases hW : ∃ ds, domsB ds = true ∧ dstxt ds = s
  · obtain ⟨ds, hd, ht⟩ := hW
    have hp := parts_of hd
    rw [ht] at hp
    have hl := domsB_len hd
    have hda := all_dom hd
    have hsm : Sml ds := sml_doms (by omega) fun d hm => domsB_mem hd hm
    have hL : ((spG 32 [] (lb s)).map mkB).map rI = ds := by
      rw [hp, List.map_map]
      conv => rhs; rw [← List.map_id ds]
      exact List.map_congr_left fun d hm => rI_dtxt (hda d hm)
    have hM : mapO rS ((spG 32 [] (lb s)).map mkB) = some ds := by
      rw [hp]
      exact mapO_all fun d hm => rS_dtxt (hda d hm)
    have hn : (spG 32 [] (lb s)).length = ds.length := by
      have := congrArg List.length hp
      rwa [List.length_map, List.length_map] at this
    refine ⟨(ds, true), ?_, ?_, doms_fit hsm⟩
    · rw [hS2 (by omega), hM]
      simp only
      rw [spec_doms ds hsm, bnd_some_eq, hd, Bool.not_true, cond_false, spec_txt hd, bnd_some_eq, str_beq, decide_eq_true (show (ds.foldl spF (⟨#[]⟩, false)).1 = s from ht)]
      rfl
    · rw [hI, hL, impl_doms ds hsm, bnd_some_eq, hd, Bool.not_true, cond_false, impl_dstxt hsm hd, bnd_some_eq, str_beq, decide_eq_true ht]
      rfl
  · refine ⟨([], false), ?_, ?_, hnil⟩
    · by_cases h80 : (spG 32 [] (lb s)).length ≤ 80
      · rw [hS2 h80]
        cases hM : mapO rS ((spG 32 [] (lb s)).map mkB) with
        | none => rfl
        | some L =>
          simp only
          obtain ⟨m1, m2⟩ := mapO_len hM
          rw [List.length_map] at m1
          have hsm : Sml L := sml_doms (by omega) fun d hd => by
            obtain ⟨w, _, hw⟩ := m2 d hd
            exact hrS w d hw
          rw [spec_doms L hsm, bnd_some_eq]
          cases hd : domsB L with
          | false => rfl
          | true =>
            rw [Bool.not_true, cond_false, spec_txt hd, bnd_some_eq, str_beq, decide_eq_false (fun e => hW ⟨L, hd, e⟩ : ¬ (L.foldl spF (⟨#[]⟩, false)).1 = s)]
            rfl
      · exact hS1 (by omega)
    · rw [hI]
      by_cases h80 : (spG 32 [] (lb s)).length ≤ 80
      · have hsm : Sml (((spG 32 [] (lb s)).map mkB).map rI) := sml_doms (by rw [List.length_map, List.length_map]; omega) fun d hd => by
          obtain ⟨w, _, rfl⟩ := List.mem_map.1 hd
          exact ⟨rdI_len _, rdI_len _⟩
        rw [impl_doms _ hsm, bnd_some_eq]
        cases hd : domsB (((spG 32 [] (lb s)).map mkB).map rI) with
        | false => rfl
        | true =>
          rw [Bool.not_true, cond_false, impl_dstxt hsm hd, bnd_some_eq, str_beq, decide_eq_false (fun e => hW ⟨_, hd, e⟩)]
          rfl
      · rw [impl_doms_big _ (by rw [List.length_map, List.length_map]; omega), bnd_some_eq]
        rfl
theorem law_ReadDominoes (s : ByteArray) (w0 : Wf.wf s) : F_laws_FnExactReadDominoes s = some true :=
  lawof_ReadDominoes s w0 (ex_ReadDominoes s)
end Go.Fn
