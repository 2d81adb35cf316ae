/-
  The plain law of FnRewriteDominoes: the match of a derivation leads back to it. No program in sight. No condition.
-/
import Derived.Test.YtekeopjhihdmkaaPDrv
import Derived.Test.YtekeopjhihdmkaaPMoves
namespace Go.Fn
open Go Go.Tc
theorem b10Rows_eq (a b : List (List Int)) (h : a.length ≤ 1048576) (h2 : ∀ r ∈ a, r.length ≤ 1048576) (e : a = b) : F_laws_b10Rows a b = some true := by
  subst e
  unfold F_laws_b10Rows
  rw [decide_eq_false (by simp), cond_false, run_allp a (by omega) (fun _ => true) (.ret false) (.brk (a.length : Int)) (fun i hi => by
    simp only [F_laws_b10Rows_L1, Int.ofNat_lt, hi, decide_true, cond_true, idx_nat hi, bnd_some_eq, b10Nums_eq _ _ (h2 _ (List.getElem_mem hi))]
    rfl) (by simp [F_laws_b10Rows_L1])]
  have : (a.all fun _ => true) = true := by simp
  rw [this]
  rfl
theorem applyW_take {rs : List GRewrite} {w : List Int} {r a : Int} (h : (applyW rs w r a).2 = 0) : (w.drop a.toNat).take (rs.getD r.toNat zR).From.length = (rs.getD r.toNat zR).From := by
  unfold applyW at h
  cases h1 : inB r 0 ((rs.length : Int) - 1)
  · rw [h1] at h; simp at h
  cases h2 : inB a 0 (w.length : Int)
  · rw [h1, h2] at h; simp at h
  rw [h1, h2] at h
  by_cases hb : (w.drop a.toNat).take (rs.getD r.toNat zR).From.length = (rs.getD r.toNat zR).From
  · exact hb
  · rw [decide_eq_false hb] at h; simp at h
/-! ### The dominoes of rules -/
theorem rulesL_len (rs : List GRewrite) (f t : List Int) : (rulesL rs f t).length = 9 + rs.length := by
  simp [rulesL, headL]; omega
theorem get_0 (rs : List GRewrite) (f t : List Int) : (rulesL rs f t).getD 0 zD = ⟨[6], 6 :: (f ++ [6])⟩ := rfl
theorem top0 (rs : List GRewrite) (f t : List Int) : topsOf (rulesL rs f t) [0] = [6] := rfl
theorem bot0 (rs : List GRewrite) (f t : List Int) : botsOf (rulesL rs f t) [0] = 6 :: (f ++ [6]) := by
  show (6 :: (f ++ [6])) ++ [] = _
  rw [List.append_nil]
theorem get_let (rs : List GRewrite) (f t : List Int) (k : Nat) (hk : k < 6) : (rulesL rs f t).getD (k + 1) zD = letD k := by
  match k, hk with
  | 0, _ => rfl
  | 1, _ => rfl
  | 2, _ => rfl
  | 3, _ => rfl
  | 4, _ => rfl
  | 5, _ => rfl
theorem get_7 (rs : List GRewrite) (f t : List Int) : (rulesL rs f t).getD 7 zD = ⟨[6], [6]⟩ := rfl
theorem get_rule (rs : List GRewrite) (f t : List Int) (k : Nat) (hk : k < rs.length) : (rulesL rs f t).getD (8 + k) zD = toD (rs.getD k zR) := by
  unfold rulesL
  rw [List.getD_eq_getElem?_getD, List.append_assoc, List.getElem?_append_right (by rw [headL_len]; omega), headL_len, Nat.add_sub_cancel_left, List.getElem?_append_left (by simpa using hk), List.getElem?_map, List.getElem?_eq_getElem hk, List.getD_eq_getElem?_getD, List.getElem?_eq_getElem hk]
  rfl
theorem get_end (rs : List GRewrite) (f t : List Int) : (rulesL rs f t).getD (8 + rs.length) zD = ⟨t ++ [6, 7], [7]⟩ := by
  unfold rulesL
  rw [List.getD_eq_getElem?_getD, List.getElem?_append_right (by simp [headL]; omega), List.length_append, headL_len, List.length_map, Nat.sub_self]
  rfl
theorem tops_app (ds : List GDomino) (a b : List Int) : topsOf ds (a ++ b) = topsOf ds a ++ topsOf ds b := by simp [topsOf]
theorem bots_app (ds : List GDomino) (a b : List Int) : botsOf ds (a ++ b) = botsOf ds a ++ botsOf ds b := by simp [botsOf]
theorem plus_tops (rs : List GRewrite) (f t : List Int) : ∀ (u : List Int), Let 6 u → topsOf (rulesL rs f t) (plus1 u) = u ∧ botsOf (rulesL rs f t) (plus1 u) = u
  | [], _ => ⟨rfl, rfl⟩
  | x :: u, h => by
    have hx := h x (by simp)
    obtain ⟨h1, h2⟩ := plus_tops rs f t u (fun y hy => h y (by simp [hy]))
    have e : w64 (x + 1) = ((x.toNat + 1 : Nat) : Int) := by rw [w64_in (by omega) (by omega)]; omega
    have hg : (rulesL rs f t).getD (w64 (x + 1)).toNat zD = ⟨[x], [x]⟩ := by
      rw [e, Int.toNat_natCast, get_let rs f t x.toNat (by omega)]
      unfold letD
      rw [show ((x.toNat : Nat) : Int) = x by omega]
    constructor
    · show ((rulesL rs f t).getD (w64 (x + 1)).toNat zD).Top ++ topsOf (rulesL rs f t) (plus1 u) = _
      rw [hg, h1]; rfl
    · show ((rulesL rs f t).getD (w64 (x + 1)).toNat zD).Bottom ++ botsOf (rulesL rs f t) (plus1 u) = _
      rw [hg, h2]; rfl
/-- A segment of the match: one step. -/
def segM (rs : List GRewrite) (w s : List Int) : List Int := plus1 (w.take (s.getD 1 0).toNat) ++ [w64 (8 + s.getD 0 0)] ++ plus1 (w.drop ((s.getD 1 0).toNat + (rs.getD (s.getD 0 0).toNat zR).From.length)) ++ [7]
theorem mstep_seg (rs : List GRewrite) (a : List Int × List Int) (s : List Int) : mstep rs a s = (a.1 ++ segM rs a.2 s, (applyW rs a.2 (s.getD 0 0) (s.getD 1 0)).1) := by
  unfold mstep segM
  simp only [List.append_assoc]
theorem Let.take {k : Int} {w : List Int} (h : Let k w) (n : Nat) : Let k (w.take n) := fun x hx => h x (List.mem_of_mem_take hx)
theorem Let.drop {k : Int} {w : List Int} (h : Let k w) (n : Nat) : Let k (w.drop n) := fun x hx => h x (List.mem_of_mem_drop hx)
theorem rule_idx {rs : List GRewrite} {r : Int} (h0 : 0 ≤ r) (h1 : r < rs.length) (h4 : rs.length ≤ 60) : w64 (8 + r) = ((8 + r.toNat : Nat) : Int) := by rw [w64_in (by omega) (by omega)]; omega
theorem seg_tops {rs : List GRewrite} (f t : List Int) (h4 : rs.length ≤ 60) {w s : List Int} (hw : Let 6 w) (h : (applyW rs w (s.getD 0 0) (s.getD 1 0)).2 = 0) :
    topsOf (rulesL rs f t) (segM rs w s) = w ++ [6] ∧ botsOf (rulesL rs f t) (segM rs w s) = (applyW rs w (s.getD 0 0) (s.getD 1 0)).1 ++ [6] := by
  obtain ⟨q1, q2, q3, q4, q5, q6⟩ := applyW_ok h
  have q7 := applyW_take h
  generalize hR : rs.getD (s.getD 0 0).toNat zR = R at *
  have hl := plus_tops rs f t _ (hw.take (s.getD 1 0).toNat)
  have hr := plus_tops rs f t _ (hw.drop ((s.getD 1 0).toNat + R.From.length))
  have hm : (rulesL rs f t).getD (w64 (8 + s.getD 0 0)).toNat zD = toD R := by
    rw [rule_idx q1 q2 h4, Int.toNat_natCast, get_rule rs f t _ (by omega), hR]
  have h7 : (rulesL rs f t).getD (7 : Int).toNat zD = ⟨[6], [6]⟩ := get_7 rs f t
  unfold segM
  rw [hR]
  constructor
  · rw [tops_app, tops_app, tops_app, hl.1, hr.1]
    have e1 : topsOf (rulesL rs f t) [w64 (8 + s.getD 0 0)] = R.From := by
      show ((rulesL rs f t).getD (w64 (8 + s.getD 0 0)).toNat zD).Top ++ [] = _
      rw [hm, List.append_nil]; rfl
    have e2 : topsOf (rulesL rs f t) [7] = [6] := by
      show ((rulesL rs f t).getD (7 : Int).toNat zD).Top ++ [] = _
      rw [h7]; rfl
    rw [e1, e2, ← List.drop_drop]
    congr 1
    have : R.From ++ (w.drop (s.getD 1 0).toNat).drop R.From.length = w.drop (s.getD 1 0).toNat := by
      conv => lhs; lhs; rw [← q7]
      exact List.take_append_drop _ _
    rw [List.append_assoc, this, List.take_append_drop]
  · rw [bots_app, bots_app, bots_app, hl.2, hr.2, q5]
    have e1 : botsOf (rulesL rs f t) [w64 (8 + s.getD 0 0)] = R.To := by
      show ((rulesL rs f t).getD (w64 (8 + s.getD 0 0)).toNat zD).Bottom ++ [] = _
      rw [hm, List.append_nil]; rfl
    have e2 : botsOf (rulesL rs f t) [7] = [6] := by
      show ((rulesL rs f t).getD (7 : Int).toNat zD).Bottom ++ [] = _
      rw [h7]; rfl
    rw [e1, e2]
    rfl
theorem plus_fold (rs : List GRewrite) (f t : List Int) : ∀ (u : List Int) (out : List (List Int)) (n : Int), Let 6 u → 0 ≤ n → n + u.length ≤ 1000000 → (plus1 u).foldl (dstep (rulesL rs f t)) (out, n) = (out, n + u.length)
  | [], out, n, _, _, _ => by simp [plus1]
  | x :: u, out, n, h, h0, hn => by
    have hx := h x (by simp)
    simp only [List.length_cons] at hn ⊢
    have e : w64 (x + 1) = ((x.toNat + 1 : Nat) : Int) := by rw [w64_in (by omega) (by omega)]; omega
    have hs : dstep (rulesL rs f t) (out, n) (w64 (x + 1)) = (out, n + 1) := by
      unfold dstep
      rw [e, decide_eq_false (by omega), decide_eq_false (by omega), decide_eq_false (by omega), Int.toNat_natCast, get_let rs f t x.toNat (by omega)]
      simp only [cond_false, letD, List.length_singleton]
      rw [w64_in (by omega) (by omega)]
      rfl
    show (plus1 u).foldl (dstep (rulesL rs f t)) (dstep (rulesL rs f t) (out, n) (w64 (x + 1))) = _
    rw [hs, plus_fold rs f t u out (n + 1) (fun y hy => h y (by simp [hy])) (by omega) (by omega)]
    congr 1
    omega
theorem seg_fold {rs : List GRewrite} (f t : List Int) (h4 : rs.length ≤ 60) {w s : List Int} (hw : Let 6 w) (hwl : w.length ≤ 400) (hT : ∀ r ∈ rs, r.To.length ≤ 400) (h : (applyW rs w (s.getD 0 0) (s.getD 1 0)).2 = 0) (out : List (List Int)) :
    (segM rs w s).foldl (dstep (rulesL rs f t)) (out, 0) = (out ++ [[s.getD 0 0, s.getD 1 0]], 0) := by
  obtain ⟨q1, q2, q3, q4, q5, q6⟩ := applyW_ok h
  have hRm : (rs.getD (s.getD 0 0).toNat zR).To.length ≤ 400 := by
    rw [List.getD_eq_getElem?_getD (l := rs), List.getElem?_eq_getElem (by omega : (s.getD 0 0).toNat < rs.length)]
    exact hT _ (List.getElem_mem _)
  generalize hR : rs.getD (s.getD 0 0).toNat zR = R at *
  have hm : (rulesL rs f t).getD (w64 (8 + s.getD 0 0)).toNat zD = toD R := by
    rw [rule_idx q1 q2 h4, Int.toNat_natCast, get_rule rs f t _ (by omega), hR]
  unfold segM
  rw [hR, List.foldl_append, List.foldl_append, List.foldl_append, plus_fold rs f t _ out 0 (hw.take _) (by omega) (by simp; omega)]
  have hl : ((w.take (s.getD 1 0).toNat).length : Int) = s.getD 1 0 := by rw [List.length_take]; omega
  rw [hl]
  have hs : dstep (rulesL rs f t) (out, 0 + s.getD 1 0) (w64 (8 + s.getD 0 0)) = (out ++ [[s.getD 0 0, s.getD 1 0]], s.getD 1 0 + (R.To.length : Int)) := by
    unfold dstep
    rw [hm, rule_idx q1 q2 h4, decide_eq_false (by omega), decide_eq_false (by omega), decide_eq_true (by omega)]
    simp only [cond_false, cond_true, toD]
    rw [w64_in (by omega) (by omega), w64_in (by omega) (by omega), Int.zero_add, show ((8 + (s.getD 0 0).toNat : Nat) : Int) - 8 = s.getD 0 0 by omega]
  simp only [List.foldl_cons, List.foldl_nil]
  rw [hs, plus_fold rs f t _ _ _ (hw.drop _) (by omega) (by rw [List.length_drop]; omega)]
  unfold dstep
  rw [decide_eq_false (by omega), decide_eq_true rfl]
  rfl
/-! ### A drawn derivation -/
/-- The words along a derivation are small. -/
structure DerD (rs : List GRewrite) (f : List Int) (ss : List (List Int)) (t : List Int) : Prop where
  der : derW rs ss f = (t, 0)
  two : ∀ s ∈ ss, s.length = 2
def Small (rs : List GRewrite) (n : Nat) : List (List Int) → List Int → Prop
  | [], w => Let 4 w ∧ w.length ≤ n
  | s :: ss, w => Let 4 w ∧ w.length ≤ n ∧ Small rs n ss (applyW rs w (s.getD 0 0) (s.getD 1 0)).1
theorem small_head {rs : List GRewrite} {n : Nat} {ss : List (List Int)} {w : List Int} (h : Small rs n ss w) : Let 4 w ∧ w.length ≤ n := by
  cases ss with
  | nil => exact h
  | cons s ss => exact ⟨h.1, h.2.1⟩
theorem small_mono {rs : List GRewrite} {n m : Nat} (hnm : n ≤ m) : ∀ {ss : List (List Int)} {w : List Int}, Small rs n ss w → Small rs m ss w
  | [], _, h => ⟨h.1, by have := h.2; omega⟩
  | _ :: _, _, h => ⟨h.1, by have := h.2.1; omega, small_mono hnm h.2.2⟩
theorem small_app {rs : List GRewrite} {n : Nat} : ∀ {ss : List (List Int)} {w v s : List Int}, Small rs n ss w → derW rs ss w = (v, 0) → Small rs n [s] v → Small rs n (ss ++ [s]) w
  | [], w, v, s, h, hd, hs => by
    simp only [derW, Prod.mk.injEq, and_true] at hd
    subst hd
    exact hs
  | t :: ss, w, v, s, h, hd, hs => by
    have h0 : (derW rs (t :: ss) w).2 = 0 := by rw [hd]
    obtain ⟨h1, h2, h3⟩ := derW_cons h0
    have e1 : decide (t.length ≠ 2) = false := decide_eq_false (by simpa using h1)
    have e2 : decide ((applyW rs w (t.getD 0 0) (t.getD 1 0)).2 ≠ 0) = false := decide_eq_false (by simpa using h2)
    have h' : derW rs ss (applyW rs w (t.getD 0 0) (t.getD 1 0)).1 = (v, 0) := by
      rw [← hd]
      conv => rhs; unfold derW
      rw [e1, e2]
      rfl
    exact ⟨h.1, h.2.1, small_app h.2.2 h' hs⟩
theorem Let.app {k : Int} {a b : List Int} (h1 : Let k a) (h2 : Let k b) : Let k (a ++ b) := fun x hx => by
  rcases List.mem_append.1 hx with hx | hx
  · exact h1 x hx
  · exact h2 x hx
theorem newW_let {rs : List GRewrite} (hd : ∀ r ∈ rs, RuleD r) {w : List Int} (hw : Let 4 w) {k : Nat} (hk : k < rs.length) (a : Nat) : Let 4 (newW w (rs.getD k zR) a) := by
  have e : rs.getD k zR = rs[k] := by rw [List.getD_eq_getElem?_getD, List.getElem?_eq_getElem hk]; rfl
  unfold newW putW
  rw [e]
  exact ((hw.take a).app (hd _ (List.getElem_mem hk)).2.1).app (hw.drop _)
theorem derived_loop {c : List (Ik .u8)} {rs : List GRewrite} {f : List Int} (q : Int × Ik .u64) (h4 : rs.length ≤ 4) (hr : rewsB rs = true) (hd : ∀ r ∈ rs, RuleD r) : ∀ (m : Nat) (a : Int) (sd : Ik .u64) (t : List Int) (ss : List (List Int)) (n : Int), SrcOk ⟨c, a, sd⟩ n → n + m ≤ 1000000 → m + ss.length ≤ 4 → DerD rs f ss t → Small rs (6 + ss.length) ss f → Let 4 t → t.length ≤ 6 + ss.length →
    ∃ a' sd' t' ss' j, run (F_spec_B10Derived_L1 c (rs, q)) (a, sd, t, ss, (m : Int)) = some (.brk (a', sd', t', ss', j)) ∧ DerD rs f ss' t' ∧ Small rs 10 ss' f ∧ Let 4 t' ∧ t'.length ≤ 10 ∧ ss'.length ≤ 4 := by
  intro m
  induction m with
  | zero =>
    intro a sd t ss n hs hn hm hD hS hL htl
    refine ⟨a, sd, t, ss, 0, run_done ?_, hD, small_mono (by omega) hS, hL, by omega, by omega⟩
    simp only [F_spec_B10Derived_L1]
    rw [decide_eq_false (by omega), cond_false]
    rfl
  | succ m ih =>
    intro a sd t ss n hs hn hm hD hS hL htl
    have hnx := spec_next (w := t) hr (by omega)
    have hm1 : w64 (((m + 1 : Nat) : Int) - 1) = (m : Int) := by rw [w64_in (by omega) (by omega)]; omega
    have hb0 : F_spec_B10Derived_L1 c (rs, q) (a, sd, t, ss, ((m + 1 : Nat) : Int)) = F_spec_B10Derived_L1 c (rs, q) (a, sd, t, ss, ((m + 1 : Nat) : Int)) := rfl
    conv at hb0 => rhs; unfold F_spec_B10Derived_L1
    simp only [] at hb0
    rw [decide_eq_true (by omega : (0 : Int) < ((m + 1 : Nat) : Int)), cond_true, hnx, bnd_some_eq] at hb0
    simp only [List.length_map] at hb0
    obtain ⟨L, hLe⟩ : ∃ L, (dd rs t).1 = L := ⟨_, rfl⟩
    rw [hLe] at hb0
    have hsub : ∀ x ∈ L, x ∈ movesL rs t := by
      rw [← hLe, dd_eq]
      exact (ddN_sub _ _).1
    have hLl : L.length ≤ 100000 := by
      have h1 := (ddN_sub (movesL rs t) []).2
      have h2 := movesL_len hr (by omega : t.length ≤ 400)
      rw [← hLe, dd_eq]
      omega
    by_cases h0 : L.length = 0
    · rw [decide_eq_true (by omega : (L.length : Int) = 0), cond_true] at hb0
      exact ⟨a, sd, t, ss, _, run_done hb0, hD, small_mono (by omega) hS, hL, by omega, by omega⟩
    · have hL200 : L.length ≤ 200 := by
        rw [← hLe, dd_eq]
        refine Nat.le_trans (ddN_sub (movesL rs t) []).2 ?_
        have : ∀ ks : List Nat, (ks.flatMap fun k => mvK t k (rs.getD k zR)).length ≤ (t.length + 1) * ks.length := by
          intro ks
          induction ks with
          | nil => simp
          | cons k ks ih =>
            have := mvK_len t k (rs.getD k zR)
            rw [List.flatMap_cons, List.length_append, List.length_cons, Nat.mul_add]
            omega
        have h1 := this (List.range rs.length)
        rw [List.length_range] at h1
        exact Nat.le_trans h1 (Nat.le_trans (Nat.mul_le_mul (by omega : t.length + 1 ≤ 11) h4) (by omega))
      obtain ⟨v, a1, sd1, e1, v0, v1, v2⟩ := src_pick (L.length : Int) hs (by omega) (by omega)
      have hlt : v.toNat < L.length := by omega
      rw [decide_eq_false (by omega : ¬ (L.length : Int) = 0), cond_false, e1, bnd_some_eq] at hb0
      simp only at hb0
      rw [show v = ((v.toNat : Nat) : Int) by omega, idx_nat (by simpa using hlt), bnd_some_eq, idx_nat (by simpa using hlt), bnd_some_eq, app_ok (by simp; omega), bnd_some_eq, hm1, List.getElem_map, List.getElem_map] at hb0
      obtain ⟨k, p, hk, hp, hpl, em, hap⟩ := mv_inv (hsub _ (List.getElem_mem hlt))
      rw [em] at hb0
      rw [run_next hb0]
      have hrow : rowM ⟨(k : Int), (p : Int), newW t (rs.getD k zR) p⟩ = [(k : Int), (p : Int)] := rfl
      simp only [hrow]
      have hnl := len_new hd (hsub _ (List.getElem_mem hlt))
      rw [em] at hnl
      simp only at hnl
      have hg : (applyW rs t (([(k : Int), (p : Int)] : List Int).getD 0 0) (([(k : Int), (p : Int)] : List Int).getD 1 0)) = (newW t (rs.getD k zR) p, 0) := hap
      have hnL := newW_let hd hL hk p
      obtain ⟨a', sd', t', ss', j, e2, r1, r2, r3, r4, r5⟩ := ih a1 sd1 (newW t (rs.getD k zR) p) (ss ++ [[(k : Int), (p : Int)]]) (n + 1) v2 (by omega) (by simp; omega)
        ⟨by rw [derW_append ss f t _ hD.der rfl (by rw [hg]), hg], fun s hs' => by
          rcases List.mem_append.1 hs' with h | h
          · exact hD.two s h
          · rw [List.mem_singleton.1 h]; rfl⟩
        (by
          refine small_app (v := t) (small_mono (by simp) hS) hD.der ⟨hL, by rw [List.length_append, List.length_singleton]; omega, ?_⟩
          rw [hg]
          exact ⟨hnL, by show (newW t (rs.getD k zR) p).length ≤ _; rw [List.length_append, List.length_singleton]; omega⟩) hnL (by rw [List.length_append, List.length_singleton]; omega)
      exact ⟨a', sd', t', ss', j, e2, r1, r2, r3, r4, r5⟩
theorem src_derived {c : List (Ik .u8)} (h : Bytes c) : ∃ rs f t ss, F_spec_B10Derived c = some (rs, f, t, ss) ∧ 1 ≤ rs.length ∧ rs.length ≤ 4 ∧ (∀ r ∈ rs, RuleD r) ∧ DerD rs f ss t ∧ Small rs 10 ss f ∧ Let 4 t ∧ t.length ≤ 10 ∧ ss.length ≤ 4 := by
  unfold F_spec_B10Derived
  obtain ⟨rs, a, sd, e, r1, r2, r3, r4⟩ := src_rules (s := ⟨c, 0, ⟨0⟩⟩) (n := 0) ⟨h, by simp, by simp⟩ (by omega)
  rw [e, bnd_some_eq]
  obtain ⟨f, a1, sd1, e1, f1, f2, f3, f4⟩ := src_word 0 6 3 r4 (by omega) (by omega) (by omega) (by omega) (by omega)
  simp only at e1 ⊢
  rw [e1, bnd_some_eq]
  obtain ⟨k, a2, sd2, e2, k0, k1, k2⟩ := src_pick 5 f4 (by omega) (by omega)
  simp only at e2 ⊢
  rw [e2, bnd_some_eq]
  simp only
  have hr := (rewsB_drawn r1 r2 r3).1
  obtain ⟨a', sd', t', ss', j, e3, q1, q2, q3, q4, q5⟩ := derived_loop (f := f) (a, sd) r2 hr r3 k.toNat a2 sd2 f [] _ k2 (by omega) (by simp; omega) ⟨rfl, fun s hs => by simp at hs⟩ ⟨f1.mono (by omega), by simp; omega⟩ (f1.mono (by omega)) (by simp; omega)
  rw [show ((k.toNat : Nat) : Int) = k by omega] at e3
  rw [e3, bnd_some_eq]
  exact ⟨rs, f, t', ss', rfl, r1, r2, r3, q1, q2, q3, q4, q5⟩
/-! ### The match -/
theorem fold_inv {rs : List GRewrite} (f t : List Int) (h4 : rs.length ≤ 4) (hd : ∀ r ∈ rs, RuleD r) : ∀ (ss : List (List Int)) (a : List Int × List Int) (out : List (List Int)) (n : Nat), Small rs 10 ss a.2 → (derW rs ss a.2).2 = 0 → (∀ s ∈ ss, s.length = 2) →
    botsOf (rulesL rs f t) a.1 = topsOf (rulesL rs f t) a.1 ++ a.2 ++ [6] → (topsOf (rulesL rs f t) a.1).length ≤ n → a.1.length ≤ n → (∀ m ∈ a.1, 0 ≤ m ∧ m < 8 + rs.length) → (a.1.drop 1).foldl (dstep (rulesL rs f t)) ([], 0) = (out, 0) → 1 ≤ a.1.length →
    botsOf (rulesL rs f t) (ss.foldl (mstep rs) a).1 = topsOf (rulesL rs f t) (ss.foldl (mstep rs) a).1 ++ (derW rs ss a.2).1 ++ [6] ∧ (topsOf (rulesL rs f t) (ss.foldl (mstep rs) a).1).length ≤ n + 30 * ss.length ∧ (ss.foldl (mstep rs) a).1.length ≤ n + 30 * ss.length ∧ (∀ m ∈ (ss.foldl (mstep rs) a).1, 0 ≤ m ∧ m < 8 + rs.length) ∧ ((ss.foldl (mstep rs) a).1.drop 1).foldl (dstep (rulesL rs f t)) ([], 0) = (out ++ ss, 0)
  | [], a, out, n, hS, hD, h2, i1, i2, i3, i4, i5, i6 => ⟨i1, by simpa using i2, by simpa using i3, i4, by simpa using i5⟩
  | s :: ss, a, out, n, hS, hD, h2, i1, i2, i3, i4, i5, i6 => by
    obtain ⟨d1, d2, d3⟩ := derW_cons hD
    have hL6 : Let 6 a.2 := hS.1.mono (by omega)
    have hwl := hS.2.1
    obtain ⟨q1, q2, q3, q4, q5, q6⟩ := applyW_ok d2
    have hT := seg_tops f t (by omega : rs.length ≤ 60) hL6 d2
    have hF := seg_fold f t (by omega : rs.length ≤ 60) hL6 (by omega) (fun r hr => by have := (hd r hr).2.2.2; omega) d2 out
    have e1 : decide (s.length ≠ 2) = false := decide_eq_false (by simpa using d1)
    have e2 : decide ((applyW rs a.2 (s.getD 0 0) (s.getD 1 0)).2 ≠ 0) = false := decide_eq_false (by simpa using d2)
    have hder : derW rs (s :: ss) a.2 = derW rs ss (applyW rs a.2 (s.getD 0 0) (s.getD 1 0)).1 := by
      conv => lhs; unfold derW
      rw [e1, e2]
      rfl
    have hsl : (segM rs a.2 s).length ≤ 22 := by
      unfold segM plus1
      simp only [List.length_append, List.length_map, List.length_take, List.length_drop, List.length_singleton]
      omega
    have hs2 : s = [s.getD 0 0, s.getD 1 0] := by
      match s, d1 with
      | [x, y], _ => rfl
    rw [List.foldl_cons, hder, mstep_seg]
    have := fold_inv f t h4 hd ss (a.1 ++ segM rs a.2 s, (applyW rs a.2 (s.getD 0 0) (s.getD 1 0)).1) (out ++ [s]) (n + 30) hS.2.2 d3 (fun x hx => h2 x (by simp [hx]))
      (by simp only; rw [bots_app, tops_app, hT.1, hT.2, i1]; simp only [List.append_assoc])
      (by simp only; rw [tops_app, hT.1]; simp; omega)
      (by simp only; rw [List.length_append]; omega)
      (by
        intro m hm
        rcases List.mem_append.1 hm with hm | hm
        · exact i4 m hm
        · have hpl : ∀ u : List Int, Let 6 u → ∀ m ∈ plus1 u, 0 ≤ m ∧ m < 8 + (rs.length : Int) := fun u hu m hm => by
            unfold plus1 at hm
            obtain ⟨x, hx, rfl⟩ := List.mem_map.1 hm
            have := hu x hx
            rw [w64_in (by omega) (by omega)]
            omega
          unfold segM at hm
          simp only [List.mem_append, List.mem_singleton] at hm
          rcases hm with ((hm | rfl) | hm) | rfl
          · exact hpl _ (hL6.take _) m hm
          · rw [rule_idx q1 q2 (by omega)]; omega
          · exact hpl _ (hL6.drop _) m hm
          · omega)
      (by
        simp only
        rw [List.drop_append_of_le_length i6, List.foldl_append, i5, hF, ← hs2])
      (by simp only; rw [List.length_append]; omega)
    simp only [List.length_cons]
    refine ⟨this.1, by have := this.2.1; omega, by have := this.2.2.1; omega, this.2.2.2.1, ?_⟩
    rw [this.2.2.2.2, List.append_assoc]
    rfl
theorem wordB_let {w : List Int} (h : Let 8 w) (hl : w.length ≤ 400) : wordB w = true := by
  unfold wordB
  simp only [Bool.and_eq_true, decide_eq_true_eq, List.all_eq_true]
  exact ⟨hl, fun x hx => inB_iff'.2 (by have := h x hx; omega)⟩
theorem rulesP_drawn {rs : List GRewrite} {f t : List Int} (h1 : 1 ≤ rs.length) (h4 : rs.length ≤ 4) (hd : ∀ r ∈ rs, RuleD r) (hf : Let 4 f) (ht : Let 4 t) (fl : f.length ≤ 10) (tl : t.length ≤ 10) : rulesP rs f t = (rulesL rs f t, 0) ∧ domsB (rulesL rs f t) = true := by
  have hD : domsB (rulesL rs f t) = true := by
    unfold domsB
    simp only [Bool.and_eq_true, decide_eq_true_eq, List.all_eq_true]
    rw [rulesL_len]
    refine ⟨by omega, fun d hdm => ?_⟩
    have key : ∀ a b : List Int, Let 8 a → Let 8 b → a.length ≤ 400 → b.length ≤ 400 → 0 < a.length → domB ⟨a, b⟩ = true := fun a b ha hb la lb l0 => by
      unfold domB
      simp only [wordB_let ha la, wordB_let hb lb, Bool.true_and, decide_eq_true_eq]
      omega
    have l6 : Let 8 [6] := fun x hx => by rw [List.mem_singleton.1 hx]; omega
    have l7 : Let 8 [7] := fun x hx => by rw [List.mem_singleton.1 hx]; omega
    simp only [rulesL, headL, List.mem_append, List.mem_singleton, List.mem_map] at hdm
    rcases hdm with (((rfl | ⟨k, hk, rfl⟩) | rfl) | ⟨r, hr, rfl⟩) | rfl
    · refine key _ _ l6 (fun x hx => ?_) (by simp) (by simp; omega) (by simp)
      rcases List.mem_cons.1 hx with rfl | hx
      · omega
      · exact (((hf.mono (by omega : (4 : Int) ≤ 8)).app l6) x hx)
    · have hk6 := List.mem_range.1 hk
      have lk : Let 8 [(k : Int)] := fun x hx => by rw [List.mem_singleton.1 hx]; omega
      exact key _ _ lk lk (by simp) (by simp) (by simp)
    · exact key _ _ l6 l6 (by simp) (by simp) (by simp)
    · obtain ⟨a, b, c, d, e⟩ := hd r hr
      exact key _ _ (a.mono (by omega)) (b.mono (by omega)) (by omega) (by omega) (by omega)
    · refine key _ _ ((ht.mono (by omega : (4 : Int) ≤ 8)).app (fun x hx => ?_)) l7 (by simp; omega) (by simp) (by simp)
      simp at hx
      omega
  refine ⟨?_, hD⟩
  unfold rulesP
  have s : ∀ {w : List Int}, Let 4 w → (w.all fun x => inB x 0 5) = true := fun {w} h => by
    rw [List.all_eq_true]
    exact fun x hx => inB_iff'.2 (by have := h x hx; omega)
  have hall : (rs.all fun r => leastB 5 (toD r)) = true := by
    rw [List.all_eq_true]
    intro r hr
    obtain ⟨a, b, _⟩ := hd r hr
    unfold leastB toD
    rw [s a, s b]
    rfl
  unfold smallB
  rw [s hf, s ht, hall, hD]
  rfl
theorem impl_rtd {rs : List GRewrite} {f t : List Int} (hr : rewsB rs = true) (s0 : Sml rs) (hf : wordB f = true) (ht : wordB t = true) (hp : rulesP rs f t = (rulesL rs f t, 0)) : F_impl_RewritesToDominoes rs f t = some (rulesL rs f t, 0) := by
  have lf := wordB_len hf
  have lt := wordB_len ht
  unfold F_impl_RewritesToDominoes
  rw [impl_rews rs s0, bnd_some_eq, two_words f t ⟨by omega, fun _ _ => trivial⟩ ⟨by omega, fun _ _ => trivial⟩, hr, hf, ht]
  simp only [Bool.and_self, Bool.not_true, cond_false, bnd_some_eq]
  rw [impl_rules rs f t hr s0 lf lt, bnd_some_eq, hp]
theorem impl_modV {rs : List GRewrite} {f t : List Int} {ss : List (List Int)} (hr : rewsB rs = true) (s0 : Sml rs) (hf : wordB f = true) (ht : wordB t = true) (hp : rulesP rs f t = (rulesL rs f t, 0)) (hss : ss.length ≤ 100) (hd : derW rs ss f = (t, 0)) (hl : (ss.foldl (mstep rs) ([0], f)).1.length + 1 ≤ 400) :
    F_impl_MatchOfDerivation rs f t ss = some ((ss.foldl (mstep rs) ([0], f)).1 ++ [8 + (rs.length : Int)], 0) := by
  have lf := wordB_len hf
  have lt := wordB_len ht
  have h60 := rewsB_len hr
  unfold F_impl_MatchOfDerivation
  rw [impl_rtd hr s0 hf ht hp, bnd_some_eq]
  simp only
  rw [decide_eq_false (by simp), cond_false, impl_derived rs f ss hr hf (by omega)]
  have hdp : derP rs ss f = (t, 0) := by
    unfold derP
    rw [decide_eq_false (by omega), cond_false, hd]
  rw [hdp]
  simp only [bnd_some_eq]
  rw [decide_eq_false (by simp), cond_false, impl_equal _ _ (by omega), decide_eq_true rfl]
  simp only [bnd_some_eq, Bool.not_true, cond_false]
  obtain ⟨_, hi⟩ := mod_run (body := F_impl_MatchOfDerivation_L1 rs ss) rs ss hr (by omega) ([], 5) false (fun a i hi hw d1 d2 hl => by
      obtain ⟨g1, g2⟩ := two_get d1
      obtain ⟨q1, q2, q3, q4, q5, q6⟩ := applyW_ok d2
      have hwl := wordB_len hw
      have hrl := rget_len hr (ss[i].getD 0 0).toNat
      simp only [F_impl_MatchOfDerivation_L1, Int.ofNat_lt, hi, decide_true, cond_true, idx_nat hi, bnd_some_eq, g1, g2]
      rw [idx_getD zR q1 q2, bnd_some_eq, impl_apply rs a.2 _ _ hr hwl]
      obtain ⟨n, hn⟩ : ∃ n : Nat, ss[i].getD 1 0 = n := ⟨(ss[i].getD 1 0).toNat, by omega⟩
      unfold mstep
      rw [q5]
      rw [hn] at q4 ⊢
      rw [Int.toNat_natCast] at q4 ⊢
      generalize hR : rs.getD (ss[i].getD 0 0).toNat zR = Ru at *
      rw [w64_add (by omega), slc_from (by omega), bnd_some_eq, slc0' (by omega), bnd_some_eq, impl_moved _ _ (by simp; omega), bnd_some_eq, impl_moved _ _ (by simp; omega), bnd_some_eq, impl_joined _ (by simp) (by simp; omega), bnd_some_eq, bnd_some_eq]
      rw [Bool.false_and, cond_false]
      have e : ([a.1, (a.2.take n).map (fun x => w64 (x + 1)), [w64 (8 + ss[i].getD 0 0)], (a.2.drop (n + Ru.From.length)).map (fun x => w64 (x + 1)), [7]] : List (List Int)).flatten = a.1 ++ plus1 (a.2.take n) ++ [w64 (8 + ss[i].getD 0 0)] ++ plus1 (a.2.drop (n + Ru.From.length)) ++ [7] := by
        simp [plus1]
      rw [e])
      (fun a b => by simp [F_impl_MatchOfDerivation_L1]) f hf (by rw [hd])
  have hi := hi.resolve_right (fun h => by cases h.1)
  unfold F_impl_size_impl_Domino F_impl_shortMatch
  rw [hi]
  simp only [bnd_some_eq, Out.elim]
  rw [app_ok (by simp; omega)]
  simp only [bnd_some_eq]
  rw [rulesL_len, w64_in (by omega) (by omega), show ((9 + rs.length : Nat) : Int) - 1 = 8 + (rs.length : Int) by omega, decide_eq_false (by simp; omega)]
  rfl
theorem takeWhile_app {p : Int → Bool} {a : List Int} {x : Int} (h : ∀ y ∈ a, p y = true) (hx : p x = false) : (a ++ [x]).takeWhile p = a := by
  induction a with
  | nil => simp [hx]
  | cons y a ih =>
    rw [List.cons_append, List.takeWhile_cons, h y (by simp), if_pos rfl, ih (fun z hz => h z (by simp [hz]))]
theorem law_RewriteDominoes (c : List (Ik .u8)) (w0 : Wf.wf c) : F_laws_FnRewriteDominoes c = some true := by
  unfold F_laws_FnRewriteDominoes F_laws_b10Long
  simp only [bnd_some_eq]
  by_cases hc : 1048576 < c.length
  · rw [decide_eq_true (by omega)]; rfl
  rw [decide_eq_false (by omega), cond_false]
  obtain ⟨rs, f, t, ss, e, h1, h4, hd, hD, hS, ht4, htl, hsl⟩ := src_derived (bytes_of w0 (by omega))
  have hf4 := small_head hS
  obtain ⟨hr, s0⟩ := rewsB_drawn h1 h4 hd
  have hf : wordB f = true := wordB_let (hf4.1.mono (by omega)) (by omega)
  have ht : wordB t = true := wordB_let (ht4.mono (by omega)) (by omega)
  obtain ⟨hp, hdm⟩ := rulesP_drawn h1 h4 hd hf4.1 ht4 hf4.2 htl
  obtain ⟨v1, v2, v3, v4, v5⟩ := fold_inv f t h4 hd ss ([0], f) [] 1 hS (by rw [hD.der]) hD.two (by rw [bot0, top0]; simp) (by rw [top0]; simp) (by simp) (fun m hm => by rw [List.mem_singleton.1 hm]; omega) rfl (by simp)
  have hmod := impl_modV hr s0 hf ht hp (by omega) hD.der (by omega)
  rw [hD.der] at v1
  have hpre : ∃ F', (ss.foldl (mstep rs) ([0], f)).1 = 0 :: F' := by
    have : ∀ (l : List (List Int)) (a : List Int × List Int), (∃ F', a.1 = 0 :: F') → ∃ F', (l.foldl (mstep rs) a).1 = 0 :: F' := by
      intro l
      induction l with
      | nil => exact fun a h => h
      | cons s l ih =>
        rintro a ⟨F', h⟩
        refine ih _ ⟨F' ++ segM rs a.2 s, ?_⟩
        rw [mstep_seg, h]
        rfl
    exact this ss _ ⟨[], rfl⟩
  obtain ⟨F', hF⟩ := hpre
  obtain ⟨F, hFe⟩ : ∃ F, (ss.foldl (mstep rs) ([0], f)).1 = F := ⟨_, rfl⟩
  rw [hFe] at v1 v2 v3 v4 v5 hmod hF
  have hlast : (rulesL rs f t).getD (8 + (rs.length : Int)).toNat zD = ⟨t ++ [6, 7], [7]⟩ := by
    rw [show (8 + (rs.length : Int)).toNat = 8 + rs.length by omega]
    exact get_end rs f t
  have htop : topsOf (rulesL rs f t) (F ++ [8 + (rs.length : Int)]) = topsOf (rulesL rs f t) F ++ (t ++ [6, 7]) := by
    rw [tops_app]
    congr 1
    show ((rulesL rs f t).getD (8 + (rs.length : Int)).toNat zD).Top ++ [] = _
    rw [hlast, List.append_nil]
  have hbot : botsOf (rulesL rs f t) (F ++ [8 + (rs.length : Int)]) = topsOf (rulesL rs f t) F ++ (t ++ [6, 7]) := by
    rw [bots_app, v1]
    show _ ++ (((rulesL rs f t).getD (8 + (rs.length : Int)).toNat zD).Bottom ++ []) = _
    rw [hlast]
    simp
  have hrange : rangeB (rulesL rs f t).length (F ++ [8 + (rs.length : Int)]) = true := by
    unfold rangeB
    rw [rulesL_len]
    simp only [Bool.and_eq_true, decide_eq_true_eq, List.all_eq_true]
    refine ⟨by simp; omega, fun m hm => inB_iff'.2 ?_⟩
    rcases List.mem_append.1 hm with hm | hm
    · have := v4 m hm; omega
    · rw [List.mem_singleton.1 hm]; omega
  have htl2 : (topsOf (rulesL rs f t) F ++ (t ++ [6, 7])).length ≤ 4000 := by simp; omega
  have hmatch : matchW (rulesL rs f t) (F ++ [8 + (rs.length : Int)]) = (topsOf (rulesL rs f t) F ++ (t ++ [6, 7]), 0) := by
    unfold matchW
    rw [hrange, cond_true, htop, hbot, decide_eq_false (by omega), decide_eq_true rfl]
    rfl
  have hml : (F ++ [8 + (rs.length : Int)]).length ≤ 1048576 := by simp; omega
  have hmw : F_impl_MatchWord (rulesL rs f t) (F ++ [8 + (rs.length : Int)]) = some (topsOf (rulesL rs f t) F ++ (t ++ [6, 7]), 0) := by
    unfold F_impl_MatchWord
    rw [impl_doms _ (rulesL_sml hr (by omega) (by omega)), hdm, bnd_some_eq, Bool.not_true, cond_false, impl_match _ _ hdm hml, hmatch]
    rfl
  have hderiv : derivR (rulesL rs f t) (F ++ [8 + (rs.length : Int)]) = (ss, 0) := by
    unfold derivR
    have hA : ∀ y ∈ F.drop 1, (fun y : Int => decide (y ≠ ((rulesL rs f t).length : Int) - 1)) y = true := fun y hy => by
      have := v4 y (List.mem_of_mem_drop hy)
      show decide _ = true
      rw [rulesL_len]
      exact decide_eq_true (by omega)
    have hB : (fun y : Int => decide (y ≠ ((rulesL rs f t).length : Int) - 1)) (8 + (rs.length : Int)) = false := by
      show decide _ = false
      rw [rulesL_len]
      exact decide_eq_false (by omega)
    rw [List.drop_append_of_le_length (by rw [hF]; simp), takeWhile_app hA hB, v5, List.nil_append]
  have hdom : F_impl_DerivationOfMatch rs f t (F ++ [8 + (rs.length : Int)]) = some (ss, 0) := by
    unfold F_impl_DerivationOfMatch
    rw [impl_rtd hr s0 hf ht hp, bnd_some_eq]
    simp only
    rw [decide_eq_false (by simp), cond_false, impl_match _ _ hdm hml, hmatch]
    simp only [bnd_some_eq]
    rw [decide_eq_false (by simp), cond_false]
    have hms0 : idx (F ++ [8 + (rs.length : Int)]) 0 = some 0 := by rw [hF]; rfl
    have hs1 := slc_from (xs := F ++ [8 + (rs.length : Int)]) (lo := 1) (by simp)
    rw [show ((1 : Nat) : Int) = 1 from rfl] at hs1
    rw [hms0, bnd_some_eq, decide_eq_false (by simp), cond_false, hs1, bnd_some_eq]
    have := impl_derivloop (rulesL rs f t) 0 (F ++ [8 + (rs.length : Int)]) (by rw [rulesL_len]; omega) hrange
    rw [hderiv] at this
    rw [this]
    unfold shortP
    rw [decide_eq_false (by simp only; omega)]
    rfl
  rw [e, bnd_some_eq]
  simp only
  rw [impl_rtd hr s0 hf ht hp, bnd_some_eq, hmod, bnd_some_eq]
  simp only
  simp only [ne_eq, not_true_eq_false, decide_false, cond_false, bnd_some_eq, Out.elim]
  rw [hmw, bnd_some_eq, hdom, bnd_some_eq]
  simp only [ne_eq, not_true_eq_false, decide_false, cond_false]
  have h0t : 1 ≤ (topsOf (rulesL rs f t) F).length := by
    rw [hF]
    show 1 ≤ (([6] : List Int) ++ _).length
    simp
  rw [w64_in (by omega) (by omega), decide_eq_false (by simp; omega), cond_false, bnd_some_eq]
  simp only [Out.elim]
  unfold F_impl_CheckDerivation
  rw [impl_rews rs s0, hr, impl_word f (by omega), hf]
  simp only [bnd_some_eq, Bool.not_true, cond_false]
  rw [impl_derived rs f ss hr hf (by omega), bnd_some_eq]
  have hdp : derP rs ss f = (t, 0) := by
    unfold derP
    rw [decide_eq_false (by omega), cond_false, hD.der]
  rw [hdp]
  simp only [decide_true, cond_true, bnd_some_eq]
  rw [b10Nums_eq _ _ (by omega), decide_eq_true rfl, bnd_some_eq, cond_true, b10Rows_eq ss ss (by omega) (fun s hs => by rw [hD.two s hs]; omega) rfl]
  rfl
end Go.Fn
