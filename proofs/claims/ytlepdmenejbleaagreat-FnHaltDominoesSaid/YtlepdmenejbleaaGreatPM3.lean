/-
  Plain laws, part 3. No program in sight. No condition.
-/
import Derived.Test.YtlepdmenejbleaaGreatPM2
import Derived.Test.YtlepdmenejbleaaGreatPM1
namespace Go.Fn
open Go Go.Tc
section
variable {m : GMachine} {s q : Nat} {X : List Int} {p : Int} {Y : List Int} {L R : List Int}
theorem applyW_at {rs : List GRewrite} {w : List Int} {k a : Nat} {r : GRewrite} (hk : rs[k]? = some r) (ha : a ≤ w.length) (h : (w.drop a).take r.From.length = r.From) (hl : (putW w r.To a r.From.length).length ≤ 400) : applyW rs w (k : Int) (a : Int) = (putW w r.To a r.From.length, 0) := by
 obtain ⟨hkl, hr⟩ := List.getElem?_eq_some_iff.1 hk
 have e : rs.getD k zR = r := by rw [List.getD_eq_getElem?_getD, hk]; rfl
 unfold applyW
 rw [Int.toNat_natCast, Int.toNat_natCast, e, inB_iff.2 (by omega), inB_iff.2 (by omega), Bool.and_self, cond_true, decide_eq_true h, cond_true, decide_eq_false (by omega), cond_false]
theorem derW_step {rs : List GRewrite} {w w' : List Int} {k a : Int} (h : applyW rs w k a = (w', 0)) (ss : List (List Int)) : derW rs ([k, a] :: ss) w = derW rs ss w' := by
 rw [derW]
 have e0 : ([k, a] : List Int).getD 0 0 = k := rfl
 have e1 : ([k, a] : List Int).getD 1 0 = a := rfl
 rw [e0, e1, h, decide_eq_false (by simp), cond_false, decide_eq_false (fun h => h rfl), cond_false]
theorem at_posn {w f : List Int} {a : Nat} {l : List Nat} (h : posn w f = a :: l) : a ≤ w.length ∧ (w.drop a).take f.length = f := mem_posn.1 (by rw [h]; exact List.mem_cons_self ..)
theorem der_right (T : Tiny m s q) {c : Int} {R' : List Int} (E : Edw m L (c :: R')) (ss : List (List Int)) : derW (haltL m s) ([((bas m s + 2 * c.toNat : Nat) : Int), ((L.length + 1 : Nat) : Int)] :: ss) (Ed m L (c :: R')) = derW (haltL m s) ss (Ed m L R') := by
 have hs := T.hs
 have hc := E.sr c (List.mem_cons_self ..)
 have hg := (halt_erase (m := m) (s := s) (c := c.toNat) (by omega)).1
 have hp := posn_r T E (c.toNat : Int)
 rw [if_pos (by simp only [List.cons_append, List.head?_cons, Option.some.injEq]; omega)] at hp
 obtain ⟨a1, a2⟩ := at_posn hp
 have hput : putW (Ed m L (c :: R')) [ers m] (L.length + 1) ([ers m, (c.toNat : Int)] : List Int).length = Ed m L R' := put_r
 have := applyW_at hg a1 a2 (by simp only; rw [hput]; exact E.tailr.hl)
 simp only at this
 rw [hput] at this
 exact derW_step this ss
theorem der_left (T : Tiny m s q) {c : Int} {L' : List Int} (E : Edw m (L' ++ [c]) []) (ss : List (List Int)) : derW (haltL m s) ([((bas m s + 2 * c.toNat + 1 : Nat) : Int), ((L'.length + 1 : Nat) : Int)] :: ss) (Ed m (L' ++ [c]) []) = derW (haltL m s) ss (Ed m L' []) := by
 have hs := T.hs
 have hc := E.sl c (by simp)
 have hg := (halt_erase (m := m) (s := s) (c := c.toNat) (by omega)).2
 have hp := posn_l T E (c.toNat : Int)
 rw [if_pos (by rw [← List.cons_append, List.getLast?_concat, Option.some.injEq]; omega), List.length_append, List.length_singleton] at hp
 obtain ⟨a1, a2⟩ := at_posn hp
 have hput : putW (Ed m (L' ++ [c]) []) [ers m] (L'.length + 1) ([(c.toNat : Int), ers m] : List Int).length = Ed m L' [] := put_l
 have := applyW_at hg a1 a2 (by simp only; rw [hput]; exact E.initl.hl)
 simp only at this
 rw [hput] at this
 exact derW_step this ss
theorem der_rgt (T : Tiny m s q) (ss : List (List Int)) : ∀ (R : List Int), Edw m L R → derW (haltL m s) (rgt (bas m s) (L.length + 1) R ++ ss) (Ed m L R) = derW (haltL m s) ss (Ed m L [])
 | [], _ => rfl
 | c :: R', E => by
  have := der_right T E (rgt (bas m s) (L.length + 1) R' ++ ss)
  rw [← der_rgt T ss R' E.tailr, ← this]
  rfl
theorem der_lft (T : Tiny m s q) : ∀ (l : List Int), Edw m l.reverse [] → derW (haltL m s) (lft (bas m s) l) (Ed m l.reverse []) = (haltT m, 0)
 | [], _ => rfl
 | c :: l, E => by
  rw [List.reverse_cons] at E ⊢
  have := der_left T E (lft (bas m s) l)
  rw [← der_lft T l E.initl, ← this, List.length_reverse]
  rfl
theorem der_erase (T : Tiny m s q) (C : Cfw m X p Y) (hW : (Wd m X p Y).length ≤ 400) {k : Nat} (hk : k < (freeL m).length) (h1 : mF m X p Y (freeL m)[k] = true) :
  derW (haltL m s) ([[(((ownL m s).length + k : Nat) : Int), ((X.length + 1 : Nat) : Int)]] ++ rgt (bas m s) (X.length + 1) Y.tail ++ lft (bas m s) X.reverse) (Wd m X p Y) = (haltT m, 0) := by
 have hl := Wd_len m X p Y
 have htl : Y.tail.length ≤ Y.length := by rw [List.length_tail]; omega
 have E : Edw m X Y.tail := ⟨C.sx, fun x hx => C.sy x (List.mem_of_mem_tail hx), by rw [Ed_len]; omega⟩
 have E0 : Edw m X.reverse.reverse [] := by
  rw [List.reverse_reverse]
  exact ⟨E.sl, fun x hx => by simp at hx, by have := E.hl; rw [Ed_len] at this ⊢; simp; omega⟩
 have hput := newF T C (List.getElem_mem hk) h1
 have ha := applyW_at (halt_free (s := s) hk) (w := Wd m X p Y) (a := X.length + 1) (by omega) (of_decide_eq_true h1) (by rw [hput]; exact E.hl)
 rw [hput] at ha
 have := derW_step ha (rgt (bas m s) (X.length + 1) Y.tail ++ lft (bas m s) X.reverse)
 rw [List.append_assoc, List.singleton_append, this, der_rgt T _ _ E]
 have h2 := der_lft T X.reverse E0
 rw [List.reverse_reverse] at h2
 exact h2
theorem der_own (T : Tiny m s q) (C : Cfw m X p Y) {k : Nat} (hk : k < (ownL m s).length) (h1 : mtc m X p Y (ownL m s)[k] = true) (hl : (Wn m X p Y).length ≤ 400) (ss : List (List Int)) :
  derW (haltL m s) ([(k : Int), ((X.length + 1 - offW m (ownL m s)[k] : Nat) : Int)] :: ss) (Wd m X p Y) = derW (haltL m s) ss (Wn m X p Y) := by
 have hlw := Wd_len m X p Y
 have hg : (haltL m s)[k]? = some (ownL m s)[k] := by rw [haltL_eq, List.getElem?_append_left hk, List.getElem?_eq_getElem hk]
 have hn := (mtc_new T C (List.getElem_mem hk) h1).2
 unfold newW at hn
 have ha := applyW_at hg (w := Wd m X p Y) (a := X.length + 1 - offW m (ownL m s)[k]) (by omega) (of_decide_eq_true h1) (by rw [hn]; exact hl)
 rw [hn] at ha
 exact derW_step ha ss
def ownN (own : Int) (ss : List (List Int)) : Nat := ss.countP fun r => decide (r.getD 0 0 < own)
theorem ownN_zero {own : Int} {ss : List (List Int)} (h : ∀ r ∈ ss, own ≤ r.getD 0 0) : ownN own ss = 0 := by
 unfold ownN
 rw [List.countP_eq_zero]
 intro r hr
 have := h r hr
 simpa using this
theorem rgt_ge {b n : Nat} {own : Int} (h : own ≤ b) (R : List Int) : ∀ r ∈ rgt b n R, own ≤ r.getD 0 0 := by
 intro r hr
 obtain ⟨c, _, rfl⟩ := List.mem_map.1 hr
 show own ≤ ((b + 2 * c.toNat : Nat) : Int)
 omega
theorem lft_ge {b : Nat} {own : Int} (h : own ≤ b) : ∀ (L : List Int), ∀ r ∈ lft b L, own ≤ r.getD 0 0
 | [], r, hr => by cases hr
 | c :: l, r, hr => by
  unfold lft at hr
  rcases List.mem_cons.1 hr with rfl | hr
  ·show own ≤ ((b + 2 * c.toNat + 1 : Nat) : Int)
   omega
  ·exact lft_ge h l r hr
theorem cntS_ownN (own : Int) : ∀ (ss : List (List Int)) (n : Int), 0 ≤ n → n + ss.length ≤ 1000000 → ss.foldl (fun n s => cond (decide (s.getD 0 0 < own)) (w64 (n + 1)) n) n = n + (ownN own ss : Int)
 | [], n, _, _ => by simp [ownN]
 | r :: ss, n, h0, h => by
  rw [List.length_cons] at h
  rw [List.foldl_cons]
  unfold ownN
  rw [List.countP_cons]
  by_cases hr : r.getD 0 0 < own
  ·rw [decide_eq_true hr, cond_true, cntS_ownN own ss _ (by rw [w64_in (by omega) (by omega)]; omega) (by rw [w64_in (by omega) (by omega)]; omega), w64_in (by omega) (by omega)]
   unfold ownN
   simp only [if_true]
   omega
  ·rw [decide_eq_false hr, cond_false, cntS_ownN own ss n h0 (by omega)]
   unfold ownN
   simp
theorem trC_cons (x : Int) (xs : List Int) : trimL (x :: xs) = if trimL xs = [] ∧ x = 0 then [] else x :: trimL xs := by
 unfold trimL
 rw [List.reverse_cons]
 generalize xs.reverse = ys
 induction ys with
 | nil =>
  by_cases h : x = 0
  ·simp [h]
  ·simp [h]
 | cons y ys ih =>
  rw [List.cons_append, List.dropWhile_cons, List.dropWhile_cons]
  by_cases h : y = 0
  ·simp only [h, decide_true, if_true]
   exact ih
  ·simp [h]
theorem tr_cons (x : Int) (xs : List Int) : trimL (x :: trimL xs) = trimL (x :: xs) := by
 have h : trimL (trimL xs) = trimL xs := Tm.trim xs
 rw [trC_cons, h, trC_cons]
theorem tr_tail : ∀ xs : List Int, (trimL xs).tail = trimL xs.tail
 | [] => rfl
 | x :: xs => by
  rw [trC_cons]
  by_cases h : trimL xs = [] ∧ x = 0
  ·rw [if_pos h, List.tail_cons, h.1]
   rfl
  ·rw [if_neg h]
   rfl
theorem tr_head (xs : List Int) : (trimL xs).getD 0 0 = xs.headD 0 := by
 rw [trimL_getD]
 cases xs <;> rfl
theorem rev_dropLast (X : List Int) : X.dropLast.reverse = X.reverse.tail := by
 rcases snoc_cases X with rfl | ⟨Z, z, rfl⟩
 ·rfl
 ·simp
theorem rev_head (X : List Int) : X.reverse.headD 0 = X.getLastD 0 := by
 rcases snoc_cases X with rfl | ⟨Z, z, rfl⟩
 ·rfl
 ·simp
theorem rule_cfg (T : Tiny m s q) (C : Cfw m X p Y) : ruleAt m (cfgW X p Y) = rl m p Y := by
 have hs := T.hs
 have hq := T.hq
 have b3 := T.b3
 have hp0 := C.p0
 have hp1 := C.p1
 have hy : 0 ≤ Y.headD 0 ∧ Y.headD 0 < m.Symbols := by
  cases Y with
  | nil => have := T.b1; show (0 : Int) ≤ 0 ∧ (0 : Int) < m.Symbols; omega
  | cons y l => exact C.sy y (List.mem_cons_self ..)
 have hmul : 0 ≤ p * m.Symbols ∧ p * m.Symbols ≤ 16 := by
  constructor
  ·exact Int.mul_nonneg hp0 (by omega)
  ·have : p * m.Symbols ≤ 4 * 4 := Int.mul_le_mul (by omega) (by omega) (by omega) (by omega)
   omega
 unfold ruleAt rl cfgW
 simp only
 rw [tr_head, w64_in (n := p * m.Symbols) (by omega) (by omega), w64_in (by omega) (by omega)]
theorem step_cfg (T : Tiny m s q) (X Y : List Int) (p : Int) {r : GRule} (hr : r.Move = 1 ∨ r.Move = -1) : stepC r (cfgW X p Y) = cfgW (nxX r X) r.Next (nxY r X Y) := by
 unfold stepC cfgW nxX nxY
 simp only
 rcases hr with h | h
 ·rw [if_pos (by omega), if_pos h, if_pos h, tr_cons, tr_tail]
  simp
 ·rw [if_neg (by omega), if_neg (by omega), if_neg (by omega), tr_tail, rev_dropLast, tr_head, rev_head, tr_tail, tr_cons]
  rw [← tr_cons (X.getLastD 0) (r.Write :: trimL Y.tail), tr_cons r.Write Y.tail, tr_cons]
end
end Go.Fn
namespace Go.Fn
open Go Go.Tc
section
variable {m : GMachine} {s q : Nat} {X : List Int} {p : Int} {Y : List Int}
theorem nx_len (r : GRule) (X Y : List Int) : (nxX r X).length + (nxY r X Y).length ≤ X.length + Y.length + 2 := by
 unfold nxX nxY
 by_cases h : r.Move = 1
 ·rw [if_pos h, if_pos h, List.length_append, List.length_singleton, List.length_tail]
  omega
 ·rw [if_neg h, if_neg h, List.length_dropLast, List.length_cons, List.length_cons, List.length_tail]
  omega
theorem cfg_small (X Y : List Int) (p : Int) (h : X.length + Y.length ≤ 190) : rmB X Y = true ∧ small (cfgW X p Y) = true := by
 have h1 := trimL_len X.reverse
 have h2 := trimL_len Y
 rw [List.length_reverse] at h1
 unfold rmB small cfgW
 simp only
 rw [decide_eq_true (by omega), decide_eq_true (by omega)]
 exact ⟨rfl, rfl⟩
theorem rl_move (T : Tiny m s q) (hn : rl m p Y ≠ noR) : (rl m p Y).Move = 1 ∨ (rl m p Y).Move = -1 := by
 have hmem : rl m p Y ∈ m.Rules := by
  unfold rl at hn ⊢
  rw [List.getD_eq_getElem?_getD] at hn ⊢
  cases h : m.Rules[(p * m.Symbols + Y.headD 0).toNat]? with
  | none => rw [h] at hn; exact absurd rfl hn
  | some r => exact List.mem_of_getElem? h
 have h := T.hr _ hmem
 unfold ruleB at h
 simp only [Bool.or_eq_true, Bool.and_eq_true, decide_eq_true_eq] at h
 rcases h with h | ⟨_, h, _⟩
 ·exact absurd h hn
 ·exact h
theorem hd_halt (T : Tiny m s q) (hL : (haltL m s).length ≤ 60) {B : Int} (C : Cfw m X p Y) (rows : List (List Int)) (hlen : X.length + Y.length + rows.length ≤ 95) (hn : rl m p Y = noR) :
  ∃ ss, run (F_impl_HaltDerivation_L1 B (haltL m s, ((ownL m s).length : Int), 0) (⟨m.Symbols, m.Symbols + m.States⟩, ers m, 0) (ownL m s)) (Wd m X p Y, rows, (rows.length : Int)) = some (.ret (some (rows ++ ss, 0))) ∧ derW (haltL m s) ss (Wd m X p Y) = (haltT m, 0) ∧ ownN ((ownL m s).length : Int) ss = 0 ∧ ss.length ≤ X.length + Y.length + 1 := by
 have hl := Wd_len m X p Y
 have hbl := halt_len (m := m) (s := s)
 have hW : (Wd m X p Y).length ≤ 400 := by omega
 obtain ⟨k, hk, f1, f2⟩ := firstF T C hn
 obtain ⟨bb, hci⟩ := impl_cfg T C hW
 obtain ⟨o1, _⟩ := impl_only T C hW (by unfold bas at hbl; omega)
 have htl : Y.tail.length ≤ Y.length := by rw [List.length_tail]; omega
 have E : Edw m X Y.tail := ⟨C.sx, fun x hx => C.sy x (List.mem_of_mem_tail hx), by rw [Ed_len]; omega⟩
 have rr := rgt_len (bas m s) (X.length + 1) Y.tail
 have lr := lft_len (bas m s) X.reverse
 rw [List.length_reverse] at lr
 have hsl : ([[(((ownL m s).length + k : Nat) : Int), ((X.length + 1 : Nat) : Int)]] ++ rgt (bas m s) (X.length + 1) Y.tail ++ lft (bas m s) X.reverse).length ≤ X.length + Y.length + 1 := by
  rw [List.length_append, List.length_append, List.length_singleton, rr, lr]
  omega
 refine ⟨[[(((ownL m s).length + k : Nat) : Int), ((X.length + 1 : Nat) : Int)]] ++ rgt (bas m s) (X.length + 1) Y.tail ++ lft (bas m s) X.reverse, ?_, der_erase T C hW hk f1, ?_, hsl⟩
 ·refine run_done ?_
  simp only [F_impl_HaltDerivation_L1]
  rw [o1 hn, bnd_some_eq]
  simp only [Bool.not_false, cond_true]
  rw [bnd_some_eq, hci, bnd_some_eq, cfg_roomy, bnd_some_eq, (cfg_small X Y p (by omega)).1]
  simp only [Out.elim, Bool.not_true, cond_false]
  have hb : F_impl_HaltDerivation_L2 (haltL m s, ((ownL m s).length : Int), 0) (⟨m.Symbols, m.Symbols + m.States⟩, ers m, 0) (rows, Wd m X p Y) = some (.inl (rows ++ [[(((ownL m s).length + k : Nat) : Int), ((X.length + 1 : Nat) : Int)]], Ed m X Y.tail)) := by
   simp only [F_impl_HaltDerivation_L2]
   rw [impl_first T C hW hL hk f1 f2, bnd_some_eq]
   simp only [Bool.not_true, cond_false]
   rw [app_ok (by simp; omega), bnd_some_eq]
  rw [run_next hb, impl_all T hL Y.tail _ E (by simp; omega)]
  have hf : fin100 (rows ++ [[(((ownL m s).length + k : Nat) : Int), ((X.length + 1 : Nat) : Int)]] ++ rgt (bas m s) (X.length + 1) Y.tail ++ lft (bas m s) X.reverse) = (rows ++ ([[(((ownL m s).length + k : Nat) : Int), ((X.length + 1 : Nat) : Int)]] ++ rgt (bas m s) (X.length + 1) Y.tail ++ lft (bas m s) X.reverse), 0) := by
   unfold fin100
   rw [if_neg (by simp only [List.length_append, List.length_singleton, rr, lr]; omega)]
   simp
  rw [hf]
  rfl
 ·refine ownN_zero fun r hr => ?_
  have hb : ((ownL m s).length : Int) ≤ (bas m s : Int) := by unfold bas; omega
  rcases List.mem_append.1 hr with hr | hr
  ·rcases List.mem_append.1 hr with hr | hr
   ·rw [List.mem_singleton] at hr
    rw [hr]
    show ((ownL m s).length : Int) ≤ (((ownL m s).length + k : Nat) : Int)
    omega
   ·exact rgt_ge hb _ r hr
  ·exact lft_ge hb _ r hr
theorem hd_go (T : Tiny m s q) (hL : (haltL m s).length ≤ 60) {B : Int} (hB : B ≤ 50) : ∀ (n : Nat) (X : List Int) (p : Int) (Y : List Int) (rows : List (List Int)), Cfw m X p Y → X.length + Y.length + 2 * n ≤ 40 → ((rows.length + n : Nat) : Int) = B →
  ∃ t c', goC m n (cfgW X p Y) = some (t, c') ∧
   (ruleAt m c' ≠ noR → run (F_impl_HaltDerivation_L1 B (haltL m s, ((ownL m s).length : Int), 0) (⟨m.Symbols, m.Symbols + m.States⟩, ers m, 0) (ownL m s)) (Wd m X p Y, rows, (rows.length : Int)) = some (.ret (some ([], 3)))) ∧
   (ruleAt m c' = noR → ∃ ss, run (F_impl_HaltDerivation_L1 B (haltL m s, ((ownL m s).length : Int), 0) (⟨m.Symbols, m.Symbols + m.States⟩, ers m, 0) (ownL m s)) (Wd m X p Y, rows, (rows.length : Int)) = some (.ret (some (rows ++ ss, 0))) ∧ derW (haltL m s) ss (Wd m X p Y) = (haltT m, 0) ∧ ownN ((ownL m s).length : Int) ss = t ∧ ss.length ≤ X.length + Y.length + 3 * n + 1) := by
 intro n
 induction n with
 | zero =>
  intro X p Y rows C hl hr
  refine ⟨0, cfgW X p Y, rfl, fun hne => ?_, fun he => ?_⟩
  ·rw [rule_cfg T C] at hne
   have hlw := Wd_len m X p Y
   have hbl := halt_len (m := m) (s := s)
   obtain ⟨k, hk, f1, f2⟩ := first_own T C hne
   obtain ⟨bb, hci⟩ := impl_cfg T C (by omega)
   obtain ⟨_, o2⟩ := impl_only T C (by omega) (by unfold bas at hbl; omega)
   refine run_done ?_
   simp only [F_impl_HaltDerivation_L1]
   rw [o2 k hk f1 f2, bnd_some_eq]
   simp only [Bool.not_true, cond_false]
   rw [decide_eq_true (by omega), cond_true, bnd_some_eq]
   simp only [Out.elim]
   rw [hci, bnd_some_eq, cfg_roomy, bnd_some_eq, (cfg_small X Y p (by omega)).1]
   rfl
  ·rw [rule_cfg T C] at he
   obtain ⟨ss, a, b, c, d⟩ := hd_halt T hL (B := B) C rows (by omega) he
   exact ⟨ss, a, b, c, by omega⟩
 | succ n ih =>
  intro X p Y rows C hl hr
  by_cases hn : rl m p Y = noR
  ·have he := rule_cfg T C
   rw [hn] at he
   refine ⟨0, cfgW X p Y, goC_halt he _, fun hne => absurd he hne, fun _ => ?_⟩
   obtain ⟨ss, a, b, c, d⟩ := hd_halt T hL (B := B) C rows (by omega) hn
   exact ⟨ss, a, b, c, by omega⟩
  ·have hlw := Wd_len m X p Y
   have hbl := halt_len (m := m) (s := s)
   obtain ⟨k, hk, f1, f2⟩ := first_own T C hn
   obtain ⟨_, o2⟩ := impl_only T C (by omega) (by unfold bas at hbl; omega)
   have hnl := nx_len (rl m p Y) X Y
   have hst := step_cfg T X Y p (rl_move T hn)
   have hsm := (cfg_small (nxX (rl m p Y) X) (nxY (rl m p Y) X Y) (rl m p Y).Next (by omega)).2
   have hwn : (Wn m X p Y).length ≤ 400 := by unfold Wn; rw [Wd_len]; omega
   obtain ⟨t, c', g1, g2, g3⟩ := ih (nxX (rl m p Y) X) (rl m p Y).Next (nxY (rl m p Y) X Y) (rows ++ [[(k : Int), ((X.length + 1 - offW m (ownL m s)[k] : Nat) : Int)]]) (C.next T hn) (by omega) (by rw [List.length_append, List.length_singleton]; omega)
   have hgo : goC m (n + 1) (cfgW X p Y) = some (t + 1, c') := by
    rw [goC_succ, rule_cfg T C, if_neg hn, hst, if_pos hsm, g1]
    rfl
   have hb : F_impl_HaltDerivation_L1 B (haltL m s, ((ownL m s).length : Int), 0) (⟨m.Symbols, m.Symbols + m.States⟩, ers m, 0) (ownL m s) (Wd m X p Y, rows, (rows.length : Int)) = some (.inl (Wn m X p Y, rows ++ [[(k : Int), ((X.length + 1 - offW m (ownL m s)[k] : Nat) : Int)]], ((rows ++ [[(k : Int), ((X.length + 1 - offW m (ownL m s)[k] : Nat) : Int)]]).length : Int))) := by
    simp only [F_impl_HaltDerivation_L1]
    rw [o2 k hk f1 f2, bnd_some_eq]
    simp only [Bool.not_true, cond_false]
    rw [decide_eq_false (by omega), cond_false, bnd_some_eq]
    simp only [Out.elim]
    rw [decide_eq_false (by omega), cond_false, app_ok (by simp; omega), bnd_some_eq, w64_nat1 (by omega), List.length_append, List.length_singleton]
   refine ⟨t + 1, c', hgo, fun hne => ?_, fun he => ?_⟩
   ·rw [run_next hb]
    exact g2 hne
   ·obtain ⟨ss, a, b, c, d⟩ := g3 he
    refine ⟨[(k : Int), ((X.length + 1 - offW m (ownL m s)[k] : Nat) : Int)] :: ss, ?_, ?_, ?_, by rw [List.length_cons]; omega⟩
    ·rw [run_next hb]
     have a' : run (F_impl_HaltDerivation_L1 B (haltL m s, ((ownL m s).length : Int), 0) (⟨m.Symbols, m.Symbols + m.States⟩, ers m, 0) (ownL m s)) (Wn m X p Y, rows ++ [[(k : Int), ((X.length + 1 - offW m (ownL m s)[k] : Nat) : Int)]], ((rows ++ [[(k : Int), ((X.length + 1 - offW m (ownL m s)[k] : Nat) : Int)]]).length : Int)) = _ := a
     rw [a', List.append_assoc]
     rfl
    ·rw [der_own T C hk f1 hwn]
     exact b
    ·have e : ([(k : Int), ((X.length + 1 - offW m (ownL m s)[k] : Nat) : Int)] : List Int).getD 0 0 = (k : Int) := rfl
     unfold ownN at c ⊢
     rw [List.countP_cons, c, e, decide_eq_true (by omega)]
     rfl
theorem halt_small (hl : m.Rules.length ≤ 4) : (haltL m 2).length ≤ 60 := by
 have h1 := flatMap_length_le (ownRw m 2) (n := 6) (List.range m.Rules.length) (fun i _ => by have := ownRw_len m 2 i; omega)
 have h2 := flatMap_length_le (fun i => cond (isNo m i) (freeRw m i) []) (n := 2) (List.range m.Rules.length) (fun i _ => by
  cases isNo m i
  ·exact Nat.zero_le _
  ·exact freeRw_len m i)
 have h3 := eraseL_len m 2
 rw [List.length_range] at h1 h2
 rw [haltL_eq, List.length_append, List.length_append, h3]
 unfold ownL freeL
 omega
end
end Go.Fn
namespace Go.Fn
open Go Go.Tc
section
def sm5 (w : List Int) : Prop := ∀ x ∈ w, 0 ≤ x ∧ x ≤ 5
theorem sm5.app {a b : List Int} (ha : sm5 a) (hb : sm5 b) : sm5 (a ++ b) := fun x hx => by
 rcases List.mem_append.1 hx with h | h
 ·exact ha x h
 ·exact hb x h
variable {rs : List GRewrite} {f t : List Int}
theorem rulesL_len (rs : List GRewrite) (f t : List Int) : (rulesL rs f t).length = 9 + rs.length := by
 simp [rulesL, headL_len]
 omega
theorem rl_get0 : (rulesL rs f t).getD 0 zD = ⟨[6], 6 :: (f ++ [6])⟩ := rfl
theorem rl_get7 : (rulesL rs f t).getD 7 zD = ⟨[6], [6]⟩ := rfl
theorem rl_let {c : Nat} (h : c ≤ 5) : (rulesL rs f t).getD (c + 1) zD = ⟨[(c : Int)], [(c : Int)]⟩ := by
 have : c = 0 ∨ c = 1 ∨ c = 2 ∨ c = 3 ∨ c = 4 ∨ c = 5 := by omega
 rcases this with rfl | rfl | rfl | rfl | rfl | rfl <;> rfl
theorem rl_rule {k : Nat} (h : k < rs.length) : (rulesL rs f t).getD (8 + k) zD = toD (rs.getD k zR) := by
 have hl := headL_len f
 unfold rulesL
 rw [List.getD_eq_getElem?_getD, List.append_assoc, List.getElem?_append_right (by omega), hl, show 8 + k - 8 = k by omega, List.getElem?_append_left (by rw [List.length_map]; exact h), List.getElem?_map, List.getD_eq_getElem?_getD, List.getElem?_eq_getElem h]
 rfl
theorem rl_last : (rulesL rs f t).getD (8 + rs.length) zD = ⟨t ++ [6, 7], [7]⟩ := by
 have hl := headL_len f
 unfold rulesL
 rw [List.getD_eq_getElem?_getD, List.getElem?_append_right (by rw [List.length_append, List.length_map]; omega), List.length_append, List.length_map, hl, Nat.sub_self]
 rfl
theorem tops_app (ds : List GDomino) (a b : List Int) : topsOf ds (a ++ b) = topsOf ds a ++ topsOf ds b := List.flatMap_append ..
theorem bots_app2 (ds : List GDomino) (a b : List Int) : botsOf ds (a ++ b) = botsOf ds a ++ botsOf ds b := List.flatMap_append ..
theorem tops_one (ds : List GDomino) (k : Nat) : topsOf ds [(k : Int)] = (ds.getD k zD).Top := by
 unfold topsOf
 rw [List.flatMap_singleton, Int.toNat_natCast]
theorem bots_one (ds : List GDomino) (k : Nat) : botsOf ds [(k : Int)] = (ds.getD k zD).Bottom := by
 unfold botsOf
 rw [List.flatMap_singleton, Int.toNat_natCast]
theorem plus1_one {c : Nat} (h : c ≤ 1000) : w64 ((c : Int) + 1) = ((c + 1 : Nat) : Int) := w64_nat1 (by omega)
theorem let_tops : ∀ {w : List Int}, sm5 w → topsOf (rulesL rs f t) (plus1 w) = w ∧ botsOf (rulesL rs f t) (plus1 w) = w ∧ ∀ x ∈ plus1 w, 0 ≤ x ∧ x ≤ 6
 | [], _ => ⟨rfl, rfl, fun x hx => by cases hx⟩
 | c :: w, h => by
  have hc := h c (List.mem_cons_self ..)
  obtain ⟨a, b, d⟩ := let_tops (w := w) (fun x hx => h x (List.mem_cons_of_mem _ hx))
  obtain ⟨n, rfl⟩ : ∃ n : Nat, c = (n : Int) := ⟨c.toNat, by omega⟩
  have e : plus1 ((n : Int) :: w) = [((n + 1 : Nat) : Int)] ++ plus1 w := by
   unfold plus1
   rw [List.map_cons, plus1_one (by omega)]
   rfl
  rw [e, tops_app, bots_app2, tops_one, bots_one, rl_let (by omega), a, b]
  refine ⟨rfl, rfl, fun x hx => ?_⟩
  rcases List.mem_append.1 hx with hx | hx
  ·rw [List.mem_singleton] at hx
   omega
  ·exact d x hx
theorem sm5_take {w : List Int} (h : sm5 w) (n : Nat) : sm5 (w.take n) := fun x hx => h x (List.mem_of_mem_take hx)
theorem sm5_drop {w : List Int} (h : sm5 w) (n : Nat) : sm5 (w.drop n) := fun x hx => h x (List.mem_of_mem_drop hx)
structure Fitting (rs : List GRewrite) (f t : List Int) (a : List Int × List Int) : Prop where
 sm : sm5 a.2
 eq : topsOf (rulesL rs f t) a.1 ++ a.2 ++ [6] = botsOf (rulesL rs f t) a.1
 rg : ∀ x ∈ a.1, 0 ≤ x ∧ x < ((9 + rs.length : Nat) : Int)
 hd : ∃ l, a.1 = 0 :: l
theorem fit_first (hf : sm5 f) : Fitting rs f t ([0], f) := by
 refine ⟨hf, ?_, fun x hx => ?_, [], rfl⟩
 ·have e : ([0] : List Int) = [((0 : Nat) : Int)] := rfl
  simp only
  rw [e, tops_one, bots_one, rl_get0]
  simp
 ·rw [List.mem_singleton] at hx
  omega
theorem fit_step {a : List Int × List Int} (F : Fitting rs f t a) (hlr : rs.length ≤ 60) (hw : a.2.length ≤ 400) (hto : ∀ r ∈ rs, sm5 r.To) {st : List Int} (h : (applyW rs a.2 (st.getD 0 0) (st.getD 1 0)).2 = 0) : Fitting rs f t (mstep rs a st) := by
 obtain ⟨h1, h2, h3, h4, h5, h6⟩ := applyW_ok h
 have hat : (a.2.drop (st.getD 1 0).toNat).take (rs.getD (st.getD 0 0).toNat zR).From.length = (rs.getD (st.getD 0 0).toNat zR).From := by
  unfold applyW at h
  rw [inB_iff.2 (by omega), inB_iff.2 (by omega), Bool.and_self, cond_true] at h
  by_cases hc : (a.2.drop (st.getD 1 0).toNat).take (rs.getD (st.getD 0 0).toNat zR).From.length = (rs.getD (st.getD 0 0).toNat zR).From
  ·exact hc
  ·rw [decide_eq_false hc, cond_false] at h
   cases h
 obtain ⟨k, hk⟩ : ∃ k : Nat, st.getD 0 0 = (k : Int) := ⟨(st.getD 0 0).toNat, by omega⟩
 unfold mstep
 rw [h5]
 rw [hk] at h2 h4 hat ⊢
 rw [Int.toNat_natCast] at h4 hat ⊢
 generalize (st.getD 1 0).toNat = n at *
 have hkl : k < rs.length := by omega
 have hmem : rs.getD k zR ∈ rs := by
  rw [List.getD_eq_getElem?_getD, List.getElem?_eq_getElem hkl]
  exact List.getElem_mem _
 have hrule := rl_rule (f := f) (t := t) hkl
 generalize hR : rs.getD k zR = r at *
 have hw3 := cut3 a.2 n r.From.length
 rw [hat] at hw3
 have t8 : w64 (8 + (k : Int)) = ((8 + k : Nat) : Int) := by rw [w64_in (by omega) (by omega)]; omega
 obtain ⟨u1, u2, u3⟩ := let_tops (rs := rs) (f := f) (t := t) (sm5_take F.sm n)
 obtain ⟨v1, v2, v3⟩ := let_tops (rs := rs) (f := f) (t := t) (sm5_drop F.sm (n + r.From.length))
 have e7 : ([7] : List Int) = [((7 : Nat) : Int)] := rfl
 refine ⟨?_, ?_, ?_, ?_⟩
 ·exact ((sm5_take F.sm n).app (hto r hmem)).app (sm5_drop F.sm _)
 ·simp only
  rw [t8, tops_app, tops_app, tops_app, tops_app, bots_app2, bots_app2, bots_app2, bots_app2, u1, u2, v1, v2, tops_one, bots_one, hrule, e7, tops_one, bots_one, rl_get7, ← F.eq]
  unfold putW toD
  have key : ∀ (Tp P D A : List Int), A = P ++ (r.From ++ D) → Tp ++ P ++ r.From ++ D ++ [6] ++ (P ++ r.To ++ D) ++ [6] = Tp ++ A ++ [6] ++ P ++ r.To ++ D ++ [6] := by
   intro Tp P D A h
   rw [h]
   simp
  exact key _ _ _ _ hw3
 ·intro x hx
  simp only [List.mem_append, List.mem_singleton, t8] at hx
  rcases hx with (((hx | hx) | hx) | hx) | hx
  ·exact F.rg x hx
  ·have := u3 x hx; omega
  ·omega
  ·have := v3 x hx; omega
  ·omega
 ·obtain ⟨l, hl⟩ := F.hd
  simp only
  rw [hl]
  exact ⟨_, rfl⟩
theorem fit_all (hlr : rs.length ≤ 60) (hto : ∀ r ∈ rs, sm5 r.To) : ∀ (ss : List (List Int)) (a : List Int × List Int), Fitting rs f t a → a.2.length ≤ 400 → (derW rs ss a.2).2 = 0 → Fitting rs f t (ss.foldl (mstep rs) a) ∧ (ss.foldl (mstep rs) a).2 = (derW rs ss a.2).1
 | [], a, F, _, _ => ⟨F, rfl⟩
 | st :: ss, a, F, hw, h => by
  obtain ⟨d1, d2, d3⟩ := derW_cons h
  have F' := fit_step F hlr hw hto d2
  obtain ⟨_, _, _, _, q5, q6⟩ := applyW_ok d2
  have e : (mstep rs a st).2 = (applyW rs a.2 (st.getD 0 0) (st.getD 1 0)).1 := rfl
  rw [List.foldl_cons]
  obtain ⟨g1, g2⟩ := fit_all hlr hto ss (mstep rs a st) F' (by rw [e, q5]; exact q6) (by rw [e]; exact d3)
  refine ⟨g1, ?_⟩
  rw [g2, e]
  conv => rhs; rw [derW]
  rw [decide_eq_false (fun hh => hh d1), cond_false, decide_eq_false (fun hh => hh d2), cond_false]
def lastG (rs : List GRewrite) (a : List Int) : List Int := a ++ [((8 + rs.length : Nat) : Int)]
theorem match_fits (hlr : rs.length ≤ 60) (hto : ∀ r ∈ rs, sm5 r.To) (hf : sm5 f) (hfl : f.length ≤ 400) {ss : List (List Int)} (h : derW rs ss f = (t, 0)) (hG : (lastG rs (ss.foldl (mstep rs) ([0], f)).1).length ≤ 400) :
  rangeB (rulesL rs f t).length (lastG rs (ss.foldl (mstep rs) ([0], f)).1) = true ∧ topsOf (rulesL rs f t) (lastG rs (ss.foldl (mstep rs) ([0], f)).1) = botsOf (rulesL rs f t) (lastG rs (ss.foldl (mstep rs) ([0], f)).1) ∧ ∃ l, lastG rs (ss.foldl (mstep rs) ([0], f)).1 = 0 :: l := by
 obtain ⟨F, e⟩ := fit_all (t := t) hlr hto ss ([0], f) (fit_first hf) hfl (by rw [h])
 rw [h] at e
 generalize ss.foldl (mstep rs) ([0], f) = a at *
 simp only at e
 have hl := rulesL_len rs f t
 refine ⟨?_, ?_, ?_⟩
 ·unfold rangeB
  rw [decide_eq_true hG, decide_eq_true (by unfold lastG; simp), Bool.and_self, Bool.true_and, List.all_eq_true]
  intro x hx
  unfold lastG at hx
  rcases List.mem_append.1 hx with hx | hx
  ·have := F.rg x hx
   exact inB_iff.2 (by omega)
  ·rw [List.mem_singleton] at hx
   exact inB_iff.2 (by omega)
 ·unfold lastG
  rw [tops_app, bots_app2, tops_one, bots_one, rl_last, ← F.eq, e]
  simp
 ·obtain ⟨l, hl⟩ := F.hd
  unfold lastG
  rw [hl]
  exact ⟨_, rfl⟩
theorem star_app (a b : List Int) (c : Bool) : starW (a ++ b) c = starW a c ++ starW b c := List.flatMap_append ..
theorem star_shift : ∀ w : List Int, 9 :: starW w true = starW w false ++ [9]
 | [] => rfl
 | c :: w => by
  have := star_shift w
  unfold starW at *
  rw [List.flatMap_cons, List.flatMap_cons]
  exact congrArg (fun l => 9 :: c :: l) this
variable {ds : List GDomino}
theorem pl_get0 : (plainL ds).getD 0 zD = firstD (ds.getD 0 zD) := rfl
theorem pl_get {k : Nat} (h : k < ds.length) : (plainL ds).getD (k + 1) zD = starD (ds.getD k zD) := by
 unfold plainL
 rw [List.getD_eq_getElem?_getD, List.append_assoc, List.singleton_append, List.getElem?_cons_succ, List.getElem?_append_left (by rw [List.length_map]; exact h), List.getElem?_map, List.getD_eq_getElem?_getD, List.getElem?_eq_getElem h]
 rfl
theorem pl_last : (plainL ds).getD (ds.length + 1) zD = lastD := by
 unfold plainL
 rw [List.getD_eq_getElem?_getD, List.getElem?_append_right (by simp), List.length_append, List.length_map, List.length_singleton, show ds.length + 1 - (1 + ds.length) = 0 by omega]
 rfl
theorem pl_tops (hl : ds.length ≤ 1000) : ∀ l : List Int, (∀ x ∈ l, 0 ≤ x ∧ x < ds.length) → topsOf (plainL ds) (l.map fun x => w64 (x + 1)) = starW (topsOf ds l) true ∧ botsOf (plainL ds) (l.map fun x => w64 (x + 1)) = starW (botsOf ds l) false
 | [], _ => ⟨rfl, rfl⟩
 | x :: l, h => by
  obtain ⟨a, b⟩ := pl_tops hl l (fun y hy => h y (List.mem_cons_of_mem _ hy))
  have hx := h x (List.mem_cons_self ..)
  obtain ⟨n, rfl⟩ : ∃ n : Nat, x = (n : Int) := ⟨x.toNat, by omega⟩
  have e : ((n : Int) :: l).map (fun x => w64 (x + 1)) = [((n + 1 : Nat) : Int)] ++ l.map fun x => w64 (x + 1) := by
   rw [List.map_cons, plus1_one (by omega)]
   rfl
  have e2 : (n : Int) :: l = [(n : Int)] ++ l := rfl
  rw [e, e2, tops_app, bots_app2, tops_app, bots_app2, star_app, star_app, a, b, tops_one, bots_one, tops_one, bots_one, pl_get (by omega)]
  exact ⟨rfl, rfl⟩
theorem plain_fits (hl : 1 ≤ ds.length ∧ ds.length ≤ 1000) {l : List Int} (hr : rangeB ds.length (0 :: l) = true) (he : topsOf ds (0 :: l) = botsOf ds (0 :: l)) (hG : ([0] ++ l.map (fun x => w64 (x + 1)) ++ [w64 ((ds.length : Int) + 1)] : List Int).length ≤ 400) :
  rangeB (plainL ds).length ([0] ++ l.map (fun x => w64 (x + 1)) ++ [w64 ((ds.length : Int) + 1)]) = true ∧ topsOf (plainL ds) ([0] ++ l.map (fun x => w64 (x + 1)) ++ [w64 ((ds.length : Int) + 1)]) = botsOf (plainL ds) ([0] ++ l.map (fun x => w64 (x + 1)) ++ [w64 ((ds.length : Int) + 1)]) := by
 have hpl := plainL_len ds
 have hm : ∀ x ∈ l, 0 ≤ x ∧ x < ds.length := fun x hx => rangeB_mem hr (List.mem_cons_of_mem _ hx)
 have ew : w64 ((ds.length : Int) + 1) = ((ds.length + 1 : Nat) : Int) := plus1_one (by omega)
 constructor
 ·unfold rangeB
  rw [decide_eq_true hG, decide_eq_true (by simp), Bool.and_self, Bool.true_and, List.all_eq_true]
  intro x hx
  rcases List.mem_append.1 hx with hx | hx
  ·rcases List.mem_append.1 hx with hx | hx
   ·rw [List.mem_singleton] at hx
    exact inB_iff.2 (by omega)
   ·obtain ⟨y, hy, rfl⟩ := List.mem_map.1 hx
    have := hm y hy
    rw [w64_in (by omega) (by omega)]
    exact inB_iff.2 (by omega)
  ·rw [List.mem_singleton, ew] at hx
   exact inB_iff.2 (by omega)
 ·obtain ⟨a, b⟩ := pl_tops hl.2 l hm
  have z : ([0] : List Int) = [((0 : Nat) : Int)] := rfl
  have z2 : (0 : Int) :: l = [((0 : Nat) : Int)] ++ l := rfl
  rw [z2, tops_app, bots_app2, tops_one, bots_one] at he
  rw [ew, z, tops_app, tops_app, bots_app2, bots_app2, a, b, tops_one, bots_one, tops_one, bots_one, pl_get0, pl_last]
  show (9 :: starW (ds.getD 0 zD).Top true) ++ starW (topsOf ds l) true ++ [8] = starW (ds.getD 0 zD).Bottom false ++ starW (botsOf ds l) false ++ [9, 8]
  rw [List.cons_append, ← star_app, ← star_app, he, star_shift]
  simp
end
end Go.Fn
namespace Go.Fn
open Go Go.Tc
section
variable {m : GMachine} {s q : Nat} {rs : List GRewrite} {f t : List Int} {ss : List (List Int)}
theorem impl_stepsOf (hm : machB m = true) {c : GConfig} (hc : confB m c = true) (hs : m.Symbols = s) (hq : m.States = q) (b1 : 2 ≤ s) (b2 : s ≤ 6) (hl : m.Rules.length ≤ 6000) (h5 : ¬ 5 < m.Symbols + m.States + 1) (h60 : (haltL m s).length ≤ 60) (h400 : (haltW m c).length ≤ 400) (hR : rewsB (haltL m s) = true) (hW : wordB (haltW m c) = true) (hss : ss.length ≤ 100) (hd : derW (haltL m s) ss (haltW m c) = (haltT m, 0)) :
  F_impl_StepsOfDerivation m c ss = some ((ownN ((ownL m s).length : Int) ss : Int), 0) := by
 obtain ⟨l1, l2, _⟩ := confB_len hc
 have hdl : (haltT m).length ≤ 1048576 := by unfold haltT; simp
 have hall := derW_all (by rw [hd] : (derW (haltL m s) ss (haltW m c)).2 = 0)
 unfold F_impl_StepsOfDerivation
 rw [impl_confV m c (machB_sml hm) (confB_sml hc), hm, hc, bnd_some_eq]
 simp only [Bool.and_self, Bool.not_true, cond_false]
 rw [impl_haltW m c hm l1 l2, impl_halt m hm hs hq b1 b2 hl]
 unfold haltWP
 rw [decide_eq_false h5, cond_false, cond_false, decide_eq_false (by omega), cond_false, decide_eq_false (by omega), cond_false, bnd_some_eq]
 simp only
 rw [decide_eq_false (fun h => h rfl : ¬ ((0 : Int) ≠ 0)), cond_false, bnd_some_eq]
 simp only
 have hdP : derP (haltL m s) ss (haltW m c) = (haltT m, 0) := by
  unfold derP
  rw [decide_eq_false (by omega), cond_false, hd]
 rw [decide_eq_false (fun h => h rfl : ¬ ((0 : Int) ≠ 0)), cond_false, impl_derived (haltL m s) (haltW m c) ss hR hW (by omega), bnd_some_eq, hdP]
 simp only
 rw [decide_eq_false (fun h => h rfl : ¬ ((0 : Int) ≠ 0)), cond_false, impl_equal _ _ hdl, bnd_some_eq, decide_eq_true rfl]
 simp only [Bool.not_true, cond_false]
 rw [cnt_run (body := F_impl_StepsOfDerivation_L1 ss (haltL m s, ((ownL m s).length : Int), 0)) ((ownL m s).length : Int) ss (by omega) (fun n i hi => by
   obtain ⟨g1, _⟩ := two_get (hall _ (List.getElem_mem hi))
   simp only [F_impl_StepsOfDerivation_L1, Int.ofNat_lt, hi, decide_true, cond_true, idx_nat hi, bnd_some_eq, g1]
   cases decide (ss[i].getD 0 0 < ((ownL m s).length : Int)) <;> rfl) (fun n => by simp [F_impl_StepsOfDerivation_L1])]
 unfold cntS
 rw [cntS_ownN _ ss 0 (by omega) (by omega), bnd_some_eq, Int.zero_add]
 rfl
theorem impl_modOf (s0 : Sml rs) (s1 : Sml f) (s2 : Sml t) (hr : rewsB rs = true) (hf : wordB f = true) (ht : wordB t = true) (hc : (rulesP rs f t).2 = 0) (hss : ss.length ≤ 100) (hd : derW rs ss f = (t, 0)) :
  F_impl_MatchOfDerivation rs f t ss = some (cond (decide (400 < (lastG rs (ss.foldl (mstep rs) ([0], f)).1).length)) ([], 5) (lastG rs (ss.foldl (mstep rs) ([0], f)).1, 0)) := by
 have lf := wordB_len hf
 have lt := wordB_len ht
 have hrl := rewsB_len hr
 obtain ⟨e1, e2, e3⟩ := ready_eq rs f t s0 s1 s2
 obtain ⟨hp, hD⟩ := rulesP_ok hc
 have hdP : derP rs ss f = (t, 0) := by
  unfold derP
  rw [decide_eq_false (by omega), cond_false, hd]
 unfold F_impl_MatchOfDerivation F_impl_RewritesToDominoes
 rw [e2, e3, hr, hf, ht]
 simp only [bnd_some_eq, Bool.and_self, Bool.not_true, cond_false]
 rw [impl_rules rs f t hr s0 lf lt, hp, bnd_some_eq, bnd_some_eq]
 simp only
 rw [decide_eq_false (fun h => h rfl : ¬ ((0 : Int) ≠ 0)), cond_false, impl_derived rs f ss hr hf (by omega), bnd_some_eq, hdP]
 simp only
 rw [decide_eq_false (fun h => h rfl : ¬ ((0 : Int) ≠ 0)), cond_false, impl_equal _ _ (by omega), bnd_some_eq, decide_eq_true rfl]
 simp only [Bool.not_true, cond_false]
 obtain ⟨bl, hi⟩ := mod_run (body := F_impl_MatchOfDerivation_L1 rs ss) rs ss hr (by omega) ([], 5) false (fun a i hi hw d1 d2 hl => by
   obtain ⟨g1, g2⟩ := two_get d1
   obtain ⟨q1, q2, q3, q4, q5, q6⟩ := applyW_ok d2
   have hwl := wordB_len hw
   have hrl := rget_len hr (ss[i].getD 0 0).toNat
   simp only [F_impl_MatchOfDerivation_L1, Int.ofNat_lt, hi, decide_true, cond_true, idx_nat hi, bnd_some_eq, g1, g2]
   rw [idx_getD zR q1 q2, bnd_some_eq, impl_apply rs a.2 _ _ hr hwl]
   obtain ⟨n, hn⟩ : ∃ n : Nat, ss[i].getD 1 0 = n := ⟨(ss[i].getD 1 0).toNat, by omega⟩
   unfold mstep
   rw [q5]
   rw [hn] at q4 ⊢
   rw [Int.toNat_natCast] at q4 ⊢
   generalize hR : rs.getD (ss[i].getD 0 0).toNat zR = Ru at *
   rw [w64_add (by omega), slc_from (by omega), bnd_some_eq, slc0' (by omega), bnd_some_eq, impl_moved _ _ (by simp; omega), bnd_some_eq, impl_moved _ _ (by simp; omega), bnd_some_eq, impl_joined _ (by simp) (by simp; omega), bnd_some_eq, bnd_some_eq]
   rw [Bool.false_and, cond_false]
   have e : ([a.1, (a.2.take n).map (fun x => w64 (x + 1)), [w64 (8 + ss[i].getD 0 0)], (a.2.drop (n + Ru.From.length)).map (fun x => w64 (x + 1)), [7]] : List (List Int)).flatten = a.1 ++ plus1 (a.2.take n) ++ [w64 (8 + ss[i].getD 0 0)] ++ plus1 (a.2.drop (n + Ru.From.length)) ++ [7] := by
    simp [plus1]
   rw [e])
   (fun a b => by simp [F_impl_MatchOfDerivation_L1]) f hf (by rw [hd])
 have hi := hi.resolve_right (fun h => by cases h.1)
 have hll := rulesL_len rs f t
 unfold F_impl_size_impl_Domino F_impl_shortMatch
 generalize ss.foldl (mstep rs) ([0], f) = F at *
 have hFl : F.1.length ≤ 100000 := by omega
 rw [hi]
 simp only [bnd_some_eq, Out.elim]
 have ew : w64 (((rulesL rs f t).length : Int) - 1) = ((8 + rs.length : Nat) : Int) := by rw [w64_in (by omega) (by omega)]; omega
 rw [ew, app_ok (by simp; omega)]
 simp only [bnd_some_eq]
 show bnd (cond (decide (400 < ((lastG rs F.1).length : Int))) (some (([] : List Int), (5 : Int))) (some (lastG rs F.1, 0))) _ = _
 rw [show decide ((400 : Int) < ((lastG rs F.1).length : Int)) = decide (400 < (lastG rs F.1).length) by rw [decide_eq_decide]; omega]
 cases decide (400 < (lastG rs F.1).length) <;> rfl
theorem impl_rtd (s0 : Sml rs) (s1 : Sml f) (s2 : Sml t) (hr : rewsB rs = true) (hf : wordB f = true) (ht : wordB t = true) : F_impl_RewritesToDominoes rs f t = some (rulesP rs f t) := by
 unfold F_impl_RewritesToDominoes
 obtain ⟨e1, e2, e3⟩ := ready_eq rs f t s0 s1 s2
 rw [e2, e3, hr, hf, ht, impl_rules rs f t hr s0 (wordB_len hf) (wordB_len ht)]
 rfl
theorem impl_check (s0 : Sml rs) (hr : rewsB rs = true) (hf : wordB f = true) (hss : ss.length ≤ 1048576) : F_impl_CheckDerivation rs f ss = some (derP rs ss f) := by
 unfold F_impl_CheckDerivation
 rw [impl_rews rs s0, hr, impl_word f (by have := wordB_len hf; omega), hf, impl_derived rs f ss hr hf hss]
 rfl
theorem sm5_cons {x : Int} {l : List Int} (h : 0 ≤ x ∧ x ≤ 5) (hl : sm5 l) : sm5 (x :: l) := fun y hy => by
 rcases List.mem_cons.1 hy with rfl | hy
 ·exact h
 ·exact hl y hy
theorem sm5_nil : sm5 [] := fun x hx => by cases hx
theorem halt_sm5 (T : Tiny m s q) : ∀ r ∈ haltL m s, sm5 r.From ∧ sm5 r.To ∧ r.From.length ≠ 0 ∧ r.To.length ≠ 0 := by
 intro r hr
 have hs := T.hs
 have hq := T.hq
 have b3 := T.b3
 rw [haltL_eq] at hr
 rcases List.mem_append.1 hr with hr | hr
 ·obtain ⟨p, a, hp, ha, hn, hsh⟩ := (ownL_mem T r).1 hr
  have hi : p * s + a < q * s := at_lt hp ha
  have hmem : m.Rules.getD (p * s + a) noR ∈ m.Rules := by
   rw [List.getD_eq_getElem?_getD, List.getElem?_eq_getElem (by rw [T.hl]; exact hi)]
   exact List.getElem_mem _
  have h := T.hr _ hmem
  unfold ruleB at h
  simp only [Bool.or_eq_true, Bool.and_eq_true, decide_eq_true_eq] at h
  rcases h with h | ⟨hw, _, hx⟩
  ·exact absurd h hn
  have hw := inB_iff.1 hw
  have hx := inB_iff.1 hx
  generalize m.Rules.getD (p * s + a) noR = u at *
  rcases hsh with ⟨_, rfl | ⟨_, rfl⟩⟩ | ⟨_, ⟨c, hc, rfl⟩ | rfl | ⟨_, ⟨c, hc, rfl⟩ | rfl⟩⟩ <;>
   refine ⟨?_, ?_, by simp, by simp⟩ <;> repeat' first | exact sm5_nil | refine sm5_cons (by omega) ?_
 ·rcases List.mem_append.1 hr with hr | hr
  ·obtain ⟨p, a, hp, ha, hn, rfl | ⟨_, rfl⟩⟩ := (freeL_mem T r).1 hr <;>
    refine ⟨?_, ?_, by simp, by simp⟩ <;> unfold ers <;> repeat' first | exact sm5_nil | refine sm5_cons (by omega) ?_
  ·obtain ⟨c, hc, hr⟩ := List.mem_flatMap.1 hr
   have hc := List.mem_range.1 hc
   unfold eraseRw at hr
   simp only [List.mem_cons, List.not_mem_nil, or_false] at hr
   rcases hr with rfl | rfl <;> refine ⟨?_, ?_, by simp, by simp⟩ <;> repeat' first | exact sm5_nil | refine sm5_cons (by omega) ?_
theorem sm5_small {w : List Int} (h : sm5 w) : smallB w = true := by
 unfold smallB
 rw [List.all_eq_true]
 intro x hx
 exact inB_iff.2 (h x hx)
theorem sm5_word {w : List Int} (h : sm5 w) (hl : w.length ≤ 400) : wordB w = true := by
 unfold wordB
 rw [decide_eq_true hl, Bool.true_and, List.all_eq_true]
 intro x hx
 have := h x hx
 exact inB_iff.2 (by omega)
theorem rtd_ok (hlr : rs.length ≤ 60) (hrs : ∀ r ∈ rs, sm5 r.From ∧ sm5 r.To ∧ r.From.length ≠ 0 ∧ r.To.length ≠ 0) (hlen : ∀ r ∈ rs, r.From.length ≤ 400 ∧ r.To.length ≤ 400) (hf : sm5 f) (ht : sm5 t) (lf : f.length ≤ 300) (lt : t.length ≤ 300) :
  (rulesP rs f t).2 = 0 ∧ (rulesL rs f t).all (leastB 7) = true ∧ (rulesL rs f t).all nonE = true := by
 have hd : ∀ d ∈ rulesL rs f t, domB d = true ∧ leastB 7 d = true ∧ nonE d = true := by
  have key : ∀ d : GDomino, (∀ x ∈ d.Top, 0 ≤ x ∧ x ≤ 7) → (∀ x ∈ d.Bottom, 0 ≤ x ∧ x ≤ 7) → 1 ≤ d.Top.length → d.Top.length ≤ 400 → 1 ≤ d.Bottom.length → d.Bottom.length ≤ 400 → domB d = true ∧ leastB 7 d = true ∧ nonE d = true := by
   intro d h1 h2 h3 h4 h5 h6
   have a1 : (d.Top.all fun x => inB x 0 9) = true := List.all_eq_true.2 fun x hx => by have := h1 x hx; exact inB_iff.2 (by omega)
   have a2 : (d.Bottom.all fun x => inB x 0 9) = true := List.all_eq_true.2 fun x hx => by have := h2 x hx; exact inB_iff.2 (by omega)
   have a3 : (d.Top.all fun x => inB x 0 7) = true := List.all_eq_true.2 fun x hx => inB_iff.2 (h1 x hx)
   have a4 : (d.Bottom.all fun x => inB x 0 7) = true := List.all_eq_true.2 fun x hx => inB_iff.2 (h2 x hx)
   unfold domB wordB leastB nonE
   rw [a1, a2, a3, a4, decide_eq_true h4, decide_eq_true h6, decide_eq_true (by omega), decide_eq_true (by omega), decide_eq_true (by omega)]
   exact ⟨rfl, rfl, rfl⟩
  have up : ∀ {w : List Int}, sm5 w → ∀ x ∈ w, 0 ≤ x ∧ x ≤ 7 := fun h x hx => by have := h x hx; omega
  have app7 : ∀ {a b : List Int}, (∀ x ∈ a, 0 ≤ x ∧ x ≤ 7) → (∀ x ∈ b, 0 ≤ x ∧ x ≤ 7) → ∀ x ∈ a ++ b, 0 ≤ x ∧ x ≤ 7 := fun ha hb x hx => by
   rcases List.mem_append.1 hx with h | h
   ·exact ha x h
   ·exact hb x h
  have one7 : ∀ {y : Int}, 0 ≤ y → y ≤ 7 → ∀ x ∈ [y], 0 ≤ x ∧ x ≤ 7 := fun h0 h1 x hx => by
   rw [List.mem_singleton] at hx
   omega
  intro d hd
  simp only [rulesL, headL, List.mem_append, List.mem_singleton, List.mem_map] at hd
  rcases hd with (((rfl | ⟨c, hc, rfl⟩) | rfl) | ⟨r, hr, rfl⟩) | rfl
  ·exact key _ (one7 (by omega) (by omega)) (app7 (a := [6]) (one7 (by omega) (by omega)) (app7 (up hf) (one7 (by omega) (by omega)))) (by simp) (by simp) (by simp) (by simp; omega)
  ·have hc := List.mem_range.1 hc
   exact key _ (one7 (by omega) (by omega)) (one7 (by omega) (by omega)) (by simp [letD]) (by simp [letD]) (by simp [letD]) (by simp [letD])
  ·exact key _ (one7 (by omega) (by omega)) (one7 (by omega) (by omega)) (by simp) (by simp) (by simp) (by simp)
  ·obtain ⟨r1, r2, r3, r4⟩ := hrs r hr
   obtain ⟨r5, r6⟩ := hlen r hr
   exact key _ (up r1) (up r2) (by show 1 ≤ r.From.length; omega) r5 (by show 1 ≤ r.To.length; omega) r6
  ·exact key _ (app7 (up ht) (app7 (a := [6]) (b := [7]) (one7 (by omega) (by omega)) (one7 (by omega) (by omega)))) (one7 (by omega) (by omega)) (by simp) (by simp; omega) (by simp) (by simp)
 have hl := rulesL_len rs f t
 have hD : domsB (rulesL rs f t) = true := by
  unfold domsB
  rw [decide_eq_true (by omega), decide_eq_true (by omega), Bool.and_self, Bool.true_and, List.all_eq_true]
  exact fun d h => (hd d h).1
 have hL : (rs.all fun r => leastB 5 (toD r)) = true := by
  rw [List.all_eq_true]
  intro r hr
  obtain ⟨r1, r2, _⟩ := hrs r hr
  unfold leastB toD
  rw [Bool.and_eq_true, List.all_eq_true, List.all_eq_true]
  exact ⟨fun x hx => inB_iff.2 (r1 x hx), fun x hx => inB_iff.2 (r2 x hx)⟩
 refine ⟨?_, List.all_eq_true.2 fun d h => (hd d h).2.1, List.all_eq_true.2 fun d h => (hd d h).2.2⟩
 unfold rulesP
 rw [sm5_small hf, sm5_small ht, hL, hD]
 rfl
end
end Go.Fn
namespace Go.Fn
open Go Go.Tc
theorem b10Nums_eq (a b : List Int) (h : a.length ≤ 1048576) : F_laws_b10Nums a b = some (decide (a = b)) := by
 unfold F_laws_b10Nums
 by_cases hl : a.length = b.length
 ·rw [decide_eq_false (by omega : ¬ (a.length : Int) ≠ (b.length : Int)), cond_false]
  rw [run_all a.length (by omega) (fun i => decide (a[i]? = b[i]?)) (.ret false) (.brk (a.length : Int)) ?_ ?_ ?_]
  ·by_cases k : ∀ i, i < a.length → decide (a[i]? = b[i]?) = true
   ·rw [if_pos k, bnd_some_eq]
    have : a = b := by
     refine List.ext_getElem? fun i => ?_
     by_cases hi : i < a.length
     ·simpa using k i hi
     ·rw [List.getElem?_eq_none (by omega), List.getElem?_eq_none (by omega)]
    rw [decide_eq_true this]
    rfl
   ·rw [if_neg k, bnd_some_eq]
    have : ¬ a = b := fun e => k fun i _ => by rw [e]; simp
    rw [decide_eq_false this]
    rfl
  ·intro i hi hp
   have hi2 : i < b.length := by omega
   simp only [decide_eq_true_eq, List.getElem?_eq_getElem hi, List.getElem?_eq_getElem hi2, Option.some.injEq] at hp
   simp only [F_laws_b10Nums_L1]
   rw [decide_eq_true (by omega), cond_true, idx_nat hi, bnd_some_eq, idx_nat hi2, bnd_some_eq, decide_eq_false (by simpa using hp), cond_false]
  ·intro i hi hp
   have hi2 : i < b.length := by omega
   simp only [decide_eq_false_iff_not, List.getElem?_eq_getElem hi, List.getElem?_eq_getElem hi2, Option.some.injEq] at hp
   simp only [F_laws_b10Nums_L1]
   rw [decide_eq_true (by omega), cond_true, idx_nat hi, bnd_some_eq, idx_nat hi2, bnd_some_eq, decide_eq_true (by simpa using hp), cond_true]
  ·simp [F_laws_b10Nums_L1]
 ·rw [decide_eq_true (by omega : (a.length : Int) ≠ (b.length : Int)), cond_true, decide_eq_false (fun e => hl (by rw [e]))]
def StepF (rs : List GRewrite) (fs : List Gfound) : Prop := ∀ (i : Nat) (h : i < fs.length), 0 < i → ∃ (p : Nat) (hp : p < i), ∃ m ∈ movesL rs (fs[p]'(by omega)).move_word, fs[i] = toF m p
theorem StepF.add {rs : List GRewrite} {fs : List Gfound} (h : StepF rs fs) {k : Nat} (hk : k < fs.length) {m : Gmove} (hm : m ∈ movesL rs fs[k].move_word) : StepF rs (fs ++ [toF m k]) := by
 intro i hi h0
 by_cases hlt : i < fs.length
 ·obtain ⟨p, hp, m', hm', e⟩ := h i hlt h0
  refine ⟨p, hp, m', ?_, ?_⟩
  ·rw [List.getElem_append_left (by omega)]; exact hm'
  ·rw [List.getElem_append_left hlt]; exact e
 ·have : i = fs.length := by simp at hi; omega
  subst this
  refine ⟨k, hk, m, ?_, ?_⟩
  ·rw [List.getElem_append_left hk]; exact hm
  ·simp
end Go.Fn
namespace Go.Fn
open Go Go.Tc
section
variable {m : GMachine} {ds : List GDomino}
theorem src_size2 {s : Gl00Src} {n : Int} (h : SrcOk s n) (hn : n ≤ 1000000000) {p1 p2 : Int} (h1 : 2 ≤ p1 ∧ p1 ≤ 6) (h2 : 1 ≤ p2 ∧ p2 ≤ 100) : ∃ m a sd, F_spec_l05DrawSize s p1 p2 = some (m, (a, sd)) ∧ machB m = true ∧ m.Symbols = p1 ∧ m.States = p2 ∧ SrcOk ⟨s.code, a, sd⟩ (n + 2400) := by
 have h3 : 0 ≤ p1 * p2 := Int.mul_nonneg (by omega) (by omega)
 have h4 : p1 * p2 ≤ 600 := by
  have g1 : p1 * p2 ≤ 6 * p2 := Int.mul_le_mul_of_nonneg_right h1.2 (by omega)
  omega
 obtain ⟨rs, a', sd', e, l1, l2, l3⟩ := drawSize_run (p0 := s) rfl h1 h2 (p1 * p2).toNat s.at_ s.seed [] n h (by omega) (by omega) (by simp; omega) (fun x hx => by simp at hx)
 rw [show (((p1 * p2).toNat : Nat) : Int) = p1 * p2 by omega] at e
 rw [List.nil_append] at e l2
 unfold F_spec_l05DrawSize
 rw [w64_in (by omega) (by omega), e, bnd_some_eq]
 refine ⟨⟨p1, p2, rs⟩, a', sd', rfl, ?_, rfl, rfl, l3.mono (by omega)⟩
 unfold machB
 have g1 : inB p1 2 6 = true := inB_iff.2 h1
 have g2 : inB p2 1 1000 = true := inB_iff.2 (by omega)
 simp only
 rw [g1, g2, decide_eq_true (by omega), Bool.true_and, Bool.true_and]
 exact List.all_eq_true.2 l2
theorem cells2_run (r3 : List (Ik .u8) × Int × Ik .u64) : ∀ (k : Nat) (a : Int) (sd : Ik .u64) (out : List Int) (n : Int), SrcOk ⟨r3.1, a, sd⟩ n → n + k ≤ 1000000 → out.length + k ≤ 100 → Let 2 out →
  ∃ ws a' sd', run (F_spec_B10Small_L1 r3) (a, sd, out, (k : Int)) = some (.brk (a', sd', out ++ ws, 0)) ∧ ws.length = k ∧ Let 2 (out ++ ws) ∧ SrcOk ⟨r3.1, a', sd'⟩ (n + k) := by
 intro k
 induction k with
 | zero =>
  intro a sd out n h _ _ hl
  refine ⟨[], a, sd, run_done ?_, rfl, by rwa [List.append_nil], by simpa using h⟩
  simp only [F_spec_B10Small_L1]
  rw [decide_eq_false (by omega), cond_false, List.append_nil]
  rfl
 | succ k ih =>
  intro a sd out n h hn ho hl
  obtain ⟨v, a1, sd1, e, v0, v1, h1⟩ := src_pick 2 h (by omega) (by omega)
  have hb : F_spec_B10Small_L1 r3 (a, sd, out, ((k + 1 : Nat) : Int)) = some (.inl (a1, sd1, out ++ [v], (k : Int))) := by
   simp only [F_spec_B10Small_L1]
   rw [decide_eq_true (by omega), cond_true, e, bnd_some_eq]
   simp only
   rw [app_ok (by simp; omega), bnd_some_eq, w64_in (by omega) (by omega), show ((k + 1 : Nat) : Int) - 1 = (k : Int) by omega]
  obtain ⟨ws, a', sd', g1, g2, g3, g4⟩ := ih a1 sd1 (out ++ [v]) (n + 1) h1 (by omega) (by rw [List.length_append, List.length_singleton]; omega) (fun x hx => by
   rcases List.mem_append.1 hx with hx | hx
   ·exact hl x hx
   ·rw [List.mem_singleton] at hx
    omega)
  refine ⟨v :: ws, a', sd', ?_, by rw [List.length_cons, g2], ?_, g4.mono (by omega)⟩
  ·rw [run_next hb, g1, List.append_assoc]
   rfl
  ·rw [List.append_assoc] at g3
   exact g3
theorem cells2_eq (r3 : List (Ik .u8) × Int × Ik .u64) : F_spec_B10Small_L2 r3 = F_spec_B10Small_L1 r3 := rfl
theorem src_b10Small {c : List (Ik .u8)} (h : Bytes c) : ∃ m x, F_spec_B10Small c = some (m, x) ∧ machB m = true ∧ confB m x = true ∧ m.Symbols = 2 ∧ m.States ≤ 2 ∧ x.Left.length + x.Right.length ≤ 5 := by
 unfold F_spec_B10Small F_spec_l00From
 rw [bnd_some_eq]
 obtain ⟨u, a0, sd0, e0, u0, u1, k0⟩ := src_pick (s := ⟨c, 0, ⟨0⟩⟩) (n := 0) 2 ⟨h, by simp, by simp⟩ (by omega) (by omega)
 simp only at e0 ⊢
 rw [e0, bnd_some_eq]
 simp only
 have eu : w64 (1 + u) = 1 + u := w64_in (by omega) (by omega)
 obtain ⟨m, a1, sd1, e1, h1, hS, hQ, k1⟩ := src_size2 k0 (by omega) (p1 := 2) (p2 := 1 + u) (by omega) (by omega)
 simp only at e1 k1
 rw [eu, e1, bnd_some_eq]
 simp only
 obtain ⟨v, a2, sd2, e2, v0, v1, k2⟩ := src_pick m.States k1 (by omega) (by omega)
 simp only at e2 k2
 rw [e2, bnd_some_eq]
 simp only
 obtain ⟨y, a3, sd3, e3, y0, y1, k3⟩ := src_pick 3 k2 (by omega) (by omega)
 simp only at e3 k3
 rw [e3, bnd_some_eq]
 simp only
 obtain ⟨ls, a4, sd4, e4, l1, l2, k4⟩ := cells2_run (c, 0, ⟨0⟩) y.toNat a3 sd3 [] _ k3 (by omega) (by simp; omega) (fun x hx => by cases hx)
 rw [show ((y.toNat : Nat) : Int) = y by omega] at e4
 rw [e4, bnd_some_eq]
 simp only [Out.elim, List.nil_append] at l2 ⊢
 obtain ⟨z, a5, sd5, e5, z0, z1, k5⟩ := src_pick 4 k4 (by omega) (by omega)
 simp only at e5 k5
 rw [e5, bnd_some_eq]
 simp only
 obtain ⟨rs, a6, sd6, e6, r1, r2, k6⟩ := cells2_run (c, 0, ⟨0⟩) z.toNat a5 sd5 [] _ k5 (by omega) (by simp; omega) (fun x hx => by cases hx)
 rw [show ((z.toNat : Nat) : Int) = z by omega] at e6
 rw [cells2_eq, e6, bnd_some_eq]
 simp only [Out.elim, List.nil_append] at r2 ⊢
 rw [spec_trim _ (by omega), bnd_some_eq, spec_trim _ (by omega), bnd_some_eq]
 have t1 := trimL_len ls
 have t2 := trimL_len rs
 refine ⟨m, _, rfl, h1, ?_, hS, by omega, by simp only; omega⟩
 unfold confB
 simp only
 rw [hS, sideB_trim _ ls rfl (by omega) l2, sideB_trim _ rs rfl (by omega) r2, Bool.and_true, Bool.and_true]
 exact inB_iff.2 (by omega)
theorem matchW_fit {ms : List Int} (hr : rangeB ds.length ms = true) (he : topsOf ds ms = botsOf ds ms) : (matchW ds ms).2 = 0 ∨ (matchW ds ms).2 = 5 := by
 unfold matchW
 rw [hr, cond_true, decide_eq_true he]
 cases (decide (4000 < (topsOf ds ms).length) || decide (4000 < (botsOf ds ms).length))
 ·exact .inl rfl
 ·exact .inr rfl
theorem impl_plainM (s0 : Sml ds) (hd : domsB ds = true) (hp : plainP ds = (plainL ds, 0)) {l : List Int} (hr : rangeB ds.length (0 :: l) = true) (he : topsOf ds (0 :: l) = botsOf ds (0 :: l)) :
  (∃ ms, F_impl_PlainMatch ds (0 :: l) = some (ms, 5)) ∨ (F_impl_PlainMatch ds (0 :: l) = some ([0] ++ l.map (fun x => w64 (x + 1)) ++ [w64 ((ds.length : Int) + 1)], 0) ∧ ([0] ++ l.map (fun x => w64 (x + 1)) ++ [w64 ((ds.length : Int) + 1)] : List Int).length ≤ 400) := by
 have hl := rangeB_len hr
 have hdl := domsB_len hd
 rw [List.length_cons] at hl
 unfold F_impl_PlainMatch F_impl_PlainDominoes
 rw [impl_doms ds s0, hd, impl_plain ds hd s0, hp]
 simp only [Bool.not_true, cond_false, bnd_some_eq]
 rw [decide_eq_false (fun h => h rfl : ¬ ((0 : Int) ≠ 0)), cond_false, impl_match ds (0 :: l) hd (by rw [List.length_cons]; omega), bnd_some_eq]
 rcases matchW_fit hr he with hm | hm
 ·have i0 : idx ((0 : Int) :: l) 0 = some 0 := rfl
  rw [hm, decide_eq_false (fun h => h rfl : ¬ ((0 : Int) ≠ 0)), cond_false, i0, bnd_some_eq, decide_eq_false (fun h => h rfl : ¬ ((0 : Int) ≠ 0)), cond_false]
  have hs1 := slc_from (xs := (0 : Int) :: l) (lo := 1) (by rw [List.length_cons]; omega)
  rw [show ((1 : Nat) : Int) = 1 from rfl] at hs1
  rw [hs1, bnd_some_eq, List.drop_succ_cons, List.drop_zero, impl_moved _ 1 (by omega), bnd_some_eq]
  unfold F_impl_size_impl_Domino
  simp only [bnd_some_eq]
  rw [impl_joined _ (by simp) (by simp; omega), bnd_some_eq, plainL_len]
  have e1 : w64 (((ds.length + 2 : Nat) : Int) - 1) = w64 ((ds.length : Int) + 1) := by congr 1; omega
  have e2 : ([[0], l.map (fun x => w64 (x + 1)), [w64 (((ds.length + 2 : Nat) : Int) - 1)]] : List (List Int)).flatten = [0] ++ l.map (fun x => w64 (x + 1)) ++ [w64 ((ds.length : Int) + 1)] := by
   rw [e1]; simp
  rw [e2]
  unfold F_impl_shortMatch
  generalize ([0] ++ l.map (fun x => w64 (x + 1)) ++ [w64 ((ds.length : Int) + 1)] : List Int) = L
  by_cases h4 : 400 < L.length
  ·rw [decide_eq_true (by omega)]
   exact .inl ⟨_, rfl⟩
  ·rw [decide_eq_false (by omega)]
   exact .inr ⟨rfl, by omega⟩
 ·rw [hm, decide_eq_true (by decide : (5 : Int) ≠ 0), cond_true]
  exact .inl ⟨_, rfl⟩
theorem impl_matchFit {ds : List GDomino} (s0 : Sml ds) (hd : domsB ds = true) {ms : List Int} (hr : rangeB ds.length ms = true) (he : topsOf ds ms = botsOf ds ms) : ∃ r, F_impl_MatchWord ds ms = some r ∧ (r.2 = 0 ∨ r.2 = 5) := by
 have hl := rangeB_len hr
 unfold F_impl_MatchWord
 rw [impl_doms ds s0, hd, impl_match ds ms hd (by omega)]
 exact ⟨_, rfl, matchW_fit hr he⟩
theorem law_HaltDominoes (c : List (Ik .u8)) (w0 : Wf.wf c) : F_laws_FnHaltDominoes c = some true := by
 unfold F_laws_FnHaltDominoes F_laws_b10Long
 rw [bnd_some_eq]
 by_cases hl : 1048576 < c.length
 ·rw [decide_eq_true (by omega), cond_true]
 rw [decide_eq_false (by omega), cond_false]
 obtain ⟨m, x, e1, hm, hx, hS, hQ, hX⟩ := src_b10Small (bytes_of w0 (by omega))
 rw [e1, bnd_some_eq]
 obtain ⟨s, q, hs, hq, b1, b2, b3, b4, hlr, b5, hr⟩ := machB_nat hm
 obtain rfl : s = 2 := by omega
 have T : Tiny m 2 q := ⟨hs, hq, b1, b3, by omega, hlr, hr⟩
 have h5 : ¬ 5 < m.Symbols + m.States + 1 := by omega
 have h60 : (haltL m 2).length ≤ 60 := halt_small (by omega)
 have hR := haltL_rews hs hq (by omega) b1 hlr hr h60
 obtain ⟨l1, l2, c1, c2⟩ := confB_len hx
 have hWl := haltW_len m x
 have hW := haltW_word hs hq (by omega) b1 hx (by omega)
 have hsd := hx
 unfold confB at hsd
 simp only [Bool.and_eq_true] at hsd
 have hL := Tm.of_side hsd.2.1
 have hRr := Tm.of_side hsd.2.2
 unfold sideB at hsd
 simp only [Bool.and_eq_true, List.all_eq_true] at hsd
 have sy : ∀ xs : List Int, (∀ x ∈ xs, inB x 0 (m.Symbols - 1) = true) → sym m xs := fun xs h x hx => by have := inB_iff.1 (h x hx); omega
 have C : Cfw m x.Left.reverse x.State x.Right := ⟨fun y hy => sy x.Left hsd.2.1.1.2 y (List.mem_reverse.1 hy), sy x.Right hsd.2.2.1.2, c1, by omega⟩
 have hWd : haltW m x = Wd m x.Left.reverse x.State x.Right := by
  unfold haltW Wd
  rw [w64_in (by omega) (by omega)]
  simp
 have hcf : cfgW x.Left.reverse x.State x.Right = x := by
  unfold cfgW
  rw [List.reverse_reverse, hL, hRr]
 obtain ⟨t, c', g1, g2, g3⟩ := hd_go T h60 (B := 8) (by omega) 8 x.Left.reverse x.State x.Right [] C (by rw [List.length_reverse]; omega) rfl
 rw [hcf] at g1
 have hrun := impl_run hm hx (n := 8) (by omega) (by omega)
 rw [g1] at hrun
 rw [show ((8 : Nat) : Int) = 8 from rfl] at hrun
 simp only at hrun ⊢
 rw [hrun, bnd_some_eq]
 have hrw : F_impl_HaltRewrites m = some (haltL m 2, 0) := by
  unfold F_impl_HaltRewrites
  rw [impl_mach m (machB_sml hm), bnd_some_eq, hm, impl_halt m hm hs hq b1 b2 (by omega), decide_eq_false h5, decide_eq_false (by omega)]
  rfl
 have hwd : F_impl_HaltWords m x = some (haltW m x, haltT m, 0) := by
  unfold F_impl_HaltWords
  rw [impl_confV m x (machB_sml hm) (confB_sml hx), bnd_some_eq, hm, hx, impl_haltW m x hm l1 l2]
  unfold haltWP
  rw [decide_eq_false h5, decide_eq_false (by omega)]
  rfl
 have hder : ∀ w, run (F_impl_HaltDerivation_L1 8 (haltL m 2, ((ownL m 2).length : Int), 0) (⟨m.Symbols, m.Symbols + m.States⟩, ers m, 0) (ownL m 2)) (Wd m x.Left.reverse x.State x.Right, [], (([] : List (List Int)).length : Int)) = some (.ret (some w)) → F_impl_HaltDerivation m x 8 = some w := by
  intro w hw
  have hw' : run (F_impl_HaltDerivation_L1 8 (haltL m 2, ((ownL m 2).length : Int), 0) (⟨m.Symbols, m.Symbols + m.States⟩, m.Symbols + m.States + 1, 0) (ownL m 2)) (Wd m x.Left.reverse x.State x.Right, [], 0) = some (.ret (some w)) := hw
  have hsl : slc (haltL m 2) 0 ((ownL m 2).length : Int) = some (ownL m 2) := by
   rw [slc0 (by rw [haltL_eq, List.length_append]; omega), haltL_eq, List.take_left]
  have hbk : inB (8 : Int) 1 20000 = true := rfl
  unfold F_impl_HaltDerivation F_impl_runCode F_impl_budgetOk
  rw [impl_confV m x (machB_sml hm) (confB_sml hx), bnd_some_eq, hm, hx, impl_in, bnd_some_eq, hbk]
  simp only [Bool.and_self, Bool.not_true, cond_false, bnd_some_eq]
  rw [decide_eq_false (fun h => h rfl : ¬ ((0 : Int) ≠ 0)), cond_false, impl_halt m hm hs hq b1 b2 (by omega), impl_haltW m x hm l1 l2, impl_eraser m hm]
  unfold haltWP
  rw [decide_eq_false h5, decide_eq_false (by omega : ¬ 60 < (haltL m 2).length), decide_eq_false (by omega : ¬ 400 < (haltW m x).length)]
  simp only [cond_false, bnd_some_eq]
  rw [decide_eq_false (fun h => h rfl : ¬ ((0 : Int) ≠ 0))]
  simp only [cond_false]
  rw [hsl, bnd_some_eq, hWd, hw', bnd_some_eq]
  rfl
 rw [hrw, bnd_some_eq, hwd, bnd_some_eq]
 simp only
 by_cases hh : ruleAt m c' = noR
 ·obtain ⟨ss, a, b, cN, d⟩ := g3 hh
  rw [List.nil_append] at a
  rw [List.length_reverse] at d
  have hsl : ss.length ≤ 100 := by omega
  have hdW : derW (haltL m 2) ss (haltW m x) = (haltT m, 0) := by rw [hWd]; exact b
  have hdP : derP (haltL m 2) ss (haltW m x) = (haltT m, 0) := by
   unfold derP
   rw [decide_eq_false (by omega), cond_false, hdW]
  have hso := impl_stepsOf hm hx hs hq b1 b2 (by omega) h5 h60 (by omega) hR hW hsl hdW
  rw [cN] at hso
  have h5s := halt_sm5 T
  have htT : (haltT m).length = 3 := rfl
  have smT : sm5 (haltT m) := sm5_cons (by omega) (sm5_cons (by omega) (sm5_cons (by omega) sm5_nil))
  have smW : sm5 (haltW m x) := by
   rw [hWd]
   intro y hy
   unfold Wd at hy
   rcases List.mem_cons.1 hy with hy | hy
   ·omega
   ·rcases List.mem_append.1 hy with hy | hy
    ·have := C.sx y hy; omega
    ·rcases List.mem_cons.1 hy with hy | hy
     ·omega
     ·rcases List.mem_append.1 hy with hy | hy
      ·have := C.sy y hy; omega
      ·rw [List.mem_singleton] at hy; omega
  have hT := sm5_word smT (by omega)
  have sR := rws_sml hR
  have s1 : Sml (haltW m x) := ⟨by omega, fun _ _ => trivial⟩
  have s2 : Sml (haltT m) := ⟨by omega, fun _ _ => trivial⟩
  obtain ⟨hrp, hl7, hne⟩ := rtd_ok h60 h5s (fun r hr => by have := rw_mem hr; omega) smW smT (by omega) (by omega)
  obtain ⟨hpe, hD⟩ := rulesP_ok hrp
  have hmd := impl_modOf sR s1 s2 hR hW hT hrp hsl hdW
  rw [hder _ a, bnd_some_eq]
  simp only
  rw [decide_eq_false (fun h => h rfl : ¬ ((0 : Int) ≠ 0)), decide_eq_true hh]
  simp only [cond_false, bnd_some_eq, Out.elim, Bool.not_true]
  rw [impl_check sR hR hW (by omega), hdP, bnd_some_eq, hso, bnd_some_eq]
  simp only
  rw [decide_eq_false (fun h => h rfl : ¬ ((0 : Int) ≠ 0)), cond_false, cond_false, b10Nums_eq _ _ (by omega), bnd_some_eq, decide_eq_true rfl, decide_eq_false (fun h => h rfl : ¬ ((t : Int) ≠ (t : Int))), decide_eq_false (by omega : ¬ (((haltT m).length : Int) ≠ 3))]
  simp only [Bool.not_true, cond_false, bnd_some_eq]
  rw [impl_rtd sR s1 s2 hR hW hT, hpe, bnd_some_eq, hmd, bnd_some_eq]
  by_cases h4 : 400 < (lastG (haltL m 2) (ss.foldl (mstep (haltL m 2)) ([0], haltW m x)).1).length
  ·rw [decide_eq_true h4] at hmd ⊢
   obtain ⟨w, k1, k2, _⟩ := ex_MatchOfDerivation (haltL m 2) (haltW m x) (haltT m) ss sR s1 s2 ⟨by omega, fun r hr => ⟨by have := derW_all (by rw [hdW] : (derW (haltL m 2) ss (haltW m x)).2 = 0) r hr; omega, fun _ _ => trivial⟩⟩
   rw [hmd, cond_true] at k2
   obtain rfl := Option.some.inj k2
   rw [k1]
   rfl
  ·rw [decide_eq_false h4]
   simp only [cond_false]
   rw [decide_eq_false (fun h => h rfl : ¬ ((0 : Int) ≠ 0)), cond_false, cond_false, bnd_some_eq]
   obtain ⟨m1, m2, l, m3⟩ := match_fits (t := haltT m) h60 (fun r hr => (h5s r hr).2.1) smW (by omega) hdW (by omega)
   rw [m3] at m1 m2 ⊢
   have sD := rulesL_sml (f := haltW m x) (t := haltT m) hR (by omega) (by omega)
   have hpd : F_impl_PlainDominoes (rulesL (haltL m 2) (haltW m x) (haltT m)) = some (plainP (rulesL (haltL m 2) (haltW m x) (haltT m))) := by
    unfold F_impl_PlainDominoes
    rw [impl_doms _ sD, hD, impl_plain _ hD sD]
    rfl
   rw [hpd, bnd_some_eq]
   have hpP : plainP (rulesL (haltL m 2) (haltW m x) (haltT m)) = cond (domsB (plainL (rulesL (haltL m 2) (haltW m x) (haltT m)))) (plainL (rulesL (haltL m 2) (haltW m x) (haltT m)), 0) ([], 5) := by
    unfold plainP
    rw [hl7, hne]
    rfl
   cases hpl : domsB (plainL (rulesL (haltL m 2) (haltW m x) (haltT m)))
   ·rw [hpP, hpl]
    rfl
   ·rw [hpl, cond_true] at hpP
    rw [hpP]
    simp only
    rw [decide_eq_false (fun h => h rfl : ¬ ((0 : Int) ≠ 0)), cond_false]
    have hdl := domsB_len hD
    rcases impl_plainM sD hD hpP m1 m2 with ⟨ms, hk⟩ | ⟨hk, hlk⟩
    ·rw [hk, bnd_some_eq]
     rfl
    ·rw [hk, bnd_some_eq]
     simp only
     rw [decide_eq_false (fun h => h rfl : ¬ ((0 : Int) ≠ 0)), cond_false]
     obtain ⟨n1, n2⟩ := plain_fits (by omega) m1 m2 hlk
     obtain ⟨r, r1, r2⟩ := impl_matchFit (plainL_sml hD) hpl n1 n2
     rw [r1, bnd_some_eq]
     rcases r2 with r2 | r2
     ·rw [r2]
      rfl
     ·rw [r2]
      rfl
 ·rw [hder _ (g2 hh), bnd_some_eq]
  simp only
  rw [decide_eq_false (fun h => h rfl : ¬ ((0 : Int) ≠ 0)), decide_eq_false hh]
  rfl
end
end Go.Fn
