/-
  While programs and trees that are drawn. No program in sight. No condition.
-/
import Derived.Test.YtlikagofgciflaaPTreK
import Derived.Test.YtlikagofgciflaaPSrc
namespace Go.Fn
open Go Go.Tc
noncomputable def stpDx : (Gl00Src × Int → Option (List GExpr × (Int × Ik .u64))) → Gl00Src × Int → Option (List GExpr × (Int × Ik .u64)) := fun rec_ a_ => F_spec_l23DrawExpr_step (fun p0 p1 => rec_ (p0, p1)) a_.1 a_.2
theorem mono_dx : Mono stpDx := by
 intro f g h a r
 refine (?_ : OLe _ _) r
 unfold stpDx F_spec_l23DrawExpr_step F_spec_l23DrawExpr_L1
 have hr : ∀ x, OLe (f x) (g x) := fun x r => h x r
 repeat' first | with_reducible exact OLe.refl _ | with_reducible exact hr _ | with_reducible refine OLe.run (fun _ => ?_) | with_reducible refine OLe.cond _ ?_ ?_ | with_reducible refine OLe.bnd ?_ (fun _ => ?_) | with_reducible refine OLe.elim _ (fun _ => ?_) (fun _ => ?_)
def DrX (f : Gl00Src × Int → Option (List GExpr × (Int × Ik .u64))) (d : Int) (B : Nat) (c : Int) : Prop :=
 ∀ (s : Gl00Src) (n : Int), SrcOk s n → n ≤ 1000000 - 2000 * d → ∃ e : Ec, ∃ a sd, f (s, d) = some (e.flat, (a, sd)) ∧ e.sz ≤ B ∧ SrcOk ⟨s.code, a, sd⟩ (n + c)
theorem dx_L0 (p0 : Gl00Src) (p1 : Int) (rec_ : Gl00Src → Int → Option (List GExpr × (Int × Ik .u64))) (a : Int) (sd : Ik .u64) (out : List GExpr) : run (F_spec_l23DrawExpr_L1 p0 p1 rec_) (a, sd, out, 0) = some (.brk (a, sd, out, 0)) := by
 refine run_done ?_
 simp only [F_spec_l23DrawExpr_L1]
 rfl
theorem dx_L1 {p0 : Gl00Src} {p1 d : Int} (hd : w64 (p1 - 1) = d) {f : Gl00Src × Int → Option (List GExpr × (Int × Ik .u64))} {a : Int} {sd : Ik .u64} {out : List GExpr} {k : Nat} {e : Ec} {a' : Int} {sd' : Ik .u64} (h : f (⟨p0.code, a, sd⟩, d) = some (e.flat, (a', sd'))) (ho : out.length + e.sz ≤ 1000) (hk : k ≤ 10) :
  run (F_spec_l23DrawExpr_L1 p0 p1 fun p0 p1 => f (p0, p1)) (a, sd, out, ((k + 1 : Nat) : Int)) = run (F_spec_l23DrawExpr_L1 p0 p1 fun p0 p1 => f (p0, p1)) (a', sd', out ++ e.flat, (k : Int)) := by
 refine run_next ?_
 simp only [F_spec_l23DrawExpr_L1]
 rw [decide_eq_true (by omega), cond_true, hd, h, bnd_some_eq, app_ok (by rw [Ec.len]; omega), bnd_some_eq, w64_in (by omega) (by omega), show ((k + 1 : Nat) : Int) - 1 = (k : Int) by omega]
theorem dx_leaf (f : Gl00Src × Int → Option (List GExpr × (Int × Ik .u64))) : DrX (stpDx f) 0 1 2 := by
 intro s n hs hn
 show ∃ e : Ec, ∃ a sd, F_spec_l23DrawExpr_step (fun p0 p1 => f (p0, p1)) s 0 = _ ∧ _
 unfold F_spec_l23DrawExpr_step
 obtain ⟨v, a, sd, e1, v0, v1, k1⟩ := src_pick 6 hs (by omega) (by omega)
 rw [e1, bnd_some_eq, decide_eq_true (by omega), cond_true]
 simp only
 obtain ⟨u, a2, sd2, e2, u0, u1, k2⟩ := src_pick 2 k1 (by omega) (by omega)
 simp only at e2 k2
 rw [e2, bnd_some_eq, bnd_some_eq]
 simp only [Out.elim]
 have hu : u = 0 ∨ u = 1 := by omega
 have hm : F_spec_l22Many u = some 0 := by rcases hu with rfl | rfl <;> rfl
 rw [hm, bnd_some_eq, dx_L0, bnd_some_eq]
 rcases hu with rfl | rfl
 ·exact ⟨.nil, a2, sd2, rfl, Nat.le_refl _, k2.mono (by omega)⟩
 ·exact ⟨.var, a2, sd2, rfl, Nat.le_refl _, k2.mono (by omega)⟩
theorem dx_up {f : Gl00Src × Int → Option (List GExpr × (Int × Ik .u64))} {d : Int} {B : Nat} {c : Int} (h : DrX f d B c) (hd : 0 ≤ d ∧ d ≤ 10) (hB : B ≤ 100) (hc : 0 ≤ c ∧ c ≤ 1000) : DrX (stpDx f) (d + 1) (1 + 2 * B) (1 + 2 * c) := by
 intro s n hs hn
 show ∃ e : Ec, ∃ a sd, F_spec_l23DrawExpr_step (fun p0 p1 => f (p0, p1)) s (d + 1) = _ ∧ _
 unfold F_spec_l23DrawExpr_step
 obtain ⟨v, a, sd, e1, v0, v1, k1⟩ := src_pick 6 hs (by omega) (by omega)
 rw [e1, bnd_some_eq, decide_eq_false (by omega), cond_false, bnd_some_eq]
 simp only [Out.elim]
 have hwd : w64 (d + 1 - 1) = d := by rw [w64_in (by omega) (by omega)]; omega
 by_cases c0 : v = 0 ∨ v = 1
 ·have hm : F_spec_l22Many v = some 0 := by rcases c0 with rfl | rfl <;> rfl
  rw [hm, bnd_some_eq, dx_L0, bnd_some_eq]
  rcases c0 with rfl | rfl
  ·exact ⟨.nil, a, sd, rfl, by simp only [Ec.sz]; omega, k1.mono (by omega)⟩
  ·exact ⟨.var, a, sd, rfl, by simp only [Ec.sz]; omega, k1.mono (by omega)⟩
 obtain ⟨x, a2, sd2, e2, x1, k2⟩ := h _ _ k1 (by omega)
 simp only at e2 k2
 by_cases c1 : v = 3 ∨ v = 4
 ·have hm : F_spec_l22Many v = some ((0 + 1 : Nat) : Int) := by rcases c1 with rfl | rfl <;> rfl
  rw [hm, bnd_some_eq, dx_L1 hwd e2 (by simp; omega) (by omega), show ((0 : Nat) : Int) = 0 from rfl, dx_L0, bnd_some_eq]
  rcases c1 with rfl | rfl
  ·exact ⟨.un false x, a2, sd2, rfl, by simp only [Ec.sz]; omega, k2.mono (by omega)⟩
  ·exact ⟨.un true x, a2, sd2, rfl, by simp only [Ec.sz]; omega, k2.mono (by omega)⟩
 obtain ⟨y, a3, sd3, e3, y1, k3⟩ := h _ _ k2 (by omega)
 simp only at e3 k3
 have c2 : v = 2 ∨ v = 5 := by omega
 have hm : F_spec_l22Many v = some ((0 + 1 + 1 : Nat) : Int) := by rcases c2 with rfl | rfl <;> rfl
 rw [hm, bnd_some_eq, dx_L1 hwd e2 (by simp; omega) (by omega), dx_L1 hwd e3 (by simp [Ec.len]; omega) (by omega), show ((0 : Nat) : Int) = 0 from rfl, dx_L0, bnd_some_eq]
 rcases c2 with rfl | rfl
 ·exact ⟨.bin false x y, a3, sd3, by simp [Ec.flat, bkind, Out.elim], by simp only [Ec.sz]; omega, k3.mono (by omega)⟩
 ·exact ⟨.bin true x y, a3, sd3, by simp [Ec.flat, bkind, Out.elim], by simp only [Ec.sz]; omega, k3.mono (by omega)⟩
theorem src_expr {s : Gl00Src} {n : Int} (h : SrcOk s n) (hn : n ≤ 900000) : ∃ e : Ec, ∃ a sd, F_spec_l23DrawExpr s 2 = some (e.flat, (a, sd)) ∧ e.sz ≤ 7 ∧ SrcOk ⟨s.code, a, sd⟩ (n + 11) := by
 have h0 := dx_leaf (fixN stpDx 0)
 have h1 := dx_up h0 (by omega) (by omega) (by omega)
 have h2 := dx_up h1 (by omega) (by omega) (by omega)
 obtain ⟨e, a, sd, e1, e2, e3⟩ := h2 s n h (by omega)
 exact ⟨e, a, sd, (fixR_iff mono_dx).2 ⟨3, e1⟩, by omega, e3.mono (by omega)⟩
def Pg.app : Pg → Pg → Pg
 | .nil, q => q
 | .set e r, q => .set e (r.app q)
 | .loop e b r, q => .loop e b (r.app q)
theorem app_flat (p q : Pg) : (p.app q).flat = p.flat ++ q.flat := by
 induction p with
 | nil => rfl
 | set e r hr => simp only [Pg.app, Pg.flat, hr, List.cons_append]
 | loop e b r hb hr => simp only [Pg.app, Pg.flat, hr, List.cons_append, List.append_assoc]
theorem app_sz (p q : Pg) : (p.app q).sz = p.sz + q.sz := by
 induction p with
 | nil => simp [Pg.app, Pg.sz]
 | set e r hr => simp only [Pg.app, Pg.sz, hr]; omega
 | loop e b r hb hr => simp only [Pg.app, Pg.sz, hr]; omega
theorem app_okP (p q : Pg) (hp : p.ok) (hq : q.ok) : (p.app q).ok := by
 induction p with
 | nil => exact hq
 | set e r hr => exact ⟨hp.1, hr hp.2⟩
 | loop e b r hb hr => exact ⟨hp.1, hp.2.1, hr hp.2.2⟩
def Pg.w : Pg → Nat
 | .nil => 0
 | .set e r => 9 + 25 * e.sz + r.w
 | .loop e b r => 13 + 25 * e.sz + b.w + r.w
theorem app_w (p q : Pg) : (p.app q).w = p.w + q.w := by
 induction p with
 | nil => simp [Pg.app, Pg.w]
 | set e r hr => simp only [Pg.app, Pg.w, hr]; omega
 | loop e b r hb hr => simp only [Pg.app, Pg.w, hr]; omega
theorem code_w (p : Pg) : p.code.sz ≤ 1 + p.w := by
 unfold Pg.code
 induction p with
 | nil => decide
 | set e r hr =>
  have h1 := e.csz
  have : (tagS 7).sz = 7 := rfl
  simp only [Pg.trs, Pg.w, listS, Sh.sz]
  omega
 | loop e b r hb hr =>
  have h1 := e.csz
  have : (tagS 9).sz = 9 := rfl
  simp only [Pg.trs, Pg.w, listS, Sh.sz]
  omega
structure PgD (p : Pg) (k m : Nat) : Prop where
 ok : p.ok
 sz : p.sz ≤ k
 w : p.w ≤ m
theorem dp_run {p0 : Gl00Src} : ∀ (m : Nat) (a : Int) (sd : Ik .u64) (p : Pg) (k w : Nat) (n : Int), SrcOk ⟨p0.code, a, sd⟩ n → n + 20 * m ≤ 100000 → PgD p k w → k + 2 * m ≤ 20 →
  ∃ p' : Pg, ∃ a' sd', run (F_spec_l23DrawOk_L1 p0) (a, sd, p.flat, (m : Int)) = some (.brk (a', sd', p'.flat, 0)) ∧ PgD p' (k + 2 * m) (w + 184 * m) ∧ SrcOk ⟨p0.code, a', sd'⟩ (n + 20 * m) := by
 intro m
 induction m with
 | zero =>
  intro a sd p k w n h _ hp _
  refine ⟨p, a, sd, run_done ?_, hp, by simpa using h⟩
  simp only [F_spec_l23DrawOk_L1]
  rfl
 | succ m ih =>
  intro a sd p k w n h hn hp hk
  have hpl := p.len
  have hps := hp.sz
  obtain ⟨e, a1, sd1, e1, ez, k1⟩ := src_expr h (by omega)
  simp only at e1 k1
  obtain ⟨v, a2, sd2, e2, v0, v1, k2⟩ := src_pick 3 k1 (by omega) (by omega)
  simp only at e2 k2
  by_cases hv : 0 < v
  ·have hb : F_spec_l23DrawOk_L1 p0 (a, sd, p.flat, ((m + 1 : Nat) : Int)) = some (.inl (a2, sd2, (p.app (.set e .nil)).flat, (m : Int))) := by
    simp only [F_spec_l23DrawOk_L1]
    rw [decide_eq_true (by omega), cond_true, e1, bnd_some_eq]
    simp only
    rw [e2, bnd_some_eq, decide_eq_true hv, cond_true, app_ok (by simp; omega), bnd_some_eq, w64_in (by omega) (by omega), show ((m + 1 : Nat) : Int) - 1 = (m : Int) by omega, app_flat]
    rfl
   rw [run_next hb]
   obtain ⟨p', a', sd', g1, g2, g3⟩ := ih a2 sd2 (p.app (.set e .nil)) (k + 1) (w + 184) (n + 12) (k2.mono (by omega)) (by omega) ⟨app_okP _ _ hp.ok ⟨by omega, trivial⟩, by rw [app_sz]; simp only [Pg.sz]; omega, by rw [app_w]; have := hp.w; simp only [Pg.w]; omega⟩ (by omega)
   exact ⟨p', a', sd', g1, ⟨g2.ok, by have := g2.sz; omega, by have := g2.w; omega⟩, g3.mono (by omega)⟩
  ·obtain ⟨x, a3, sd3, e3, x0, x1, k3⟩ := src_pick 2 k2 (by omega) (by omega)
   simp only at e3 k3
   have hx : x = 0 ∨ x = 1 := by omega
   obtain ⟨q, hq⟩ : ∃ q : Bool, idx ([4, 3] : List Int) x = some (ukind q) := by
    rcases hx with rfl | rfl
    ·exact ⟨true, rfl⟩
    ·exact ⟨false, rfl⟩
   have hb : F_spec_l23DrawOk_L1 p0 (a, sd, p.flat, ((m + 1 : Nat) : Int)) = some (.inl (a3, sd3, (p.app (.loop .var (.set (.un q .var) .nil) .nil)).flat, (m : Int))) := by
    simp only [F_spec_l23DrawOk_L1]
    rw [decide_eq_true (by omega), cond_true, e1, bnd_some_eq]
    simp only
    rw [e2, bnd_some_eq, decide_eq_false hv, cond_false]
    unfold F_spec_l00Src_among
    rw [show ((([4, 3] : List Int).length : Nat) : Int) = 2 from rfl, e3, bnd_some_eq]
    simp only
    rw [hq, bnd_some_eq, bnd_some_eq, app_ok (by simp; omega), bnd_some_eq, w64_in (by omega) (by omega), show ((m + 1 : Nat) : Int) - 1 = (m : Int) by omega, app_flat]
    rfl
   rw [run_next hb]
   obtain ⟨p', a', sd', g1, g2, g3⟩ := ih a3 sd3 (p.app (.loop .var (.set (.un q .var) .nil) .nil)) (k + 2) (w + 184) (n + 13) (k3.mono (by omega)) (by omega) ⟨app_okP _ _ hp.ok ⟨by decide, ⟨by simp [Ec.sz], trivial⟩, trivial⟩, by rw [app_sz]; simp only [Pg.sz]; omega, by rw [app_w]; have := hp.w; simp only [Pg.w, Ec.sz]; omega⟩ (by omega)
   exact ⟨p', a', sd', g1, ⟨g2.ok, by have := g2.sz; omega, by have := g2.w; omega⟩, g3.mono (by omega)⟩
theorem src_prog {s : Gl00Src} {n : Int} (h : SrcOk s n) (hn : n ≤ 1000) : ∃ p : Pg, ∃ a sd, F_spec_l23DrawOk s = some (p.flat, (a, sd)) ∧ PgD p 80 1000 ∧ SrcOk ⟨s.code, a, sd⟩ (n + 100) := by
 unfold F_spec_l23DrawOk
 obtain ⟨b, a, sd, e, k⟩ := src_one 4 h (by omega) (by omega)
 rw [e, bnd_some_eq]
 simp only
 cases b with
 | true =>
  rw [cond_true]
  unfold F_spec_l00Src_text
  obtain ⟨v, a2, sd2, e2, v0, v1, k2⟩ := src_pick 6 k (by omega) (by omega)
  simp only at e2 k2
  have hl : ((([(⟨#[48, 61, 40, 116, 48, 46, 104, 48, 41]⟩ : ByteArray), (⟨#[48, 61, 40, 104, 48, 63, 116, 48, 41]⟩ : ByteArray), (⟨#[119, 48, 123, 48, 61, 116, 48, 125]⟩ : ByteArray), (⟨#[119, 48, 123, 48, 61, 104, 48, 125, 59, 48, 61, 40, 110, 46, 110, 41]⟩ : ByteArray), (⟨#[119, 48, 123, 119, 48, 123, 48, 61, 116, 48, 125, 125, 59, 48, 61, 40, 48, 46, 48, 41]⟩ : ByteArray), (⟨#[48, 61, 40, 48, 46, 110, 41, 59, 119, 48, 123, 48, 61, 116, 48, 125]⟩ : ByteArray)] : List ByteArray).length : Nat) : Int) = 6 := rfl
  rw [hl, e2, bnd_some_eq]
  simp only
  obtain ⟨i, rfl⟩ : ∃ i : Nat, v = (i : Int) := ⟨v.toNat, by omega⟩
  have hi : i < 6 := by omega
  have hix : idx knownT (i : Int) = some (knownT.getD i ⟨#[]⟩) := by
   rw [idx_nat (show i < knownT.length from hi), List.getD_eq_getElem?_getD, List.getElem?_eq_getElem (show i < knownT.length from hi)]
   rfl
  have hix' := hix
  unfold knownT at hix'
  rw [hix', bnd_some_eq, bnd_some_eq]
  simp only
  have hr := le_spec_ReadWhile _ _ (known_read i hi)
  unfold knownT at hr
  rw [hr, bnd_some_eq]
  refine ⟨knownP.getD i .nil, a2, sd2, rfl, ?_, k2.mono (by omega)⟩
  have : i = 0 ∨ i = 1 ∨ i = 2 ∨ i = 3 ∨ i = 4 ∨ i = 5 := by omega
  rcases this with rfl | rfl | rfl | rfl | rfl | rfl <;> exact ⟨by simp [knownP, Pg.ok, Ec.sz], by decide, by decide⟩
 | false =>
  rw [cond_false]
  obtain ⟨v, a2, sd2, e2, v0, v1, k2⟩ := src_pick 3 k (by omega) (by omega)
  simp only at e2 k2
  rw [e2, bnd_some_eq]
  simp only
  rw [w64_in (n := 1 + v) (by omega) (by omega)]
  obtain ⟨p', a', sd', g1, g2, g3⟩ := dp_run (p0 := s) (1 + v).toNat a2 sd2 .nil 0 0 (n + 2) (k2.mono (by omega)) (by omega) ⟨trivial, Nat.le_refl _, Nat.le_refl _⟩ (by omega)
  have g1' : run (F_spec_l23DrawOk_L1 s) (a2, sd2, ([] : List GCommand), 1 + v) = some (.brk (a', sd', p'.flat, 0)) := by
   have e : (((1 + v).toNat : Nat) : Int) = 1 + v := by omega
   rw [e] at g1
   exact g1
  rw [g1', bnd_some_eq]
  have hs := g2.sz
  have hw := g2.w
  exact ⟨p', a', sd', rfl, ⟨g2.ok, by omega, by omega⟩, g3.mono (by omega)⟩
noncomputable def stpDt : (Gl00Src × Int → Option (List Bool × (Int × Ik .u64))) → Gl00Src × Int → Option (List Bool × (Int × Ik .u64)) := fun rec_ a_ => F_spec_l21DrawDeep_step (fun p0 p1 => rec_ (p0, p1)) a_.1 a_.2
theorem mono_dt : Mono stpDt := by
 intro f g h a r
 refine (?_ : OLe _ _) r
 unfold stpDt F_spec_l21DrawDeep_step
 have hr : ∀ x, OLe (f x) (g x) := fun x r => h x r
 repeat' first | with_reducible exact OLe.refl _ | with_reducible exact hr _ | with_reducible refine OLe.cond _ ?_ ?_ | with_reducible refine OLe.bnd ?_ (fun _ => ?_) | with_reducible refine OLe.elim _ (fun _ => ?_) (fun _ => ?_)
def DrT (f : Gl00Src × Int → Option (List Bool × (Int × Ik .u64))) (d : Int) (B : Nat) (c : Int) : Prop :=
 ∀ (s : Gl00Src) (n : Int), SrcOk s n → n ≤ 1000000 - 2000 * d → ∃ x : Sh, ∃ a sd, f (s, d) = some (x.bits, (a, sd)) ∧ x.sz ≤ B ∧ SrcOk ⟨s.code, a, sd⟩ (n + c)
theorem dt_leaf (f : Gl00Src × Int → Option (List Bool × (Int × Ik .u64))) : DrT (stpDt f) 0 1 0 := by
 intro s n hs hn
 refine ⟨.nl, s.at_, s.seed, rfl, Nat.le_refl _, ?_⟩
 rw [Int.add_zero]
 exact hs
theorem dt_up {f : Gl00Src × Int → Option (List Bool × (Int × Ik .u64))} {d : Int} {B : Nat} {c : Int} (h : DrT f d B c) (hd : 0 ≤ d ∧ d ≤ 10) (hB : B ≤ 100) (hc : 0 ≤ c ∧ c ≤ 1000) : DrT (stpDt f) (d + 1) (1 + 2 * B) (1 + 2 * c) := by
 intro s n hs hn
 show ∃ x : Sh, ∃ a sd, F_spec_l21DrawDeep_step (fun p0 p1 => f (p0, p1)) s (d + 1) = _ ∧ _
 unfold F_spec_l21DrawDeep_step
 obtain ⟨b, a, sd, e1, k1⟩ := src_one 3 hs (by omega) (by omega)
 rw [decide_eq_false (by omega), cond_false, e1, bnd_some_eq]
 simp only
 cases b with
 | true => exact ⟨.nl, a, sd, rfl, by simp only [Sh.sz]; omega, k1.mono (by omega)⟩
 | false =>
  have hwd : w64 (d + 1 - 1) = d := by rw [w64_in (by omega) (by omega)]; omega
  obtain ⟨x, a2, sd2, e2, x1, k2⟩ := h _ _ k1 (by omega)
  simp only at e2 k2
  obtain ⟨y, a3, sd3, e3, y1, k3⟩ := h _ _ k2 (by omega)
  simp only at e3 k3
  have hxl := x.len
  have hyl := y.len
  rw [cond_false, hwd, e2, bnd_some_eq]
  simp only
  rw [e3, bnd_some_eq]
  unfold F_spec_l21Pair
  simp only
  rw [app_ok (by simp; omega), bnd_some_eq, app_ok (by simp; omega), bnd_some_eq, bnd_some_eq]
  exact ⟨.nd x y, a3, sd3, by simp [Sh.bits], by simp only [Sh.sz]; omega, k3.mono (by omega)⟩
theorem src_deep {s : Gl00Src} {n : Int} (h : SrcOk s n) (hn : n ≤ 900000) : ∃ x : Sh, ∃ a sd, F_spec_l21DrawDeep s 3 = some (x.bits, (a, sd)) ∧ x.sz ≤ 15 := by
 have h0 := dt_leaf (fixN stpDt 0)
 have h1 := dt_up h0 (by omega) (by omega) (by omega)
 have h2 := dt_up h1 (by omega) (by omega) (by omega)
 have h3 := dt_up h2 (by omega) (by omega) (by omega)
 obtain ⟨x, a, sd, e1, e2, e3⟩ := h3 s n h (by omega)
 exact ⟨x, a, sd, (fixR_iff mono_dt).2 ⟨4, e1⟩, by omega⟩
theorem src_while {c : List (Ik .u8)} (h : Bytes c) : ∃ p : Pg, ∃ x : Sh, F_spec_R8While c = some (p.flat, x.bits) ∧ PgD p 80 1000 ∧ x.sz ≤ 15 := by
 unfold F_spec_R8While F_spec_l00From
 rw [bnd_some_eq]
 obtain ⟨p, a, sd, e1, e2, e3⟩ := src_prog (s := ⟨c, 0, ⟨0⟩⟩) (n := 0) ⟨h, by simp, by simp⟩ (by omega)
 simp only at e1 e3 ⊢
 rw [e1, bnd_some_eq]
 obtain ⟨x, a2, sd2, g1, g2⟩ := src_deep e3 (by omega)
 simp only at g1 ⊢
 rw [g1, bnd_some_eq]
 exact ⟨p, x, rfl, e2, g2⟩
end Go.Fn
