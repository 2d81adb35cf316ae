/-
  The law FnCycles: texts of configurations are told apart, the first text that comes again is the first configuration that comes again. No program in sight. No condition.
-/
import Derived.Test.YtfinlgodcokmpaaDoorPMeaC
import Derived.Test.YtfinlgodcokmpaaDoorPDTxt
namespace Go.Fn
open Go Go.Tc
theorem cyc_l25 {s : Gl00Src} {n : Int} (h : SrcOk s n) (hn : n ≤ 1000000) : ∃ m r, F_spec_l25DrawMachine s = some (m, r) ∧ machB m = true ∧ m.States ≤ 100 := by
  unfold F_spec_l25DrawMachine
  obtain ⟨b, a1, sd1, e1, k1⟩ := src_one 3 h (by omega) (by omega)
  rw [e1, bnd_some_eq]
  cases b with
  | true =>
    obtain ⟨t, a, sd, m, e, hm, h1, h2, k⟩ := src_texts (L := known25) k1 (by omega) (by decide) known25_all
    unfold known25 at e
    simp only at e ⊢
    rw [cond_true, e, bnd_some_eq]
    simp only
    rw [hm, bnd_some_eq]
    exact ⟨m, _, rfl, h1, h2⟩
  | false =>
    obtain ⟨u, a4, sd4, e4, u0, u1, k4⟩ := src_pick 3 k1 (by omega) (by omega)
    simp only at e4 k4 ⊢
    rw [cond_false, e4, bnd_some_eq]
    simp only
    rw [w64_in (n := 1 + u) (by omega) (by omega)]
    obtain ⟨m, a, sd, e, h1, h2, k⟩ := src_size k4 (by omega) (p1 := 2) (p2 := 1 + u) (by omega) (by omega)
    rw [e, bnd_some_eq]
    exact ⟨m, _, rfl, h1, h2⟩
theorem cyc_l27 {s : Gl00Src} {n : Int} (h : SrcOk s n) (hn : n ≤ 1000000) : ∃ m r, F_spec_l27DrawMachine s = some (m, r) ∧ machB m = true ∧ m.States ≤ 100 := by
  unfold F_spec_l27DrawMachine
  obtain ⟨b, a1, sd1, e1, b0, b1, k1⟩ := src_pick 3 h (by omega) (by omega)
  rw [e1, bnd_some_eq]
  simp only
  by_cases hb : 0 < b
  · obtain ⟨t, a, sd, m, e, hm, h1, h2, k⟩ := src_texts (L := known27) k1 (by omega) (by decide) known27_all
    unfold known27 at e
    rw [decide_eq_true hb, cond_true, e, bnd_some_eq]
    simp only
    rw [hm, bnd_some_eq]
    exact ⟨m, _, rfl, h1, h2⟩
  · obtain ⟨u, a4, sd4, e4, u0, u1, k4⟩ := src_pick 2 k1 (by omega) (by omega)
    simp only at e4 k4
    rw [decide_eq_false hb, cond_false, e4, bnd_some_eq]
    simp only
    rw [w64_in (n := 2 + u) (by omega) (by omega)]
    obtain ⟨m, a, sd, e, h1, h2, k⟩ := src_size k4 (by omega) (p1 := 2) (p2 := 2 + u) (by omega) (by omega)
    rw [e, bnd_some_eq]
    exact ⟨m, _, rfl, h1, h2⟩
theorem cyc_runner {c : List (Ik .u8)} (h : Bytes c) : ∃ m, F_spec_R8Runner c = some m ∧ machB m = true ∧ m.States ≤ 100 := by
  unfold F_spec_R8Runner F_spec_l00From F_spec_l31DrawMachine
  rw [bnd_some_eq]
  obtain ⟨v, a, sd, e, v0, v1, k⟩ := src_pick (s := ⟨c, 0, ⟨0⟩⟩) (n := 0) 4 ⟨h, by simp, by simp⟩ (by omega) (by omega)
  simp only at e k ⊢
  rw [e, bnd_some_eq]
  simp only
  by_cases h0 : v = 0
  · obtain ⟨m, a, sd, e, h1, h2, _⟩ := src_known k (by omega)
    rw [decide_eq_true h0, cond_true, e, bnd_some_eq, bnd_some_eq]
    exact ⟨m, rfl, h1, h2⟩
  rw [decide_eq_false h0, cond_false]
  by_cases h1 : v = 1
  · obtain ⟨m, r, e, h1'⟩ := cyc_l27 k (by omega)
    rw [decide_eq_true h1, cond_true, e, bnd_some_eq, bnd_some_eq]
    exact ⟨m, rfl, h1'⟩
  rw [decide_eq_false h1, cond_false]
  by_cases h2 : v = 2
  · obtain ⟨m, r, e, h1'⟩ := cyc_l25 k (by omega)
    rw [decide_eq_true h2, cond_true, e, bnd_some_eq, bnd_some_eq]
    exact ⟨m, rfl, h1'⟩
  rw [decide_eq_false h2, cond_false]
  obtain ⟨u, a4, sd4, e4, u0, u1, k4⟩ := src_pick 2 k (by omega) (by omega)
  simp only at e4 k4
  rw [e4, bnd_some_eq]
  simp only
  rw [w64_in (n := 1 + u) (by omega) (by omega)]
  obtain ⟨m, a, sd, e, h1, h2, k⟩ := src_size k4 (by omega) (p1 := 2) (p2 := 1 + u) (by omega) (by omega)
  rw [e, bnd_some_eq, bnd_some_eq]
  exact ⟨m, rfl, h1, h2⟩
/-! ### Texts of configurations -/
def cycSm : ByteArray := ⟨#[48, 49, 50, 51, 52, 53, 54, 55, 56, 57, 97, 98, 99, 100, 101, 102, 103, 104, 105, 106, 107, 108, 109, 110, 111, 112, 113, 114, 115, 116, 117, 118, 119, 120, 121, 122]⟩
def cycTb : ByteArray := ⟨#[48, 48, 48, 49, 48, 50, 48, 51, 48, 52, 48, 53, 48, 54, 48, 55, 48, 56, 48, 57, 49, 48, 49, 49, 49, 50, 49, 51, 49, 52, 49, 53, 49, 54, 49, 55, 49, 56, 49, 57, 50, 48, 50, 49, 50, 50, 50, 51, 50, 52, 50, 53, 50, 54, 50, 55, 50, 56, 50, 57, 51, 48, 51, 49, 51, 50, 51, 51, 51, 52, 51, 53, 51, 54, 51, 55, 51, 56, 51, 57, 52, 48, 52, 49, 52, 50, 52, 51, 52, 52, 52, 53, 52, 54, 52, 55, 52, 56, 52, 57, 53, 48, 53, 49, 53, 50, 53, 51, 53, 52, 53, 53, 53, 54, 53, 55, 53, 56, 53, 57, 54, 48, 54, 49, 54, 50, 54, 51, 54, 52, 54, 53, 54, 54, 54, 55, 54, 56, 54, 57, 55, 48, 55, 49, 55, 50, 55, 51, 55, 52, 55, 53, 55, 54, 55, 55, 55, 56, 55, 57, 56, 48, 56, 49, 56, 50, 56, 51, 56, 52, 56, 53, 56, 54, 56, 55, 56, 56, 56, 57, 57, 48, 57, 49, 57, 50, 57, 51, 57, 52, 57, 53, 57, 54, 57, 55, 57, 56, 57, 57]⟩
def cycDec (k : Nat) : ByteArray := if k < 10 then cycSm.extract k (k + 1) else cycTb.extract (2 * k) (2 * k + 2)
def cycVal (l : List UInt8) : Nat := l.foldl (fun a x => 10 * a + (x.toNat - 48)) 0
theorem cyc_dec_all : ∀ k, k < 100 → (cycVal (cycDec k).data.toList = k ∧ (cycDec k).data.toList.length ≤ 2 ∧ ((cycDec k).data.toList.all fun b => !(b == 40) && !(b == 41)) = true) := by decide +kernel
theorem cyc_decimal {k : Nat} (h : k < 100) : F_impl_Decimal (k : Int) = some (cycDec k) := by
  unfold F_impl_Decimal F_strconv_FormatInt F_internal_strconv_FormatInt F_internal_strconv_small
  rw [decide_eq_true (rfl : (10 : Int) = 10), cond_true, decide_eq_true (by omega : (0 : Int) ≤ (k : Int)), cond_true, decide_eq_true (by omega : (k : Int) < 100), cond_true]
  unfold cycDec
  by_cases h1 : k < 10
  · have hz : cycSm.size = 36 := rfl
    have hb : bslc cycSm (k : Int) ((k + 1 : Nat) : Int) = some (cycSm.extract k (k + 1)) := by
      unfold bslc
      rw [hz, if_pos ⟨by omega, by omega, by omega⟩, Int.toNat_natCast, Int.toNat_natCast]
    unfold cycSm at hb ⊢
    rw [decide_eq_true (by omega : (k : Int) < 10), cond_true, if_pos h1, w64_nat1 (by omega), hb]
    rfl
  · have hz : cycTb.size = 200 := rfl
    have hb : bslc cycTb ((k : Int) * 2) ((k : Int) * 2 + 2) = some (cycTb.extract (2 * k) (2 * k + 2)) := by
      unfold bslc
      rw [hz, if_pos ⟨by omega, by omega, by omega⟩, show ((k : Int) * 2).toNat = 2 * k by omega, show ((k : Int) * 2 + 2).toNat = 2 * k + 2 by omega]
    unfold cycTb at hb ⊢
    rw [decide_eq_false (by omega : ¬ (k : Int) < 10), cond_false, if_neg h1, w64_in (n := (k : Int) * 2) (by omega) (by omega), w64_in (n := (k : Int) * 2 + 2) (by omega) (by omega), hb]
    rfl
def ctext (c : GConfig) : ByteArray := ((((strOf (digB c.Left.reverse)) ++ ⟨#[40]⟩) ++ cycDec c.State.toNat) ++ ⟨#[41]⟩) ++ strOf (digB c.Right)
/-- What is wanted of a configuration that has a text. -/
structure Txt (c : GConfig) : Prop where
  st : 0 ≤ c.State ∧ c.State < 100
  lf : ∀ x ∈ c.Left, 0 ≤ x ∧ x ≤ 9
  rt : ∀ x ∈ c.Right, 0 ≤ x ∧ x ≤ 9
  ll : c.Left.length ≤ 200
  lr : c.Right.length ≤ 200
theorem Txt.of {s q : Nat} {c : GConfig} (h : CfT s q c) (hs : s ≤ 6) (hq : q ≤ 100) : Txt c := by
  obtain ⟨p, hp, hpq⟩ := h.cf.st
  have key : ∀ xs : List Int, (∀ j, 0 ≤ xs.getD j 0 ∧ xs.getD j 0 < s) → ∀ x ∈ xs, 0 ≤ x ∧ x ≤ 9 := by
    intro xs h1 x hx
    obtain ⟨j, hj, rfl⟩ := List.mem_iff_getElem.1 hx
    have := h1 j
    rw [List.getD_eq_getElem?_getD, List.getElem?_eq_getElem hj, Option.getD_some] at this
    omega
  exact ⟨by omega, key _ h.cf.lf, key _ h.cf.rt, h.cf.ll, h.cf.rl⟩
theorem impl_ctext {c : GConfig} (h : Txt c) : F_impl_configText c 0 = some (ctext c) := by
  have h1 := h.ll
  have h2 := h.lr
  have h3 := h.st
  have hd := cyc_decimal (k := c.State.toNat) (by omega)
  rw [show ((c.State.toNat : Nat) : Int) = c.State by omega] at hd
  have hz := (cyc_dec_all c.State.toNat (by omega)).2.1
  have hz' : (cycDec c.State.toNat).size ≤ 2 := hz
  have z1 : (⟨#[40]⟩ : ByteArray).size = 1 := rfl
  have z2 : (⟨#[41]⟩ : ByteArray).size = 1 := rfl
  have s1 : (strOf (digB c.Left.reverse)).size = c.Left.length := by rw [strOf_size, digB_len, List.length_reverse]
  have s2 : (strOf (digB c.Right)).size = c.Right.length := by rw [strOf_size, digB_len]
  unfold F_impl_configText ctext
  rw [decide_eq_false (by decide : ¬ ((0 : Int) ≠ 0)), cond_false, impl_reversed _ (by omega), bnd_some_eq, impl_dtxt (by rw [List.length_reverse]; omega) (fun x hx => h.lf x (List.mem_reverse.1 hx)), bnd_some_eq,
    cat_ok (by omega), bnd_some_eq, hd, bnd_some_eq, cat_ok (by rw [ByteArray.size_append]; omega), bnd_some_eq, cat_ok (by rw [ByteArray.size_append, ByteArray.size_append]; omega), bnd_some_eq, impl_dtxt (by omega) h.rt, bnd_some_eq,
    cat_ok (by rw [ByteArray.size_append, ByteArray.size_append, ByteArray.size_append]; omega), bnd_some_eq]
theorem cyc_split {α : Type} {x : α} : ∀ {A A' B B' : List α}, x ∉ A → x ∉ A' → A ++ x :: B = A' ++ x :: B' → A = A' ∧ B = B'
  | [], [], B, B', _, _, e => by simpa using e
  | [], a :: A', B, B', _, h, e => by
    simp only [List.nil_append, List.cons_append, List.cons.injEq] at e
    exact absurd (List.mem_cons_self (a := a) (l := A')) (e.1 ▸ h)
  | a :: A, [], B, B', h, _, e => by
    simp only [List.nil_append, List.cons_append, List.cons.injEq] at e
    exact absurd (List.mem_cons_self (a := a) (l := A)) (e.1 ▸ h)
  | a :: A, b :: A', B, B', h, h', e => by
    simp only [List.cons_append, List.cons.injEq] at e
    obtain ⟨r1, r2⟩ := cyc_split (fun hx => h (List.mem_cons_of_mem _ hx)) (fun hx => h' (List.mem_cons_of_mem _ hx)) e.2
    exact ⟨by rw [e.1, r1], r2⟩
def cycB (x : Int) : UInt8 := UInt8.ofNat (48 + x).toNat
theorem cyc_dig (w : List Int) : bl (strOf (digB w)) = w.map cycB := by
  unfold bl strOf digB
  simp only [List.map_map]
  rfl
theorem cycB_val {x : Int} (h : 0 ≤ x ∧ x ≤ 9) : ((cycB x).toNat : Int) = 48 + x := by
  unfold cycB
  rw [UInt8.toNat_ofNat']
  have : (48 + x).toNat % 2 ^ 8 = (48 + x).toNat := Nat.mod_eq_of_lt (by omega)
  omega
theorem cyc_map_inj : ∀ {v w : List Int}, (∀ x ∈ v, 0 ≤ x ∧ x ≤ 9) → (∀ x ∈ w, 0 ≤ x ∧ x ≤ 9) → v.map cycB = w.map cycB → v = w
  | [], [], _, _, _ => rfl
  | [], _ :: _, _, _, e => by cases e
  | _ :: _, [], _, _, e => by cases e
  | x :: v, y :: w, h1, h2, e => by
    simp only [List.map_cons, List.cons.injEq] at e
    have a := cycB_val (h1 x (List.mem_cons_self ..))
    have b := cycB_val (h2 y (List.mem_cons_self ..))
    rw [e.1] at a
    have hxy : x = y := by omega
    rw [hxy, cyc_map_inj (fun z hz => h1 z (List.mem_cons_of_mem _ hz)) (fun z hz => h2 z (List.mem_cons_of_mem _ hz)) e.2]
theorem cyc_notin {w : List Int} (h : ∀ x ∈ w, 0 ≤ x ∧ x ≤ 9) (b : UInt8) (hb : b.toNat < 48) : b ∉ w.map cycB := by
  intro hm
  obtain ⟨x, hx, rfl⟩ := List.mem_map.1 hm
  have := cycB_val (h x hx)
  have := h x hx
  omega
theorem cyc_notdec {k : Nat} (h : k < 100) : (40 : UInt8) ∉ bl (cycDec k) ∧ (41 : UInt8) ∉ bl (cycDec k) := by
  have ha := List.all_eq_true.1 (cyc_dec_all k h).2.2
  constructor
  · intro hm
    have := ha _ hm
    revert this
    decide
  · intro hm
    have := ha _ hm
    revert this
    decide
theorem bl_ctext (c : GConfig) : bl (ctext c) = (c.Left.reverse.map cycB) ++ 40 :: (bl (cycDec c.State.toNat) ++ 41 :: c.Right.map cycB) := by
  unfold ctext
  rw [bl_app, bl_app, bl_app, bl_app, cyc_dig, cyc_dig, show bl (⟨#[40]⟩ : ByteArray) = [40] from rfl, show bl (⟨#[41]⟩ : ByteArray) = [41] from rfl]
  simp only [List.append_assoc, List.singleton_append, List.cons_append, List.nil_append]
theorem ctext_inj {c d : GConfig} (hc : Txt c) (hd : Txt d) (e : ctext c = ctext d) : c = d := by
  have e' := congrArg bl e
  rw [bl_ctext, bl_ctext] at e'
  have hr : ∀ {c : GConfig}, Txt c → ∀ x ∈ c.Left.reverse, 0 ≤ x ∧ x ≤ 9 := fun h x hx => h.lf x (List.mem_reverse.1 hx)
  obtain ⟨e1, e2⟩ := cyc_split (cyc_notin (hr hc) 40 (by decide)) (cyc_notin (hr hd) 40 (by decide)) e'
  have hc3 := hc.st
  have hd3 := hd.st
  obtain ⟨e3, e4⟩ := cyc_split (cyc_notdec (by omega)).2 (cyc_notdec (by omega)).2 e2
  have l := List.reverse_inj.1 (cyc_map_inj (hr hc) (hr hd) e1)
  have r := cyc_map_inj hc.rt hd.rt e4
  have s1 := (cyc_dec_all c.State.toNat (by omega)).1
  have s2 := (cyc_dec_all d.State.toNat (by omega)).1
  have e3' : (cycDec c.State.toNat).data.toList = (cycDec d.State.toNat).data.toList := e3
  rw [e3'] at s1
  have st : c.State = d.State := by omega
  cases c
  cases d
  simp only at l r st
  rw [l, r, st]
/-! ### The orbit of the blank tape -/
section
variable {m : GMachine} {s q : Nat}
def cfg (m : GMachine) : Nat → GConfig
  | 0 => blankC
  | n + 1 => stepC (ruleAt m (cfg m n)) (cfg m n)
def live (m : GMachine) (n : Nat) : Prop := ∀ j, j < n → ruleAt m (cfg m j) ≠ noR
theorem cfg_len : ∀ n, (cfg m n).Left.length ≤ n ∧ (cfg m n).Right.length ≤ 2 * n
  | 0 => ⟨Nat.le_refl _, Nat.le_refl _⟩
  | n + 1 => by
    have h1 := cfg_len n
    have h2 := stepC_len (ruleAt m (cfg m n)) (cfg m n)
    show (stepC (ruleAt m (cfg m n)) (cfg m n)).Left.length ≤ n + 1 ∧ (stepC (ruleAt m (cfg m n)) (cfg m n)).Right.length ≤ 2 * (n + 1)
    omega
theorem cfg_small {n : Nat} (h : n ≤ 99) : small (stepC (ruleAt m (cfg m n)) (cfg m n)) = true := by
  have := cfg_len (m := m) (n + 1)
  have h1 : (stepC (ruleAt m (cfg m n)) (cfg m n)).Left.length ≤ n + 1 := this.1
  have h2 : (stepC (ruleAt m (cfg m n)) (cfg m n)).Right.length ≤ 2 * (n + 1) := this.2
  unfold small
  rw [decide_eq_true (by omega), decide_eq_true (by omega)]
  rfl
theorem cfg_cft (M : MaI m s q) (hb : CfT s q blankC) : ∀ n, n ≤ 100 → live m n → CfT s q (cfg m n)
  | 0, _, _ => hb
  | n + 1, h, hl => (cfg_cft M hb n (by omega) fun j hj => hl j (by omega)).step M (hl n (by omega)) (cfg_small (by omega))
theorem goC_cfg : ∀ n a, n + a ≤ 99 → live m (n + a) → goC m n (cfg m a) = some (n, cfg m (n + a))
  | 0, a, _, _ => by rw [Nat.zero_add]; rfl
  | n + 1, a, h, hl => by
    rw [goC_succ, if_neg (hl a (by omega)), if_pos (cfg_small (by omega))]
    have := goC_cfg n (a + 1) (by omega) (fun j hj => hl j (by omega))
    have e : cfg m (a + 1) = stepC (ruleAt m (cfg m a)) (cfg m a) := rfl
    rw [e] at this
    rw [this, Option.map_some, show n + (a + 1) = n + 1 + a by omega]
theorem goC_stop {n k : Nat} (hk : k ≤ n) (h : n ≤ 99) (hl : live m k) (hs : k = n ∨ ruleAt m (cfg m k) = noR) : goC m n (cfg m 0) = some (k, cfg m k) := by
  have h1 := goC_cfg (m := m) k 0 (by omega) hl
  rcases hs with rfl | hs
  · exact h1
  · obtain ⟨d, rfl⟩ := Nat.exists_eq_add_of_le hk
    rw [goC_add, h1]
    show (goC m d (cfg m k)).map _ = _
    rw [goC_halt hs]
    rfl
/-- A period: from the first place on, all comes again. -/
theorem cfg_per {a b : Nat} (e : cfg m (a + b) = cfg m a) : ∀ n, cfg m (a + b + n) = cfg m (a + n)
  | 0 => e
  | n + 1 => by
    show stepC (ruleAt m (cfg m (a + b + n))) (cfg m (a + b + n)) = stepC (ruleAt m (cfg m (a + n))) (cfg m (a + n))
    rw [cfg_per e n]
theorem live_per {a b : Nat} (hb : 1 ≤ b) (e : cfg m (a + b) = cfg m a) (hl : live m (a + b)) : ∀ n, live m n := by
  have key : ∀ k j, j ≤ k → ruleAt m (cfg m j) ≠ noR := by
    intro k
    induction k with
    | zero => intro j hj; exact hl j (by omega)
    | succ k ih =>
      intro j hj
      by_cases h : j < a + b
      · exact hl j h
      · have := cfg_per e (j - (a + b))
        rw [show a + b + (j - (a + b)) = j by omega] at this
        rw [this]
        exact ih _ (by omega)
  exact fun n j _ => key j j (Nat.le_refl _)
/-! ### The search -/
/-- The texts that were seen, with the numbers of steps. -/
structure Seen (m : GMachine) (n : Nat) (es : List (ByteArray × Int)) : Prop where
  all : ∀ j, j < n → mget es (ctext (cfg m j)) = some (j : Int)
  only : ∀ k v, mget es k = some v → ∃ j : Nat, j < n ∧ v = j ∧ k = ctext (cfg m j)
theorem Seen.put {n : Nat} {es : List (ByteArray × Int)} (h : Seen m n es) (hn : mget es (ctext (cfg m n)) = none) : Seen m (n + 1) (mput es (ctext (cfg m n)) (n : Int)) := by
  constructor
  · intro j hj
    rw [mget_mput]
    by_cases e : j = n
    · rw [if_pos (by rw [e]), e]
    · have hlt : j < n := by omega
      rw [if_neg (fun e2 => by rw [e2, h.all j hlt] at hn; cases hn), h.all j hlt]
  · intro k v hk
    rw [mget_mput] at hk
    split at hk
    · rename_i e
      exact ⟨n, by omega, (Option.some.inj hk).symm, e.symm⟩
    · obtain ⟨j, h1, h2, h3⟩ := h.only k v hk
      exact ⟨j, by omega, h2, h3⟩
theorem find_run (M : MaI m s q) (hq : q ≤ 100) (hb : CfT s q blankC) (r7 : Int × Int × List GRule × Int × List Int × List Int) (h7 : r7.1 = m.Symbols ∧ r7.2.1 = m.States ∧ r7.2.2.1 = m.Rules) : ∀ k n es, n + k = 60 → live m n → Seen m n es →
    (∃ N a, a < N ∧ N ≤ 60 ∧ live m N ∧ cfg m N = cfg m a ∧ (∀ i j, i < j → j < N → cfg m i ≠ cfg m j) ∧
      run (F_impl_FindCycle_L1 60 r7) ((cfg m n).State, (cfg m n).Left.reverse, (cfg m n).Right.reverse, (n : Int), es) = some (.ret (some (⟨2, [(a : Int), ((N - a : Nat) : Int)], []⟩, 0)))) ∨
    (∃ N es', N ≤ 60 ∧ live m N ∧ (N = 60 ∨ ruleAt m (cfg m N) = noR) ∧
      run (F_impl_FindCycle_L1 60 r7) ((cfg m n).State, (cfg m n).Left.reverse, (cfg m n).Right.reverse, (n : Int), es) = some (.brk ((cfg m N).State, (cfg m N).Left.reverse, (cfg m N).Right.reverse, (N : Int), es'))) := by
  obtain ⟨a1, a2, a3⟩ := h7
  intro k
  induction k with
  | zero =>
    intro n es hn hl hS
    have hT := cfg_cft M hb n (by omega) hl
    have hX := Txt.of hT M.b2 hq
    have hcf : F_impl_runner_config ⟨r7.1, r7.2.1, r7.2.2.1, (cfg m n).State, (cfg m n).Left.reverse, (cfg m n).Right.reverse⟩ = some (cfg m n) := by
      rw [a1, a2, a3]
      exact impl_configR m (cfg m n) (by have := hX.ll; omega) (by have := hX.lr; omega)
    cases hg : mget es (ctext (cfg m n)) with
    | some v =>
      left
      obtain ⟨j, h1, h2, h3⟩ := hS.only _ _ hg
      have hj := Txt.of (cfg_cft M hb j (by omega) fun i hi => hl i (by omega)) M.b2 hq
      refine ⟨n, j, h1, by omega, hl, ctext_inj hX hj h3, fun i i' hi hi' e => ?_, run_done ?_⟩
      · have q1 := hS.all i (by omega)
        have q2 := hS.all i' (by omega)
        rw [e, q2] at q1
        have := Option.some.inj q1
        omega
      · simp only [F_impl_FindCycle_L1]
        rw [hcf, bnd_some_eq, impl_ctext hX, bnd_some_eq, hg]
        simp only [Option.isSome_some, cond_true, bnd_some_eq, Out.elim, Option.getD_some]
        rw [h2, w64_in (by omega) (by omega), show ((n : Int) - (j : Int)) = ((n - j : Nat) : Int) by omega]
    | none =>
      right
      refine ⟨n, mput es (ctext (cfg m n)) (n : Int), by omega, hl, .inl (by omega), run_done ?_⟩
      simp only [F_impl_FindCycle_L1]
      rw [hcf, bnd_some_eq, impl_ctext hX, bnd_some_eq, hg]
      simp only [Option.isSome_none, cond_false, bnd_some_eq, Out.elim]
      rw [decide_eq_false (by omega), cond_false]
  | succ k ih =>
    intro n es hn hl hS
    have hT := cfg_cft M hb n (by omega) hl
    have hX := Txt.of hT M.b2 hq
    have hcf : F_impl_runner_config ⟨r7.1, r7.2.1, r7.2.2.1, (cfg m n).State, (cfg m n).Left.reverse, (cfg m n).Right.reverse⟩ = some (cfg m n) := by
      rw [a1, a2, a3]
      exact impl_configR m (cfg m n) (by have := hX.ll; omega) (by have := hX.lr; omega)
    have hh : F_impl_runner_halts ⟨r7.1, r7.2.1, r7.2.2.1, (cfg m n).State, (cfg m n).Left.reverse, (cfg m n).Right.reverse⟩ = some (decide (ruleAt m (cfg m n) = noR)) := by
      rw [a1, a2, a3]
      exact impl_haltsR M hT.cf (by omega)
    have hs : F_impl_runner_step ⟨r7.1, r7.2.1, r7.2.2.1, (cfg m n).State, (cfg m n).Left.reverse, (cfg m n).Right.reverse⟩ = F_impl_runner_step (rnr m (cfg m n)) := by
      rw [a1, a2, a3]
      rfl
    cases hg : mget es (ctext (cfg m n)) with
    | some v =>
      left
      obtain ⟨j, h1, h2, h3⟩ := hS.only _ _ hg
      have hj := Txt.of (cfg_cft M hb j (by omega) fun i hi => hl i (by omega)) M.b2 hq
      refine ⟨n, j, h1, by omega, hl, ctext_inj hX hj h3, fun i i' hi hi' e => ?_, run_done ?_⟩
      · have q1 := hS.all i (by omega)
        have q2 := hS.all i' (by omega)
        rw [e, q2] at q1
        have := Option.some.inj q1
        omega
      · simp only [F_impl_FindCycle_L1]
        rw [hcf, bnd_some_eq, impl_ctext hX, bnd_some_eq, hg]
        simp only [Option.isSome_some, cond_true, bnd_some_eq, Out.elim, Option.getD_some]
        rw [h2, w64_in (by omega) (by omega), show ((n : Int) - (j : Int)) = ((n - j : Nat) : Int) by omega]
    | none =>
      by_cases hr : ruleAt m (cfg m n) = noR
      · right
        refine ⟨n, mput es (ctext (cfg m n)) (n : Int), by omega, hl, .inr hr, run_done ?_⟩
        simp only [F_impl_FindCycle_L1]
        rw [hcf, bnd_some_eq, impl_ctext hX, bnd_some_eq, hg]
        simp only [Option.isSome_none, cond_false, bnd_some_eq, Out.elim]
        rw [decide_eq_true (by omega), cond_true, hh, bnd_some_eq, decide_eq_true hr, Bool.not_true, cond_false]
      · have hl' : live m (n + 1) := fun j hj => by
          by_cases e : j = n
          · rw [e]; exact hr
          · exact hl j (by omega)
        have hst := impl_stepR M hT.cf (by omega) hT.lt hT.rt
        have hb : F_impl_FindCycle_L1 60 r7 ((cfg m n).State, (cfg m n).Left.reverse, (cfg m n).Right.reverse, (n : Int), es) = some (.inl ((cfg m (n + 1)).State, (cfg m (n + 1)).Left.reverse, (cfg m (n + 1)).Right.reverse, ((n + 1 : Nat) : Int), mput es (ctext (cfg m n)) (n : Int))) := by
          simp only [F_impl_FindCycle_L1]
          rw [hcf, bnd_some_eq, impl_ctext hX, bnd_some_eq, hg]
          simp only [Option.isSome_none, cond_false, bnd_some_eq, Out.elim]
          rw [decide_eq_true (by omega), cond_true, hh, bnd_some_eq, decide_eq_false hr, Bool.not_false, cond_true, hs, hst, bnd_some_eq, cfg_small (by omega), w64_nat1 (by omega)]
          rfl
        rw [run_next hb]
        exact ih (n + 1) _ (by omega) hl' (hS.put hg)
theorem seen_nil : Seen m 0 [] := ⟨fun j h => absurd h (by omega), fun k v h => by cases h⟩
theorem cyc_blankRun (hm : machB m = true) : F_impl_blankRun m = some (m.Symbols, m.States, m.Rules, 0, [], []) := by
  unfold F_impl_blankRun
  have hro : F_impl_runnerOf m (⟨0, ([] : List Int), ([] : List Int)⟩ : GConfig) = _ := impl_runnerOf (blank_ok hm)
  rw [hro, bnd_some_eq]
  rfl
theorem cyc_find (hm : machB m = true) (hq : m.States ≤ 100) :
    (∃ N a, a < N ∧ N ≤ 60 ∧ live m N ∧ cfg m N = cfg m a ∧ (∀ i j, i < j → j < N → cfg m i ≠ cfg m j) ∧ F_impl_FindCycle m 60 = some (⟨2, [(a : Int), ((N - a : Nat) : Int)], []⟩, 0)) ∨
    (∃ N, N ≤ 60 ∧ live m N ∧ (N = 60 ∨ ruleAt m (cfg m N) = noR) ∧ F_impl_FindCycle m 60 = some (⟨0, [], []⟩, if ruleAt m (cfg m N) = noR then 3 else 6)) := by
  obtain ⟨s, q, M⟩ := machB_mai hm
  have hT : CfT s q blankC := CfT.of M (blank_ok hm)
  have hb : F_impl_budgeted m 60 = some 0 := mea_budgeted hm (n := 60) (by omega) (by omega)
  have hq' : q ≤ 100 := by have := M.hq; omega
  have hd : F_impl_FindCycle m 60 = bnd (run (F_impl_FindCycle_L1 60 (m.Symbols, m.States, m.Rules, 0, [], [])) (0, [], [], 0, [])) (Out.elim (fun (s22 : Int × (List Int) × (List Int) × Int × List (ByteArray × Int)) => bnd (F_impl_runner_halts (⟨m.Symbols, m.States, m.Rules, s22.1, s22.2.1, s22.2.2.1⟩ : Grunner)) fun r51 => (cond r51 (some ((⟨0, ([] : (List Int)), ([] : (List (List Int)))⟩ : GProof), 3)) (some ((⟨0, ([] : (List Int)), ([] : (List (List Int)))⟩ : GProof), 6)))) (fun (r : Option (GProof × Int)) => r)) := by
    unfold F_impl_FindCycle
    rw [hb, bnd_some_eq, decide_eq_false (by decide : ¬ ((0 : Int) ≠ 0)), cond_false, cyc_blankRun hm, bnd_some_eq]
  rcases find_run M hq' hT (m.Symbols, m.States, m.Rules, 0, [], []) ⟨rfl, rfl, rfl⟩ 60 0 [] rfl (fun j h => absurd h (by omega)) seen_nil with ⟨N, a, h1, h2, h3, h4, h5, e⟩ | ⟨N, es', h1, h2, h3, e⟩
  · left
    refine ⟨N, a, h1, h2, h3, h4, h5, ?_⟩
    have e' : run (F_impl_FindCycle_L1 60 (m.Symbols, m.States, m.Rules, 0, [], [])) (0, [], [], 0, []) = _ := e
    rw [hd, e', bnd_some_eq]
    rfl
  · right
    refine ⟨N, h1, h2, h3, ?_⟩
    have e' : run (F_impl_FindCycle_L1 60 (m.Symbols, m.States, m.Rules, 0, [], [])) (0, [], [], 0, []) = _ := e
    have hN := cfg_cft M hT N (by omega) h2
    have hh : F_impl_runner_halts ⟨m.Symbols, m.States, m.Rules, (cfg m N).State, (cfg m N).Left.reverse, (cfg m N).Right.reverse⟩ = some (decide (ruleAt m (cfg m N) = noR)) := impl_haltsR M hN.cf (by omega)
    rw [hd, e', bnd_some_eq]
    simp only [Out.elim]
    rw [hh, bnd_some_eq]
    by_cases hr : ruleAt m (cfg m N) = noR
    · rw [decide_eq_true hr, cond_true, if_pos hr]
    · rw [decide_eq_false hr, cond_false, if_neg hr]
theorem cyc_machine (hm : machB m = true) {N : Nat} (hN : N ≤ 60) (hl : live m N) (hs : N = 60 ∨ ruleAt m (cfg m N) = noR) : F_impl_RunMachine m ⟨0, [], []⟩ 60 = some (cfg m N, (N : Int), decide (ruleAt m (cfg m N) = noR), 0) := by
  have h := impl_run hm (blank_ok hm) (n := 60) (by omega) (by omega)
  have hg : goC m 60 blankC = some (N, cfg m N) := goC_stop hN (by omega) hl hs
  rw [hg] at h
  exact h
theorem cyc_after (hm : machB m = true) {a n : Nat} (h : n + a ≤ 60) (hl : live m (n + a)) : F_laws_r8After m (cfg m a) (n : Int) = some (cfg m (n + a), true) := by
  obtain ⟨s, q, M⟩ := machB_mai hm
  have hT : CfT s q blankC := CfT.of M (blank_ok hm)
  have hA := cfg_cft M hT a (by omega) fun j hj => hl j (by omega)
  unfold F_laws_r8After
  by_cases h0 : n = 0
  · subst h0
    rw [decide_eq_true (by omega), cond_true, Nat.zero_add]
  · have h1 := impl_run hm (hA.conf M) (n := n) (by omega) (by omega)
    rw [goC_cfg n a (by omega) hl] at h1
    rw [decide_eq_false (by omega), cond_false, h1, bnd_some_eq]
    simp only [decide_true, cond_true]
theorem cyc_rrun (hm : machB m = true) {n : Nat} (h : n ≤ 60) (hl : live m n) : F_impl_afterSteps m (n : Int) = some ((m.Symbols, m.States, m.Rules, (cfg m n).State, (cfg m n).Left.reverse, (cfg m n).Right.reverse), true) := by
  obtain ⟨s, q, M⟩ := machB_mai hm
  have hT : CfT s q blankC := CfT.of M (blank_ok hm)
  have hN := cfg_cft M hT n (by omega) hl
  obtain ⟨x, hx, hg⟩ := run_goC M blankC n 0 blankC 0 hT (by omega)
  have hgo : goC m n blankC = some (n, cfg m n) := goC_cfg n 0 (by omega) hl
  rw [hgo] at hg
  simp only at hg
  subst hg
  rw [Nat.zero_add, Nat.add_zero] at hx
  have hx' : run (F_impl_runner_run_L1 ⟨m.Symbols, m.States, m.Rules, 0, [], []⟩ (n : Int)) (0, [], [], 0, 0) = _ := hx
  have hh : F_impl_runner_halts ⟨m.Symbols, m.States, m.Rules, (cfg m n).State, (cfg m n).Left.reverse, (cfg m n).Right.reverse⟩ = some (decide (ruleAt m (cfg m n) = noR)) := impl_haltsR M hN.cf (by omega)
  have hr : F_impl_runner_run ⟨m.Symbols, m.States, m.Rules, 0, [], []⟩ (n : Int) = some (((n : Int), decide (ruleAt m (cfg m n) = noR), 0), ((cfg m n).State, (cfg m n).Left.reverse, (cfg m n).Right.reverse)) := by
    unfold F_impl_runner_run
    simp only
    rw [hx', bnd_some_eq]
    simp only [Out.elim]
    rw [hh, bnd_some_eq]
  unfold F_impl_afterSteps
  rw [cyc_blankRun hm, bnd_some_eq]
  simp only
  rw [hr, bnd_some_eq]
  simp only [decide_true, cond_true]
theorem cyc_check (hm : machB m = true) {a b : Nat} (hb : 1 ≤ b) (h : a + b ≤ 60) (hl : live m (a + b)) (e : cfg m (a + b) = cfg m a) : F_impl_CheckCycle m ⟨2, [(a : Int), (b : Int)], []⟩ = some true := by
  have hlen := cfg_len (m := m) a
  have hp : F_impl_ValidProof ⟨2, [(a : Int), (b : Int)], []⟩ = some true := by
    unfold F_impl_ValidProof
    have h1 : F_impl_allWithin [(a : Int), (b : Int)] (-1000000000000) 1000000000000 = some true := by
      rw [impl_allWithin _ _ _ (by simp)]
      simp only [List.all_cons, List.all_nil, Bool.and_true]
      rw [inB_iff.2 (by omega), inB_iff.2 (by omega)]
      rfl
    have h2 : F_impl_areWords [] = some true := by
      rw [impl_areWords [] ⟨by simp, fun x hx => by cases hx⟩]
      rfl
    rw [impl_in, inB_iff.2 (by omega : (1 : Int) ≤ 2 ∧ (2 : Int) ≤ 8), bnd_some_eq]
    simp only [Bool.not_true, cond_false, List.length_cons, List.length_nil]
    rw [decide_eq_false (by omega), cond_false, decide_eq_false (by omega), cond_false, h1, bnd_some_eq, cond_true, h2, bnd_some_eq]
  have hpo : F_impl_proofOf m ⟨2, [(a : Int), (b : Int)], []⟩ 2 2 = some true := by
    unfold F_impl_proofOf
    rw [impl_mach m (machB_sml hm), bnd_some_eq, hm, cond_true, hp, bnd_some_eq, cond_true]
    rfl
  have hsp : F_impl_spanOk (a : Int) (b : Int) = some true := by
    unfold F_impl_spanOk
    rw [decide_eq_true (by omega), cond_true, decide_eq_true (by omega), cond_true, decide_eq_true (by omega), cond_true, w64_in (by omega) (by omega), decide_eq_true (by omega)]
  have i0 : idx [(a : Int), (b : Int)] 0 = some (a : Int) := rfl
  have i1 : idx [(a : Int), (b : Int)] 1 = some (b : Int) := rfl
  have eab : w64 ((a : Int) + (b : Int)) = ((a + b : Nat) : Int) := by rw [w64_in (by omega) (by omega)]; omega
  have c1 : F_impl_runner_config ⟨m.Symbols, m.States, m.Rules, (cfg m a).State, (cfg m a).Left.reverse, (cfg m a).Right.reverse⟩ = some (cfg m a) := impl_configR m (cfg m a) (by omega) (by omega)
  have hsame : F_impl_sameConfig (cfg m a) (cfg m a) = some true := by
    unfold F_impl_sameConfig
    rw [decide_eq_true rfl, cond_true, impl_equal _ _ (by omega), bnd_some_eq, decide_eq_true rfl, cond_true, impl_equal _ _ (by omega), bnd_some_eq, decide_eq_true rfl]
  unfold F_impl_CheckCycle
  rw [hpo, bnd_some_eq]
  simp only [Bool.not_true, cond_false]
  rw [i0, i1]
  simp only [bnd_some_eq]
  rw [hsp]
  simp only [bnd_some_eq, Bool.not_true, cond_false, Out.elim]
  rw [cyc_rrun hm (by omega) (fun j hj => hl j (by omega)), eab, bnd_some_eq, cyc_rrun hm h hl, bnd_some_eq, e]
  simp only [cond_true]
  rw [c1]
  simp only [bnd_some_eq]
  rw [hsame]
  rfl
theorem r8_same_eq (a b : List Int) (h : a.length ≤ 1048576) : F_laws_r8Same a b = some (decide (a = b)) := by
  unfold F_laws_r8Same
  by_cases hl : a.length = b.length
  · rw [decide_eq_false (by omega), cond_false, run_all a.length (by omega) (fun i => decide (a[i]? = b[i]?)) (.ret false) (.brk (a.length : Int)) ?_ ?_ ?_]
    · by_cases e : a = b
      · subst e
        simp [Out.elim]
      · rw [if_neg, decide_eq_false e]
        · rfl
        · intro k
          refine e (List.ext_getElem? fun i => ?_)
          by_cases hi : i < a.length
          · simpa using k i hi
          · rw [List.getElem?_eq_none (by omega), List.getElem?_eq_none (by omega)]
    · intro i hi hp
      have hb : i < b.length := by omega
      simp [List.getElem?_eq_getElem hi, List.getElem?_eq_getElem hb] at hp
      simp [F_laws_r8Same_L1, hi, idx_nat hi, idx_nat hb, hp]
    · intro i hi hp
      have hb : i < b.length := by omega
      simp [List.getElem?_eq_getElem hi, List.getElem?_eq_getElem hb] at hp
      simp [F_laws_r8Same_L1, hi, idx_nat hi, idx_nat hb, hp]
    · simp [F_laws_r8Same_L1]
  · rw [decide_eq_true (by omega), decide_eq_false (fun e => hl (by rw [e]))]; rfl
theorem r8_config_ne {c d : GConfig} (h1 : c.Left.length ≤ 1048576) (h2 : c.Right.length ≤ 1048576) (hn : c ≠ d) : F_laws_r8Config c d = some false := by
  unfold F_laws_r8Config
  by_cases e : c.State = d.State
  · rw [decide_eq_true e, cond_true, r8_same_eq _ _ h1, bnd_some_eq]
    by_cases e2 : c.Left = d.Left
    · rw [decide_eq_true e2, cond_true, r8_same_eq _ _ h2, bnd_some_eq]
      by_cases e3 : c.Right = d.Right
      · exact absurd (by cases c; cases d; simp only at e e2 e3; rw [e, e2, e3]) hn
      · rw [decide_eq_false e3]
    · rw [decide_eq_false e2, cond_false]
  · rw [decide_eq_false e, cond_false]
end
/-! ### The law -/
theorem law_Cycles (c d : List (Ik .u8)) (w0 : Wf.wf c) (w1 : Wf.wf d) : F_laws_FnCycles c d = some true := by
  unfold F_laws_FnCycles
  rw [r8_long, bnd_some_eq]
  by_cases hl : 1048576 < c.length
  · rw [decide_eq_true hl, Bool.true_or, cond_true]
  rw [decide_eq_false hl, Bool.false_or]
  by_cases hl2 : 1048576 < d.length
  · rw [decide_eq_true hl2, cond_true]
  rw [decide_eq_false hl2, cond_false]
  have hc := bytes_of w0 (by omega)
  obtain ⟨m, e1, hm, hq⟩ := cyc_runner hc
  have hbl : F_laws_r8Blank = some (⟨0, [], []⟩ : GConfig) := rfl
  rw [e1, bnd_some_eq]
  rcases cyc_find hm hq with ⟨N, a, h1, h2, h3, h4, h5, e⟩ | ⟨N, h1, h2, h3, e⟩
  · obtain ⟨b, rfl⟩ : ∃ b, N = a + b := ⟨N - a, by omega⟩
    have hb : 1 ≤ b := by omega
    rw [show a + b - a = b by omega] at e
    have hl' := live_per hb h4 h3
    have hr : ruleAt m (cfg m 60) ≠ noR := hl' 61 60 (by omega)
    have hrm := cyc_machine hm (N := 60) (by omega) (hl' 60) (.inl rfl)
    rw [e, bnd_some_eq, hbl, bnd_some_eq, hrm, bnd_some_eq, bnd_some_eq]
    simp only [Out.elim]
    have i0 : idx [(a : Int), (b : Int)] 0 = some (a : Int) := rfl
    have i1 : idx [(a : Int), (b : Int)] 1 = some (b : Int) := rfl
    have eab : w64 ((a : Int) + (b : Int)) = ((a + b : Nat) : Int) := by rw [w64_in (by omega) (by omega)]; omega
    have hlen := cfg_len (m := m) a
    have hs : F_laws_r8Config (cfg m a) (cfg m a) = some true := r8_config _ (by omega) (by omega)
    have a1 : F_laws_r8After m ⟨0, [], []⟩ (a : Int) = some (cfg m a, true) := cyc_after hm (a := 0) (n := a) (by omega) (hl' _)
    have a2 : F_laws_r8After m (cfg m a) (b : Int) = some (cfg m a, true) := by
      have := cyc_after hm (a := a) (n := b) (by omega) (hl' _)
      rw [Nat.add_comm b a, h4] at this
      exact this
    rw [decide_eq_false (by decide : ¬ ((0 : Int) ≠ 0)), cond_false, cond_false, decide_eq_false hr, cond_false, cyc_check hm hb h2 h3 h4, bnd_some_eq, Bool.not_true, cond_false]
    simp only [i0, i1, bnd_some_eq, eab, List.length_cons, List.length_nil]
    rw [decide_eq_false (by omega), cond_false, decide_eq_false (by omega), cond_false, decide_eq_false (by omega), cond_false, decide_eq_false (by omega), cond_false, bnd_some_eq]
    simp only [Out.elim]
    rw [a1, bnd_some_eq, bnd_some_eq]
    simp only [Out.elim]
    rw [a2, bnd_some_eq]
    simp only [Bool.not_true, cond_false]
    rw [hs, bnd_some_eq]
    simp only [Bool.not_true, cond_false, bnd_some_eq]
    by_cases ha : a = 0
    · rw [decide_eq_true (by omega), cond_true]
      rfl
    · have hw : w64 ((a : Int) - 1) = ((a - 1 : Nat) : Int) := by rw [w64_in (by omega) (by omega)]; omega
      have a3 : F_laws_r8After m ⟨0, [], []⟩ ((a - 1 : Nat) : Int) = some (cfg m (a - 1), true) := cyc_after hm (a := 0) (n := a - 1) (by omega) (hl' _)
      have a4 := cyc_after hm (a := a - 1) (n := b) (by omega) (hl' _)
      have hlen1 := cfg_len (m := m) (a - 1)
      have hne := r8_config_ne (c := cfg m (a - 1)) (d := cfg m (b + (a - 1))) (by omega) (by omega) (h5 _ _ (by omega) (by omega))
      rw [decide_eq_false (by omega), cond_false, hw, a3, bnd_some_eq, bnd_some_eq]
      simp only [Out.elim]
      rw [a4, bnd_some_eq]
      simp only [cond_true]
      rw [hne]
      rfl
  · have hrm := cyc_machine hm h1 h2 h3
    rw [e, bnd_some_eq, hbl, bnd_some_eq, hrm, bnd_some_eq, bnd_some_eq]
    simp only [Out.elim]
    by_cases hr : ruleAt m (cfg m N) = noR
    · rw [if_pos hr, decide_eq_true hr]
      rfl
    · rw [if_neg hr, decide_eq_false hr]
      rfl
end Go.Fn
