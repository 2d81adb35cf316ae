/-
  The calculus, further: operations of a region that make memory, each apart from the others, in whatever order; calls of function values walked in place. No condition.
-/
import Derived.Test.YtfklpjdenigohaaMore
namespace Go.Tc
open Go Go.RowKit

section
variable {A : Nat → Prop} {w0 w w' : World} {Γ Γ' Δ : Ctx}
theorem SH.perm (h : SH A w0 w Γ) (hp : Γ.Perm Γ') : SH A w0 w Γ' := by
  have ho : Γ.owns.Perm Γ'.owns := hp.flatMap_right _
  have ht : Γ.toks.Perm Γ'.toks := hp.flatMap_right _
  refine ⟨h.below, h.av, ho.nodup_iff.1 h.nd, fun b hb => h.ge b (ho.mem_iff.2 hb), ht.nodup_iff.1 h.tnd, fun b hb => h.tge b (ht.mem_iff.2 hb), fun f hf => ?_⟩
  refine Fact.frame (h.all f (hp.mem_iff.2 hf)) (fun _ _ => rfl) (fun _ _ => rfl) (fun k _ ha => ⟨rfl, ?_⟩)
  rintro (hk | hk)
  · exact ha (.inl hk)
  · exact ha (.inr (ho.mem_iff.2 hk))
end

/-- An operation that makes memory: its place, its slot, what it gives and the facts that it adds. -/
structure POp where
  i : Nat
  d : Nat
  G : Type
  v : G → Value
  fs : G → Ctx
/-- What is known when all are done. -/
def PAll : List POp → (Env → Ctx → Prop) → Env → Ctx → Prop
  | [], K, ρ, Γ => K ρ Γ
  | p :: S, K, ρ, Γ => ∀ x : p.G, PAll S K ((p.d, p.v x) :: ρ) (p.fs x ++ Γ)
/-- The operation does its work in every state that has grown. -/
def PStep (P : Program) (n : Nat) (A : Nat → Prop) (w0 : World) (ops : Array Oper) (ρ : Env) (Γ : Ctx) (p : POp) : Prop :=
  ∀ (Δ : Ctx) (Q : Exit → Act → World → Prop) (a : Act) (w : World) (K : Act → World → Prop), Sat n ρ a → SH A w0 w (Γ ++ Δ) →
    (∀ x w', SH A w0 w' (p.fs x ++ (Γ ++ Δ)) → Grow w w' [] → OwnNew (Γ ++ Δ) (p.fs x ++ (Γ ++ Δ)) w → K (a.put (some p.d) (p.v x)) w') → wpOp P ops Q p.i K a w
def PSteps (P : Program) (n : Nat) (A : Nat → Prop) (w0 : World) (ops : Array Oper) (ρ : Env) (Γ : Ctx) : List POp → Prop
  | [] => True
  | p :: S => PStep P n A w0 ops ρ Γ p ∧ PSteps P n A w0 ops ρ Γ S
theorem PSteps.get {P : Program} {n : Nat} {A : Nat → Prop} {w0 : World} {ops : Array Oper} {ρ : Env} {Γ : Ctx} : ∀ {S : List POp}, PSteps P n A w0 ops ρ Γ S → ∀ p ∈ S, PStep P n A w0 ops ρ Γ p
  | _ :: _, h, p, hp => by
    rcases List.mem_cons.1 hp with rfl | hp
    · exact h.1
    · exact h.2.get p hp

/-- No other operation comes up before all of S are done. -/
def parOk (ops : Array Oper) (listed : Array Bool) (is : List Nat) : Bool :=
  (is.all fun i => (Region.ready .any ops listed).contains i && Nat.blt i listed.size) &&
  (List.range ops.size).all fun j => listed.getD j true || is.contains j || match ops[j]? with
    | none => true
    | some o => (is.all fun i => o.after.any fun e => Region.binds .any e && e.on == i) || o.after.any fun e => Region.binds .any e && !(listed.getD e.on false) && !(is.contains e.on)
def setAll (listed : Array Bool) (is : List Nat) : Array Bool := is.foldl (fun l i => l.setIfInBounds i true) listed
theorem setAll_size : ∀ (is : List Nat) (listed : Array Bool), (setAll listed is).size = listed.size
  | [], _ => rfl
  | i :: is, l => by
    show (setAll (l.setIfInBounds i true) is).size = l.size
    rw [setAll_size is]; simp
theorem setAll_get : ∀ (is : List Nat) (listed : Array Bool) (j : Nat), (setAll listed is)[j]? = if j ∈ is ∧ j < listed.size then some true else listed[j]?
  | [], _, _ => by simp [setAll]
  | i :: is, l, j => by
    show (setAll (l.setIfInBounds i true) is)[j]? = _
    rw [setAll_get is, Array.size_setIfInBounds, Array.getElem?_setIfInBounds]
    by_cases h1 : j ∈ is
    · by_cases h2 : j < l.size
      · simp [h1, h2]
      · by_cases h3 : i = j
        · subst h3; simp [h2]
        · simp [h2, h3]
    · by_cases h3 : i = j
      · subst h3
        by_cases h2 : i < l.size
        · simp [h1, h2]
        · simp [h2]
      · simp [h1, h3, Ne.symm h3]
theorem setAll_perm {is js : List Nat} (h : is.Perm js) (listed : Array Bool) : setAll listed is = setAll listed js := by
  apply Array.ext_getElem?
  intro j
  rw [setAll_get, setAll_get]
  simp only [h.mem_iff]
theorem setAll_snoc (listed : Array Bool) (is : List Nat) (i : Nat) : setAll listed (is ++ [i]) = (setAll listed is).setIfInBounds i true := by
  simp [setAll, List.foldl_append]
theorem getD_eq {l : Array Bool} {j : Nat} {b : Bool} : l.getD j b = (l[j]?).getD b := by simp [Array.getD_eq_getD_getElem?]
theorem mem_ready {ops : Array Oper} {l : Array Bool} {j : Nat} : j ∈ Region.ready .any ops l ↔ j < ops.size ∧ l.getD j true = false ∧ ∃ o, ops[j]? = some o ∧ ∀ e ∈ o.after, Region.binds .any e = true → l.getD e.on false = true := by
  unfold Region.ready
  rw [List.mem_filter, List.mem_range]
  constructor
  · rintro ⟨h1, h2⟩
    simp only [Bool.and_eq_true, Bool.not_eq_true'] at h2
    refine ⟨h1, h2.1, ops[j], by simp [h1], fun e he hb => ?_⟩
    have h3 := h2.2
    simp only [Array.getElem?_eq_getElem h1, Option.map_some, Option.getD_some] at h3
    have := Array.all_eq_true_iff_forall_mem.1 h3 e he
    simpa [hb] using this
  · rintro ⟨h1, h2, o, ho, h3⟩
    refine ⟨h1, ?_⟩
    simp only [Bool.and_eq_true, Bool.not_eq_true', ho, Option.map_some, Option.getD_some]
    refine ⟨h2, Array.all_eq_true_iff_forall_mem.2 fun e he => ?_⟩
    cases hb : Region.binds .any e with
    | false => rfl
    | true => simpa [hb] using h3 e he hb
theorem parOk_ready {ops : Array Oper} {listed : Array Bool} {is ds : List Nat} {t : Nat} (h : parOk ops listed is = true) (hds : ∀ d ∈ ds, d ∈ is) (ht : t ∈ is) (htd : t ∉ ds) :
    Region.ready .any ops (setAll listed ds) ≠ [] ∧ ∀ j ∈ Region.ready .any ops (setAll listed ds), j ∈ is ∧ j ∉ ds := by
  unfold parOk at h
  rw [Bool.and_eq_true, List.all_eq_true, List.all_eq_true] at h
  obtain ⟨h1, h2⟩ := h
  have hin : ∀ i ∈ is, i ∈ Region.ready .any ops listed ∧ i < listed.size := fun i hi => by
    have := h1 i hi
    simpa [Nat.blt_eq] using this
  have hun : ∀ j, j ∉ ds → (setAll listed ds)[j]? = listed[j]? := fun j hj => by rw [setAll_get, if_neg (fun k => hj k.1)]
  refine ⟨?_, ?_⟩
  · intro he
    obtain ⟨hr, hs⟩ := hin t ht
    obtain ⟨r1, r2, o, r3, r4⟩ := mem_ready.1 hr
    have : t ∈ Region.ready .any ops (setAll listed ds) := mem_ready.2 ⟨r1, by rw [getD_eq, hun t htd, ← getD_eq]; exact r2, o, r3, fun e hee hb => by
      have := r4 e hee hb
      rw [getD_eq] at this ⊢
      rw [setAll_get]
      split
      · rfl
      · exact this⟩
    rw [he] at this
    simp at this
  · intro j hj
    obtain ⟨r1, r2, o, r3, r4⟩ := mem_ready.1 hj
    have hjd : j ∉ ds := by
      intro hm
      obtain ⟨_, hs⟩ := hin j (hds j hm)
      rw [getD_eq, setAll_get, if_pos ⟨hm, hs⟩] at r2
      simp at r2
    refine ⟨?_, hjd⟩
    have h3 := h2 j (List.mem_range.2 r1)
    rw [getD_eq, hun j hjd, ← getD_eq] at r2
    simp only [r2, r3, Bool.false_or, Bool.or_eq_true] at h3
    rcases h3 with h3 | h3 | h3
    · simpa using h3
    · exfalso
      have := List.all_eq_true.1 h3 t ht
      obtain ⟨e, he, hb⟩ := Array.any_eq_true'.1 this
      simp only [Bool.and_eq_true, beq_iff_eq] at hb
      have := r4 e he hb.1
      rw [hb.2, getD_eq, hun t htd] at this
      obtain ⟨hr, _⟩ := hin t ht
      obtain ⟨_, q, _⟩ := mem_ready.1 hr
      rw [getD_eq] at q
      cases hl : listed[t]? with
      | none => rw [hl] at this; simp at this
      | some b => rw [hl] at this q; simp at this q; rw [this] at q; simp at q
    · exfalso
      obtain ⟨e, he, hb⟩ := Array.any_eq_true'.1 h3
      simp only [Bool.and_eq_true, Bool.not_eq_true'] at hb
      have h5 := r4 e he hb.1.1
      have hnd : e.on ∉ ds := fun hm => by
        have := hds _ hm
        have h6 := hb.2
        simp [this] at h6
      rw [getD_eq, hun _ hnd, ← getD_eq, hb.1.2] at h5
      simp at h5

section
variable {R : Type} {P : Program} {n : Nat} {A : Nat → Prop} {w0 w1 : World} {Q : R → Exit → Act → World → Prop} {ρ ρ' : Env} {Γ Γ' Γp Γ1 : Ctx} {E : Option R} {O : List Nat} {ops : Array Oper} {fuel : Nat} {listed : Array Bool}
variable {ty : TypeId} {pos : String} {after : Array Edge} {g : Option (Nat × Bool)}

/-- What a done operation left. -/
abbrev PDone := (p : POp) × p.G
def PDone.holds (n : Nat) (a : Act) (q : PDone) : Prop := a.tmps.getD q.1.d undef = q.1.v q.2 ∧ q.1.d < n
def PDone.fs (q : PDone) : Ctx := q.1.fs q.2
theorem Sat.more {a : Act} {d : Nat} {v : Value} (h : Sat n ρ a) (hv : a.tmps.getD d undef = v) (hd : d < n) : Sat n ((d, v) :: ρ) a := by
  refine ⟨h.size, h.defers, fun t u ht => ?_⟩
  simp only [Env.get] at ht
  by_cases e : d = t
  · subst e
    simp at ht
    subst ht
    exact ⟨hv, hd⟩
  · rw [beq_false_of e] at ht
    exact h.get t u (by simpa using ht)
theorem PAll.use {K : Env → Ctx → Prop} : ∀ (S : List POp) (ρ : Env) (Γ : Ctx) (D : List PDone), (D.map (·.1)).Perm S → PAll S K ρ Γ →
    ∃ ρ' Γ', K ρ' Γ' ∧ (∀ a, Sat n ρ a → (∀ q ∈ D, q.holds n a) → Sat n ρ' a) ∧ (Γ ++ D.flatMap PDone.fs).Perm Γ'
  | [], ρ, Γ, D, hp, h => by
    have : D = [] := by simpa using hp.length_eq
    subst this
    exact ⟨ρ, Γ, h, fun a ha _ => ha, by simp⟩
  | p :: S, ρ, Γ, D, hp, h => by
    have hm : p ∈ D.map (·.1) := hp.mem_iff.2 List.mem_cons_self
    obtain ⟨q, hq, rfl⟩ := List.mem_map.1 hm
    obtain ⟨D1, D2, rfl⟩ := List.append_of_mem hq
    have hpd : (D1 ++ q :: D2).Perm (q :: (D1 ++ D2)) := List.perm_middle
    have hp2 : ((D1 ++ D2).map (·.1)).Perm S := by
      have := (hpd.map (·.1)).symm.trans hp
      exact List.Perm.cons_inv this
    obtain ⟨ρ', Γ', k1, k2, k3⟩ := PAll.use S ((q.1.d, q.1.v q.2) :: ρ) (q.1.fs q.2 ++ Γ) (D1 ++ D2) hp2 (h q.2)
    refine ⟨ρ', Γ', k1, fun a ha hs => k2 a (ha.more (hs q hq).1 (hs q hq).2) (fun q' hq' => hs q' (hpd.mem_iff.2 (List.mem_cons_of_mem _ hq'))), ?_⟩
    refine List.Perm.trans ?_ k3
    have : ((D1 ++ q :: D2).flatMap PDone.fs).Perm (q.fs ++ (D1 ++ D2).flatMap PDone.fs) := by
      have := hpd.flatMap_right PDone.fs
      simpa using this
    refine (this.append_left Γ).trans ?_
    show (Γ ++ (q.1.fs q.2 ++ (D1 ++ D2).flatMap PDone.fs)).Perm ((q.1.fs q.2 ++ Γ) ++ (D1 ++ D2).flatMap PDone.fs)
    rw [← List.append_assoc]
    exact List.perm_append_comm.append_right _

theorem JD_par0 (S : List POp) (hok : parOk ops listed (S.map (·.i)) = true) (hfr : (S.all fun p => (ρ.get p.d).isNone && Nat.blt p.d n) = true) (hnd : ndup (S.map (·.d)) = true) (hni : ndup (S.map (·.i)) = true)
    (hst : PSteps P n A w0 ops ρ Γ S) (h : PAll S (fun ρ' Γ' => JD P n A w0 w1 Γ1 ops O fuel (setAll listed (S.map (·.i))) Q ρ' Γ' E) ρ Γ) : JD P n A w0 w1 Γ1 ops O (fuel + S.length) listed Q ρ Γ E := by
  have hnodup : ∀ l : List Nat, ndup l = true → l.Nodup := by
    intro l
    induction l with
    | nil => simp
    | cons x l ih =>
      intro hl
      simp only [ndup, Bool.and_eq_true, Bool.not_eq_true', List.any_eq_false] at hl
      exact List.nodup_cons.2 ⟨fun hm => hl.1 x hm (Nat.beq_refl x), ih hl.2⟩
  intro r hr
  have key : ∀ (k : Nat) (T : List POp) (D : List PDone) (a : Act) (w : World), T.length = k → (D.map (·.1) ++ T).Perm S → Sat n ρ a → (∀ q ∈ D, q.holds n a) → SH A w0 w (Γ ++ D.flatMap PDone.fs) → Grow w1 w O →
      OwnNew Γ1 (Γ ++ D.flatMap PDone.fs) w1 → wpAnyH P .any ops (noP (Q r)) (fun w' => Grow w1 w' O) (fuel + k) (setAll listed ((D.map (·.1)).map (·.i))) a w := by
    intro k
    induction k with
    | zero =>
      intro T D a w hT hp hs hq hh hg hon
      have : T = [] := List.eq_nil_of_length_eq_zero hT
      subst this
      rw [List.append_nil] at hp
      obtain ⟨ρ', Γ', k1, k2, k3⟩ := PAll.use (n := n) S ρ Γ D hp h
      have e := setAll_perm (hp.map (·.i)) listed
      rw [e]
      refine k1 r hr a w (k2 a hs hq) (hh.perm k3) hg (fun b hb => hon b ?_)
      have ho : Ctx.owns (Γ ++ D.flatMap PDone.fs) |>.Perm Γ'.owns := k3.flatMap_right _
      exact ho.mem_iff.2 hb
    | succ k ih =>
      intro T D a w hT hp hs hq hh hg hon
      have hpi := hp.map (·.i)
      have hpd := hp.map (·.d)
      rw [List.map_append] at hpi hpd
      have hndi := hpi.nodup_iff.2 (hnodup _ hni)
      have hndd := hpd.nodup_iff.2 (hnodup _ hnd)
      obtain ⟨t, ht⟩ : ∃ t, t ∈ T := by
        cases T with
        | nil => simp at hT
        | cons t T => exact ⟨t, List.mem_cons_self⟩
      rw [List.nodup_append] at hndi hndd
      obtain ⟨r1, r2⟩ := parOk_ready (ds := (D.map (·.1)).map (·.i)) (t := t.i) hok (fun d hd => hpi.mem_iff.1 (List.mem_append_left _ hd)) (hpi.mem_iff.1 (List.mem_append_right _ (List.mem_map.2 ⟨t, ht, rfl⟩)))
        (fun hm => hndi.2.2 _ hm _ (List.mem_map.2 ⟨t, ht, rfl⟩) rfl)
      rw [show fuel + (k + 1) = (fuel + k) + 1 from rfl]
      refine wpAnyH_all rfl r1 fun j hj => ?_
      obtain ⟨j1, j2⟩ := r2 j hj
      have j3 := hpi.mem_iff.2 j1
      rcases List.mem_append.1 j3 with j3 | j3
      · exact absurd j3 j2
      obtain ⟨p, hpT, rfl⟩ := List.mem_map.1 j3
      have hpS : p ∈ S := hp.mem_iff.1 (List.mem_append_right _ hpT)
      obtain ⟨T1, T2, rfl⟩ := List.append_of_mem hpT
      have hfp := List.all_eq_true.1 hfr p hpS
      simp only [Bool.and_eq_true, Option.isNone_iff_eq_none, Nat.blt_eq] at hfp
      refine hst.get p hpS (D.flatMap PDone.fs) _ a w _ hs hh fun x w' hh' hg' hon' => ?_
      have hg2 : Grow w1 w' O := hg.more hg' (by simp)
      refine ⟨hg2, ?_⟩
      have hset : (setAll listed ((D.map (·.1)).map (·.i))).setIfInBounds p.i true = setAll listed (((D ++ [(⟨p, x⟩ : PDone)]).map (·.1)).map (·.i)) := by
        rw [List.map_append, List.map_append]
        exact (setAll_snoc _ _ _).symm
      rw [hset]
      have hctx : (p.fs x ++ (Γ ++ D.flatMap PDone.fs)).Perm (Γ ++ (D ++ [(⟨p, x⟩ : PDone)]).flatMap PDone.fs) := by
        have e : (D ++ [(⟨p, x⟩ : PDone)]).flatMap PDone.fs = D.flatMap PDone.fs ++ p.fs x := by simp [PDone.fs]
        refine List.perm_append_comm.trans ?_
        rw [e, List.append_assoc]
      refine ih (T1 ++ T2) (D ++ [⟨p, x⟩]) _ _ ?_ ?_ ?_ ?_ (hh'.perm hctx) hg2 ?_
      · simp at hT ⊢; omega
      · refine List.Perm.trans ?_ hp
        rw [List.map_append, List.append_assoc]
        exact (List.perm_middle (l₁ := T1) (l₂ := T2) (a := p)).symm.append_left _
      · refine ⟨by simp [Act.put, hs.size], hs.defers, fun t u htu => ?_⟩
        obtain ⟨g1, g2⟩ := hs.get t u htu
        have hne : p.d ≠ t := by
          rintro rfl
          rw [hfp.1] at htu
          cases htu
        refine ⟨?_, g2⟩
        simp [Act.put, Array.getD_eq_getD_getElem?, hne]
        simpa [Array.getD_eq_getD_getElem?] using g1
      · intro q hqm
        rcases List.mem_append.1 hqm with hqm | hqm
        · obtain ⟨g1, g2⟩ := hq q hqm
          have hne : p.d ≠ q.1.d := by
            intro e
            exact hndd.2.2 q.1.d (List.mem_map.2 ⟨q.1, List.mem_map.2 ⟨q, hqm, rfl⟩, rfl⟩) p.d (List.mem_map.2 ⟨p, hpT, rfl⟩) e.symm
          refine ⟨?_, g2⟩
          simp [Act.put, Array.getD_eq_getD_getElem?, hne]
          simpa [Array.getD_eq_getD_getElem?] using g1
        · rw [List.mem_singleton] at hqm
          subst hqm
          exact ⟨by simp [Act.put, hs.size, hfp.2], hfp.2⟩
      · have ho : (Ctx.owns (p.fs x ++ (Γ ++ D.flatMap PDone.fs))).Perm (Ctx.owns (Γ ++ (D ++ [(⟨p, x⟩ : PDone)]).flatMap PDone.fs)) := hctx.flatMap_right _
        have hon2 := OwnNew.trans hon hg hon'
        exact fun b hb => hon2 b (ho.mem_iff.2 hb)
  intro a w hs hh hg hon
  have := key S.length S [] a w rfl (by simp) hs (by simp) (by simpa using hh) hg (by simpa using hon)
  simpa [setAll] using this

theorem JD_par (S : List POp) (is : List Nat) (k : Nat) (his : S.map (·.i) = is) (hk : S.length = k) (hok : parOk ops listed is = true) (hfr : (S.all fun p => (ρ.get p.d).isNone && Nat.blt p.d n) = true) (hnd : ndup (S.map (·.d)) = true) (hni : ndup is = true)
    (hst : PSteps P n A w0 ops ρ Γ S) (h : PAll S (fun ρ' Γ' => JD P n A w0 w1 Γ1 ops O fuel (setAll listed is) Q ρ' Γ' E) ρ Γ) : JD P n A w0 w1 Γ1 ops O (fuel + k) listed Q ρ Γ E := by
  subst his hk
  exact JD_par0 S hok hfr hnd hni hst h

theorem PStep.st {i d : Nat} {op : Op} {G : Type} {v : G → Value} {fs : G → Ctx} (hi : ops[i]? = some ⟨some d, op, ty, pos, after, g⟩) (hw : Wants n ρ ops ⟨some d, op, ty, pos, after, g⟩)
    (hx : ∀ Δ, St P n A w0 ρ (Γ ++ Δ) ⟨some d, op, ty, pos, after, g⟩ v (fun x => fs x ++ (Γ ++ Δ)) []) : PStep P n A w0 ops ρ Γ ⟨i, d, G, v, fs⟩ := by
  intro Δ Q a w K hs hh hK
  obtain ⟨x, w', hrun, hh', hgr, hno⟩ := hx Δ a w hs hh
  unfold wpOp
  simp only [hi, hw a hs, if_true]
  refine .inl ?_
  unfold Oper.wp
  rw [hrun, Oper.upon_value]
  exact hK x w' hh' hgr hno
theorem PStep.call {i d : Nat} {f : FuncId} {args : List Operand} {ats : Array TypeId} {vs : List Value} {G : Type} {v : G → Value} {fs : G → Ctx} (hi : ops[i]? = some ⟨some d, .call ⟨.value (.func f), args.toArray, ats⟩, ty, pos, after, g⟩)
    (hw : Wants n ρ ops ⟨some d, .call ⟨.value (.func f), args.toArray, ats⟩, ty, pos, after, g⟩) (hf : ∀ args w, (callFunc f args).run P w = .ok (.enter f args) w) (hargs : evL ρ args = some vs)
    (hC : ∀ Δ, Ca P A w0 (Γ ++ Δ) f vs v (fun x => fs x ++ (Γ ++ Δ))) : PStep P n A w0 ops ρ Γ ⟨i, d, G, v, fs⟩ := by
  intro Δ Q a w K hs hh hK
  unfold wpOp
  simp only [hi, hw a hs, if_true]
  refine .inl ?_
  have hrun : (execOp a.eval ⟨some d, .call ⟨.value (.func f), args.toArray, ats⟩, ty, pos, after, g⟩).run P w = .ok (.enter f vs.toArray) w := by
    simp [execOp, resolve, Act.eval, Deferred.ofValue, invoke, hs.evalL hargs, hf]
  unfold Oper.wp
  rw [hrun, Oper.upon_enter]
  refine (hC Δ w hh).mono ?_
  rintro e w' ⟨x, rfl, hh', hgr, hno⟩
  exact hK x w' hh' hgr hno
end

section
variable {R : Type} {P : Program} {n : Nat} {A : Nat → Prop} {w0 w : World} {Q : R → Exit → Act → World → Prop} {ρ ρ' : Env} {Γ Γ' : Ctx} {E : Option R}
variable {ty : TypeId} {pos : String} {after : Array Edge} {g : Option (Nat × Bool)}
/-- A function value that is known, walked in place. -/
theorem JL_inlinev {ops : Array Oper} {rest : List Oper} {d : Nat} {o : Operand} {f : FuncId} {fn : Func} {body : Code} {n' : Nat} {args : List Operand} {ats : Array TypeId} {vs caps : List Value}
    (hw : Wants n ρ ops ⟨some d, .call ⟨.value o, args.toArray, ats⟩, ty, pos, after, g⟩) (hd : Nat.blt d n = true)
    (hf : ∀ args w, (callFunc f args).run P w = .ok (.enter f args) w) (ho : ev ρ o = some (.func (.func f) #[] caps.toArray)) (hargs : evL ρ args = some vs) (hfn : P.funcs[f]? = some fn) (hb : fn.body = some body) (hn : fn.ntmps = n') (hl : Nat.ble (vs ++ caps).length n' = true) (hρ : enum 0 (vs ++ caps) = ρ')
    (h : ∀ K : R → Value → World → Prop, Behind P n A w0 ops rest Q d ρ K → J P n' A w0 body (QInl P fn K) ρ' Γ E) : JL P n A w0 ops (⟨some d, .call ⟨.value o, args.toArray, ats⟩, ty, pos, after, g⟩ :: rest) Q ρ Γ E := by
  intro r hr a w hs hh
  refine wpList_step fun K hK => ?_
  rw [hw a hs]
  simp only [if_true]
  unfold Oper.wp
  rw [run_callv hs hf ho hargs, Oper.upon_enter]
  refine (calls_of_wp hfn hb (R := fun e w' => ∃ u, e = .returned u ∧ wpList P ops (Q r) rest (a.put (some d) u) w') ?_).mono ?_
  · have hJ := h (fun r u w' => wpList P ops (Q r) rest (a.put (some d) u) w') (fun u Γ' E' hJL r hE w hw' => hJL r hE _ w (hs.put (by simpa [Nat.blt_eq] using hd)) hw')
    refine hJ r hr _ w ⟨?_, rfl, ?_⟩ hh
    · simp [Nat.ble_eq] at hl
      simp [hn]; omega
    · intro t u ht
      rw [← hρ] at ht
      obtain ⟨_, h2⟩ := enum_get (vs ++ caps) 0 t u ht
      have h2' : (vs ++ caps)[t]? = some u := by simpa using h2
      have hlt : t < (vs ++ caps).length := (List.getElem?_eq_some_iff.1 h2').1
      simp only [Nat.ble_eq] at hl
      refine ⟨?_, by omega⟩
      have hlt' : t < ((vs ++ caps).toArray).size := by simpa using hlt
      rw [Array.getD_eq_getD_getElem?, Array.getElem?_append_left hlt']
      simp only [List.getElem?_toArray, h2', Option.getD_some]
  · rintro e w' ⟨u, rfl, hu⟩
    exact hK _ _ hu
end
end Go.Tc
