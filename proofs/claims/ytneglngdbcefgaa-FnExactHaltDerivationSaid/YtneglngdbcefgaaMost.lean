/-
  Rows as cells alone; functions that turn an own row round. No condition.
  Functions that store through what they are handed: boxes and rows of the caller's go in, and come back with what they hold then. No condition.
  Arrays of numbers inside boxes: parts of them copied, read and written at an index. No condition.
  Ranges over a map, in whatever order its entries come. No condition.
  Tokens that go over one by one: a row with tokens is read from its begin on, and what is taken out takes its tokens along. No condition.
  Own rows in full, their inner rows too; an element of such a row, opened and closed; tokens that become own rows again. No condition.
  Ranges over functions: the function that is ranged over and the rounds are walked in place. No condition.
  Bytes and parts of texts. No condition.
  Functions that strike elements out of an own row by a function value (slices.DeleteFunc). No condition.
-/
import Derived.Test.YtneglngdbcefgaaMore
import Derived.Maps.RangeRun
namespace Go.Tc
open Go Go.RowKit

/-- A cell's value, as a datum. -/
structure Vc where
  v : Value
  one : v.oneCell' = true
instance : Rep Vc where
  sz := 1
  agg := false
  rdc _ _ cs x := cs = [x.v]
  len h := by subst h; rfl
  one := by
    intro A w cs x h c hc
    subst h
    simp at hc
    subst hc
    exact x.one
  pos := by decide
  single _ := rfl
  frame h _ := h
  dc _ cs x B := cs = [x.v] ∧ B = []
  dcf h _ := h
  dcr h _ := h.1
  dlt h b hb := by simp [h.2] at hb
  flat := true
  flt _ h := ⟨h, rfl⟩
theorem vcs_of : ∀ (cells : List Value), (∀ c ∈ cells, c.oneCell' = true) → ∃ vs : List Vc, vs.map Vc.v = cells
  | [], _ => ⟨[], rfl⟩
  | c :: r, h => by
    obtain ⟨vs, e⟩ := vcs_of r fun d hd => h d (by simp [hd])
    exact ⟨⟨c, h c (by simp)⟩ :: vs, by simp [e]⟩
theorem rdl_vc {A : Nat → Prop} {w : World} : ∀ (vs : List Vc), RdL A w (vs.map Vc.v) vs
  | [] => rfl
  | x :: r => ⟨[x.v], r.map Vc.v, rfl, rfl, rdl_vc r⟩
theorem rdl_vc_eq {A : Nat → Prop} {w : World} : ∀ (vs : List Vc) (cs : List Value), RdL A w cs vs → cs = vs.map Vc.v
  | [], _, h => h
  | x :: r, _, ⟨c1, c2, e, h1, h2⟩ => by
    have h1 : c1 = [x.v] := h1
    rw [e, h1, rdl_vc_eq r c2 h2]
    rfl
theorem RdL.rev {α : Type} [Rep α] {A : Nat → Prop} {w : World} (hs : Rep.sz α = 1) : ∀ (xs : List α) (cs : List Value), RdL A w cs xs → RdL A w cs.reverse xs.reverse
  | [], _, h => by simp [RdL] at h; simp [RdL, h]
  | x :: r, _, ⟨c1, c2, e, h1, h2⟩ => by
    have hl := Rep.len h1
    rw [hs] at hl
    match c1, hl with
    | [c], _ =>
      subst e
      rw [List.singleton_append, List.reverse_cons, List.reverse_cons]
      exact RdL.append _ _ _ _ (RdL.rev hs r c2 h2) ⟨[c], [], rfl, h1, rfl⟩
def rev {α : Type} (xs : List α) : Option (List α) := if xs.length ≤ 1099511627776 then some xs.reverse else none
/-- What a function that turns an own row round does. -/
def RevCon (P : Program) (f : FuncId) (e : TypeId) : Prop :=
  ∀ (w : World) (v : Value) (xs ys : List Vc), Ow (fun k => k ∈ v.ownBlock.toList) w e v xs → (∀ b ∈ v.ownBlock.toList, b < w.heap.size) → rev xs = some ys →
    Calls P f #[v] w fun r w' => r = .returned (.tuple #[]) ∧ Ow (fun k => k ∈ v.ownBlock.toList) w' e v ys ∧ Grow w w' v.ownBlock.toList
section
variable {R : Type} {P : Program} {n : Fr} {A : Nat → Prop} {w0 w w' : World} {Q : R → Exit → Act → World → Prop} {ρ ρ' : Env} {Γ Γ' : Ctx} {E : Option R}
variable {d : Option Nat} {ty : TypeId} {pos : String} {after : Array Edge} {g : Option (Nat × Bool)}
theorem RevCon.ow {f : FuncId} {e : TypeId} (hM : RevCon P f e) {α : Type} [Rep α] (hs : Rep.sz α = 1) {A : Nat → Prop} {w : World} {v : Value} {xs ys : List α} (h : Ow A w e v xs) (hA : ∀ b ∈ v.ownBlock.toList, A b) (hb : ∀ b ∈ v.ownBlock.toList, b < w.heap.size) (hr : rev xs = some ys) :
    Calls P f #[v] w fun r w' => r = .returned (.tuple #[]) ∧ Ow A w' e v ys ∧ Grow w w' v.ownBlock.toList := by
  obtain ⟨cells, h1, h2⟩ := h
  obtain ⟨vs, hvs⟩ := vcs_of cells (RdL.one _ _ h2)
  have hl := RdL.length _ _ h2
  rw [hs, Nat.mul_one] at hl
  have hvl : vs.length = xs.length := by rw [← hl, ← hvs, List.length_map]
  unfold rev at hr
  split at hr
  · rename_i hle
    have hO : Ow (fun k => k ∈ v.ownBlock.toList) w e v vs := ⟨cells, by rw [hvl]; rw [hs] at h1; exact h1, by rw [← hvs]; exact rdl_vc vs⟩
    refine (hM w v vs vs.reverse hO hb (by unfold rev; rw [hvl, if_pos hle])).mono ?_
    rintro r w' ⟨rfl, ⟨cells', h3, h4⟩, hg⟩
    refine ⟨rfl, ?_, hg⟩
    have e1 := rdl_vc_eq _ _ h4
    rw [List.map_reverse, hvs] at e1
    subst e1
    rw [← Option.some.inj hr]
    refine ⟨cells.reverse, ?_, RdL.frame (fun k hk hn => ⟨hg.block k hk (fun hm => hn (hA k hm)), hn⟩) _ _ (RdL.rev hs _ _ h2)⟩
    rw [List.length_reverse, ← hvl, hs]
    rw [List.length_reverse] at h3
    exact h3
  · simp at hr
end
end Go.Tc
namespace Go.Tc
open Go Go.RowKit

section
variable {R : Type} {P : Program} {n : Fr} {A : Nat → Prop} {w0 w w' : World} {Q : R → Exit → Act → World → Prop} {ρ ρ' : Env} {Γ Γ' Δ : Ctx} {E : Option R} {B : List Nat}
variable {d : Option Nat} {ty : TypeId} {pos : String} {after : Array Edge} {g : Option (Nat × Bool)}

/-- What is read, read apart from what is handed over. -/
theorem SH.apart {α : Type} [Rep α] {v : Value} {x : α} (h : SH A w0 w Γ) (is : List Nat) (hB : (Tc.sel is Γ).owns = B) (hr : Rd (fun k => A k ∨ k ∈ Γ.owns) w v x) : Rd (fun k => k ∈ B) w v x := by
  refine hr.weak fun k hk => .inr ?_
  rw [← hB] at hk
  obtain ⟨i, _, f, hf, hbf⟩ := sel_owns is Γ k hk
  exact List.mem_flatMap.2 ⟨f, List.mem_of_getElem? hf, hbf⟩

theorem N_inl4 {fn : Func} {n2 : Fr} {ρ2 : Env} {ops : Array Oper} {rest : List Oper} {d : Nat} {K : R → Value → World → Prop} {rv1 rv2 rv3 rv4 : ResultVar} {u1 u2 u3 u4 : Value} (hK : Behind P n A w0 ops rest Q d ρ K) (hres : fn.results = #[rv1, rv2, rv3, rv4]) (hu1 : Rv P n2 A w0 ρ2 Γ rv1 u1) (hu2 : Rv P n2 A w0 ρ2 Γ rv2 u2) (hu3 : Rv P n2 A w0 ρ2 Γ rv3 u3) (hu4 : Rv P n2 A w0 ρ2 Γ rv4 u4)
    (h : JL P n A w0 ops rest Q ((d, .tuple #[u1, u2, u3, u4]) :: ρ) Γ E) (hds : n2.ds = [] := by rfl) : N n2 A w0 (QInl P fn K) .ret ρ2 Γ E := by
  intro r hr a w hs hh
  refine leaves0 (hs.defers.trans hds) ⟨.tuple #[u1, u2, u3, u4], ?_, _, rfl, hK _ _ _ h r hr w hh⟩
  rw [results_rv, hres]
  simp [hu1 a w hs hh, hu2 a w hs hh, hu3 a w hs hh, hu4 a w hs hh]
end
end Go.Tc
namespace Go.Tc
open Go Go.RowKit

section
variable {R : Type} {P : Program} {n : Fr} {A : Nat → Prop} {w0 : World} {Q : R → Exit → Act → World → Prop} {ρ ρ' : Env} {Γ Γ' : Ctx} {E : Option R}
variable {d : Option Nat} {ty : TypeId} {pos : String} {after : Array Edge} {g : Option (Nat × Bool)}
end
/-! ### Keys with arrays of numbers in them -/
section
variable {P : Program} {w : World}
end
end Go.Tc
namespace Go.Tc
open Go Go.RowKit

/-! ### Plain -/
section
variable {α S R0 : Type}
open Classical in
end

/-! ### The iterator -/
section
variable {R R0 S G : Type} {P : Program} {n : Fr} {A : Nat → Prop} {w0 w w' : World} {Q : R → Exit → Act → World → Prop} {ρ ρ' : Env} {Γ Γ' : Ctx} {E : Option R}
variable {ty : TypeId} {pos : String} {after : Array Edge} {g : Option (Nat × Bool)}
variable {κ ν : Type} {enc : κ → Value} {venc : ν → Value}
/-- What is known of a map's entries. -/
def Ents (enc : κ → Value) (venc : ν → Value) (m : List (κ × ν)) (es : Array MapEntry) (clock : Nat) : Prop :=
  es.toList.map (fun e => (e.key, e.val)) = m.map (fun p => (enc p.1, venc p.2)) ∧ Stamps es clock
theorem Ents.len {m : List (κ × ν)} {es : Array MapEntry} {clock : Nat} (h : Ents enc venc m es clock) : es.toList.length = m.length := by
  have := congrArg List.length h.1
  simpa using this
end
end Go.Tc
namespace Go.Tc
open Go Go.RowKit

section
variable {α : Type}
theorem tks_append (l m : List (Tk α)) : tks (l ++ m) = tks l ++ tks m := by simp [tks]
/-- The tokens from a place on. -/
def tlB (ts : List (Tk α)) (k : Int) : List Nat := tks (ts.drop k.toNat)
theorem tks_drop (ts : List (Tk α)) (n : Nat) : (tks (ts.drop n)).Sublist (tks ts) := by
  have : tks ts = tks (ts.take n) ++ tks (ts.drop n) := by rw [← tks_append, List.take_append_drop]
  rw [this]
  exact List.sublist_append_right _ _
end
section
variable {R : Type} {P : Program} {n : Fr} {A : Nat → Prop} {w0 w w' : World} {Q : R → Exit → Act → World → Prop} {ρ ρ' : Env} {Γ Γ' : Ctx} {E : Option R}
variable {d : Option Nat} {ty : TypeId} {pos : String} {after : Array Edge} {g : Option (Nat × Bool)}
/-- Tokens that nobody reads. -/
abbrev hld (B : List Nat) : Fact := .tkn (.int .i64 0) (0 : Int) B
/-- A row with tokens is from here on read alone; what is taken out of it takes its tokens along. -/
theorem SH.tail {α : Type} [Rep α] {e : TypeId} {v : Value} {xs : List α} {B : List Nat} (h : SH A w0 w Γ) (i : Nat) (hi : Γ[i]? = some (.od e v xs B)) (k : Int) :
    ∃ ts : List (Tk α), dats ts = xs ∧ ts.length ≤ maxLen ∧ SH A w0 w (hld (tlB ts k) :: .rd v ts :: Γ.set i (.rd v xs)) := by
  have hli := (List.getElem?_eq_some_iff.1 hi).1
  obtain ⟨⟨cells, B0, ho1, _, _, _⟩, h3⟩ := h.get i hi
  obtain ⟨ts, e1, e2, e4, h1⟩ := h.od_down i hi
  have hlen : ts.length ≤ maxLen := by
    rw [← dats_length, e1]
    rcases ho1.2 with ⟨_, h0⟩ | ⟨_, cap, _, _, _, _, hc, hm, _, _⟩
    · omega
    · omega
  have h5 := (h.od_ow i hi).freeze i (get_set hli)
  have h6 := h1.freeze i (get_set hli)
  rw [List.set_set] at h5 h6
  have ho : ∀ {β : Type} [Rep β] (y : β), ∃ l1 l2, Γ.owns = l1 ++ v.ownBlock.toList ++ l2 ∧ Ctx.owns (Γ.set i (.rd v y)) = l1 ++ [] ++ l2 := fun {β} _ y => owns_set (f' := .rd v y) hi
  have hoo : Ctx.owns (Γ.set i (.rd v ts)) = Ctx.owns (Γ.set i (.rd v xs)) := by
    have a := owns_set_eq (Γ := Γ.set i (.rd v ts)) (f := .rd v ts) (f' := .rd v xs) (get_set hli) rfl
    rw [List.set_set] at a
    exact a.symm
  have hrd := h6.get i (get_set hli)
  have h7 : SH A w0 w (.rd v ts :: Γ.set i (.rd v xs)) := h5.cons_rd (by rw [← hoo]; exact hrd)
  have hsub : ∀ b ∈ tlB ts k, b ∈ B := fun b hb => e4 b ((tks_drop ts _).subset hb)
  have hBt : ∀ b ∈ B, b ∈ Γ.toks := fun c hc => List.mem_flatMap.2 ⟨_, List.mem_of_getElem? hi, hc⟩
  have hsubo : ∀ b ∈ Ctx.owns (Γ.set i (.rd v xs)), b ∈ Γ.owns := fun b hb => by
    obtain ⟨l1, l2, a, c⟩ := ho xs
    rw [c] at hb
    rw [a]
    simp only [List.append_nil, List.mem_append] at hb ⊢
    rcases hb with hb | hb
    · exact .inl (.inl hb)
    · exact .inr hb
  refine ⟨ts, e1, hlen, ?_⟩
  refine h7.consT (Grow.refl w []) (by simp [Fact.owns]) (by simp [Fact.owns]) ⟨⟨[], ⟨[.int .i64 0], rfl, rfl, rfl⟩, by simp, by simp⟩, fun b hb => ⟨(h3 b (hsub b hb)).1, ?_⟩⟩ ?_ (fun b hb => h.tge b (hBt b (hsub b hb)))
  · have h8 : Ctx.owns (hld (tlB ts k) :: .rd v ts :: Γ.set i (.rd v xs)) = Ctx.owns (Γ.set i (.rd v xs)) := by simp [Ctx.owns, Fact.owns]
    rw [h8]
    rintro (hk | hk)
    · exact (h3 b (hsub b hb)).2 (.inl hk)
    · exact (h3 b (hsub b hb)).2 (.inr (hsubo b hk))
  · show (tlB ts k ++ Ctx.toks (.rd v ts :: Γ.set i (.rd v xs))).Nodup
    have h9 : Ctx.toks (.rd v ts :: Γ.set i (.rd v xs)) = Ctx.toks (Γ.set i (.rd v xs)) := by simp [Ctx.toks, Fact.toks]
    rw [h9]
    refine ((toks_perm (f' := .rd v xs) hi).append_left _).nodup_iff.2 ?_
    have p4 := (toks_perm0 hi).nodup_iff.1 h.tnd
    simp only [Fact.toks, List.nil_append] at p4 ⊢
    rw [List.nodup_append] at p4 ⊢
    exact ⟨e2.sublist (tks_drop ts _), p4.2.1, fun a ha b hb e => p4.2.2 a (hsub a ha) b hb e⟩
end
end Go.Tc
namespace Go.Tc
open Go Go.RowKit

section
variable {A : Nat → Prop} {w0 w w' : World} {Γ Γ' Δ : Ctx} {B : List Nat}
theorem DL.split {α : Type} [Rep α] {w : World} : ∀ (xs : List α) (cs : List Value) (B : List Nat) (k : Nat) (y : α), DL w cs xs B → xs[k]? = some y →
    ∃ c1 c c2 B1 Bi B2, cs = c1 ++ (c ++ c2) ∧ B = B1 ++ (Bi ++ B2) ∧ c1.length = k * Rep.sz α ∧ DL w c1 (xs.take k) B1 ∧ Rep.dc w c y Bi ∧ DL w c2 (xs.drop (k + 1)) B2
  | [], _, _, k, y, _, hk => by simp at hk
  | x :: r, _, _, 0, y, ⟨c1, c2, B1, B2, e, eB, h1, h2⟩, hk => by
    simp at hk
    subst hk e eB
    exact ⟨[], c1, c2, [], B1, B2, rfl, rfl, by simp, ⟨rfl, rfl⟩, h1, h2⟩
  | x :: r, _, _, k + 1, y, ⟨c1, c2, B1, B2, e, eB, h1, h2⟩, hk => by
    subst e eB
    obtain ⟨d1, d, d2, C1, Ci, C2, e1, e2, e3, e4, e5, e6⟩ := DL.split r c2 B2 k y h2 (by simpa using hk)
    have hl := Rep.len (Rep.dcr (A := nowhere) h1 fun _ _ h => h)
    refine ⟨c1 ++ d1, d, d2, B1 ++ C1, Ci, C2, by rw [e1]; simp, by rw [e2]; simp, by rw [List.length_append, hl, e3, Nat.add_mul]; omega, ⟨c1, d1, B1, C1, rfl, rfl, h1, e4⟩, e5, e6⟩
/-- A datum of two rows. -/
def Two {α β γ : Type} [Rep α] [Rep β] [Rep γ] (y : α) (a : List β) (c : List γ) : Prop :=
  ∀ w cs B, Rep.dc w cs y B ↔ ∃ v0 v1 B0 B1, cs = [v0, v1] ∧ B = B0 ++ B1 ∧ DS w v0 a B0 ∧ DS w v1 c B1
/-- The elements beside one. -/
def HR {α : Type} [Rep α] (o cap : Nat) (xs : List α) (k : Nat) (L1 L2 : List Value) (B1 B2 : List Nat) (w : World) : Prop :=
  ∃ p c1 c2 q, L1 = p ++ c1 ∧ L2 = c2 ++ q ∧ p.length = o ∧ DL w c1 (xs.take k) B1 ∧ DL w c2 (xs.drop (k + 1)) B2 ∧ xs.length ≤ cap ∧ cap ≤ maxLen
theorem HR.frame {α : Type} [Rep α] {o cap : Nat} {xs : List α} {k : Nat} {L1 L2 : List Value} {B1 B2 : List Nat} (h : HR o cap xs k L1 L2 B1 B2 w) (hf : ∀ b ∈ B1 ++ B2, w'.heap[b]? = w.heap[b]?) : HR o cap xs k L1 L2 B1 B2 w' := by
  obtain ⟨p, c1, c2, q, e1, e2, e3, h1, h2, h3, h4⟩ := h
  exact ⟨p, c1, c2, q, e1, e2, e3, DL.frame _ _ _ h1 fun b hb => hf b (by simp [hb]), DL.frame _ _ _ h2 fun b hb => hf b (by simp [hb]), h3, h4⟩
end
section
variable {R : Type} {P : Program} {n : Fr} {A : Nat → Prop} {w0 w w' : World} {Q : R → Exit → Act → World → Prop} {ρ ρ' : Env} {Γ Γ' : Ctx} {E : Option R} {B : List Nat}
variable {d : Option Nat} {ty : TypeId} {pos : String} {after : Array Edge} {g : Option (Nat × Bool)}
end
end Go.Tc
namespace Go.Tc
open Go Go.RowKit

section
variable {R : Type} {P : Program} {n nc : Fr} {A : Nat → Prop} {w0 w w' : World} {Q : R → Exit → Act → World → Prop} {ρ ρ' ρc : Env} {Γ Γ' : Ctx} {E : Option R}
variable {d : Option Nat} {ty : TypeId} {pos : String} {after : Array Edge} {g : Option (Nat × Bool)}

end
end Go.Tc
namespace Go.Tc
open Go Go.RowKit

section
variable {R : Type} {P : Program} {n : Fr} {A : Nat → Prop} {w0 w : World} {Q : R → Exit → Act → World → Prop} {ρ ρ' : Env} {Γ Γ' : Ctx} {E : Option R}
variable {d : Option Nat} {ty : TypeId} {pos : String} {after : Array Edge} {g : Option (Nat × Bool)}
end
end Go.Tc
namespace Go.Tc
open Go Go.RowKit

section
variable {R : Type} {P : Program} {n : Fr} {A : Nat → Prop} {w0 w w1 w' : World} {Q : R → Exit → Act → World → Prop} {ρ ρ' : Env} {Γ Γ' : Ctx} {E : Option R}
variable {d : Option Nat} {ty : TypeId} {pos : String} {after : Array Edge} {g : Option (Nat × Bool)}
end
section
variable {R : Type} {P : Program} {n : Fr} {A : Nat → Prop} {w0 w1 : World} {Q : R → Exit → Act → World → Prop} {ρ ρ' : Env} {Γ Γ' Γ1 : Ctx} {E : Option R} {ops : Array Oper} {O : List Nat} {fuel : Nat} {listed : Array Bool}
theorem N_inlD4 {fn : Func} {n2 : Fr} {ρ2 : Env} {i d : Nat} {is1 : List Nat} {C : Nat → Prop} {K : R → Value → World → Prop} {rv1 rv2 rv3 rv4 : ResultVar} {u1 u2 u3 u4 : Value} (hK : BehindD P n A w0 w1 Γ1 ops O fuel listed Q i d ρ is1 C K) (hres : fn.results = #[rv1, rv2, rv3, rv4]) (hu1 : Rv P n2 A w0 ρ2 Γ rv1 u1) (hu2 : Rv P n2 A w0 ρ2 Γ rv2 u2) (hu3 : Rv P n2 A w0 ρ2 Γ rv3 u3) (hu4 : Rv P n2 A w0 ρ2 Γ rv4 u4) (p : Nat) (is2 : List Nat) (hp : Γ[p]? = some (.fz w1 C)) (hsel : sel is2 Γ = sel is1 Γ1)
    (h : JD P n A w0 w1 Γ1 ops O fuel (listed.setIfInBounds i true) Q ((d, .tuple #[u1, u2, u3, u4]) :: ρ) Γ E) (hds : n2.ds = [] := by rfl) : N n2 A w0 (QInl P fn K) .ret ρ2 Γ E := by
  intro r hr a w hs hh
  refine leaves0 (hs.defers.trans hds) ⟨.tuple #[u1, u2, u3, u4], ?_, _, rfl, hK _ _ _ p is2 hp hsel h r hr w hh⟩
  rw [results_rv, hres]
  simp [hu1 a w hs hh, hu2 a w hs hh, hu3 a w hs hh, hu4 a w hs hh]
end
end Go.Tc
