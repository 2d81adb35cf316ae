/-
  The search for words, on both sides. No program in sight. No condition.
-/
import Derived.Test.YtneglngdbcefgaaPMoves
namespace Go.Fn
open Go Go.Tc
/-! ### The search, plainly -/
def kF (f : Gfound) : ByteArray := keyW f.move_word
def toF (m : Gmove) (k : Nat) : Gfound := ⟨m.rule, m.at_, m.word, (k : Int)⟩
noncomputable def ddN : List Gmove → List ByteArray → List Gmove
  | [], _ => []
  | m :: ms, L => @ite _ (keyW m.word ∈ L) (Classical.propDecidable _) (ddN ms L) (m :: ddN ms (addK L (keyW m.word)))
theorem dd_new : ∀ (ms : List Gmove) (st : List Gmove × List ByteArray), (ms.foldl ddF st).1 = st.1 ++ ddN ms st.2
  | [], st => by simp [ddN]
  | m :: ms, st => by
    rw [List.foldl_cons, dd_new ms, ddN]
    by_cases h : keyW m.word ∈ st.2
    · rw [ddF_in h, if_pos h]
    · rw [ddF_new h, if_neg h]
      simp
section
variable {R0 : Type} (K : List (List Int) → List Int → List (List Int) → R0)
end
/-! ### The words that are found -/
theorem dd_eq (rs : List GRewrite) (w : List Int) : (dd rs w).1 = ddN (movesL rs w) [] := by unfold dd; rw [dd_new]; rfl
section
variable {R0 : Type} (K : List (List Int) → List Int → List (List Int) → R0)
end
/-! ### The program's search -/
section
variable {R0 : Type} (K : List Gfound → List (ByteArray × Int) → R0)
def NumK (fs : List Gfound) (nums : List (ByteArray × Int)) : Prop := ∀ x, mget nums x = (fs.findIdx? fun f => decide (kF f = x)).map fun (i : Nat) => (i : Int)
theorem NumK.some {fs : List Gfound} {nums : List (ByteArray × Int)} (h : NumK fs nums) (x : ByteArray) : (mget nums x).isSome = true ↔ x ∈ fs.map kF := by
  rw [h x, Option.isSome_map, List.findIdx?_isSome, List.any_eq_true, List.mem_map]
  constructor
  · rintro ⟨f, hf, he⟩
    exact ⟨f, hf, of_decide_eq_true he⟩
  · rintro ⟨f, hf, he⟩
    exact ⟨f, hf, decide_eq_true he⟩
theorem NumK.add {fs : List Gfound} {nums : List (ByteArray × Int)} (h : NumK fs nums) {f : Gfound} (hx : ¬ kF f ∈ fs.map kF) : NumK (fs ++ [f]) (mput nums (kF f) (fs.length : Int)) := by
  intro y
  rw [mget_mput, List.findIdx?_append]
  by_cases e : kF f = y
  · rw [if_pos e]
    have : fs.findIdx? (fun g => decide (kF g = y)) = none := by
      rw [List.findIdx?_eq_none_iff]
      intro g hg
      refine decide_eq_false fun e2 => hx ?_
      rw [e, ← e2]
      exact List.mem_map_of_mem hg
    rw [this]
    simp [e]
  · rw [if_neg e, h y]
    cases hq : fs.findIdx? (fun g => decide (kF g = y)) <;> simp [e]
end
end Go.Fn
