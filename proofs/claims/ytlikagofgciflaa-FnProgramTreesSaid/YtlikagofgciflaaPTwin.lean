/-
  Loops with a bound on their rounds; the bytes of a text. No program in sight. No condition.
-/
import Derived.Test.YtlikagofgciflaaPCnt
namespace Go.Fn
open Go Go.Tc
theorem bl_loop (s : ByteArray) : ∀ (k i : Nat) (r : List UInt8), i + k = s.size → ByteArray.toList.loop s i r = r.reverse ++ s.data.toList.drop i := by
 intro k
 induction k with
 | zero =>
  intro i r h
  rw [ByteArray.toList.loop, if_neg (by omega), List.drop_of_length_le, List.append_nil]
  have : s.data.size = s.size := rfl
  simp only [Array.length_toList]
  omega
 | succ k ih =>
  intro i r h
  have hs : s.data.size = s.size := rfl
  rw [ByteArray.toList.loop, if_pos (by omega), ih (i + 1) _ (by omega)]
  have e : s.get! i = s.data[i]'(by omega) := by
   show s.data[i]! = _
   rw [getElem!_pos s.data i (by omega)]
  rw [e, List.reverse_cons, List.append_assoc, List.drop_eq_getElem_cons (l := s.data.toList) (i := i) (by simp only [Array.length_toList]; omega)]
  rfl
theorem bl_data (s : ByteArray) : s.toList = s.data.toList := by
 have := bl_loop s s.size 0 [] (by omega)
 simpa [ByteArray.toList] using this
def runK {S X : Type} (k : Nat) (body : S → Option (S ⊕ X)) (s : S) : Option X := iterN body k s
theorem OLe.runK {S X : Type} {k : Nat} {b b' : S → Option (S ⊕ X)} {s : S} (h : ∀ s, OLe (b s) (b' s)) : OLe (Go.Fn.runK k b s) (Tc.run b' s) := fun x hx => run_iff.2 ⟨k, iterN_le h k s x hx⟩
end Go.Fn
