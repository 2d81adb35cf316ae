/-
  Runs that are measured and followed: the heads' positions and the records. No program in sight. No condition.
-/
import Derived.Test.YtfinlgodcokmpaaDoorPRnr
namespace Go.Fn
open Go Go.Tc
section
variable {m : GMachine} {s q : Nat}
def trk (m : GMachine) : Nat → GConfig → Int → List Int
  | 0, _, h => [h]
  | n + 1, c, h => if ruleAt m c = noR then [h] else h :: trk m n (stepC (ruleAt m c) c) (h + (ruleAt m c).Move)
def mnL (a y : Int) : Int := if y < a then y else a
def mxG (a y : Int) : Int := if y > a then y else a
theorem trk_zero (c : GConfig) (h : Int) : trk m 0 c h = [h] := rfl
theorem trk_stop {n : Nat} {c : GConfig} {h : Int} (e : ruleAt m c = noR) : trk m n c h = [h] := by
  cases n with
  | zero => rfl
  | succ n => unfold trk; rw [if_pos e]
theorem trk_go {n : Nat} {c : GConfig} {h : Int} (e : ruleAt m c ≠ noR) : trk m (n + 1) c h = h :: trk m n (stepC (ruleAt m c) c) (h + (ruleAt m c).Move) := by
  conv => lhs; unfold trk
  rw [if_neg e]
theorem trk_len : ∀ (n : Nat) (c : GConfig) (h : Int), 1 ≤ (trk m n c h).length ∧ (trk m n c h).length ≤ n + 1
  | 0, c, h => by simp [trk]
  | n + 1, c, h => by
    by_cases e : ruleAt m c = noR
    · rw [trk_stop e]; simp
    · rw [trk_go e, List.length_cons]
      have := trk_len n (stepC (ruleAt m c) c) (h + (ruleAt m c).Move)
      omega
/-- What is wanted of a configuration with so many steps ahead. -/
structure Rm (s q n : Nat) (c : GConfig) (h : Int) (j : Nat) : Prop where
  cf : CfT s q c
  ll : c.Left.length + n ≤ 150
  lr : c.Right.length + 2 * n ≤ 150
  nj : n + j ≤ 1000
  h0 : -500 + (n : Int) ≤ h
  h1 : h ≤ 500 - (n : Int)
theorem Rm.small {n : Nat} {c : GConfig} {h : Int} {j : Nat} (X : Rm s q (n + 1) c h j) (r : GRule) : small (stepC r c) = true := by
  have h1 := stepC_len r c
  have h2 := X.ll
  have h3 := X.lr
  unfold Fn.small
  rw [decide_eq_true (by omega), decide_eq_true (by omega)]
  rfl
theorem Rm.move (M : MaI m s q) {n : Nat} {c : GConfig} {h : Int} {j : Nat} (X : Rm s q n c h j) (hn : ruleAt m c ≠ noR) : (ruleAt m c).Move = 1 ∨ (ruleAt m c).Move = -1 := (rule_in M (ruleAt_idx M X.cf.cf).2 hn).2.1
theorem Rm.next (M : MaI m s q) {n : Nat} {c : GConfig} {h : Int} {j : Nat} (X : Rm s q (n + 1) c h j) (hn : ruleAt m c ≠ noR) : Rm s q n (stepC (ruleAt m c) c) (h + (ruleAt m c).Move) (j + 1) := by
  have h1 := stepC_len (ruleAt m c) c
  have h2 := X.ll
  have h3 := X.lr
  have h4 := X.nj
  have h5 := X.h0
  have h6 := X.h1
  have h7 := X.move M hn
  exact ⟨X.cf.step M hn (X.small _), by omega, by omega, by omega, by omega, by omega⟩
/-! ### Measured -/
theorem size_some (xs : List Int) : F_impl_size_int64 xs = some (xs.length : Int) := rfl
theorem getD_snoc (ps : List Int) (h : Int) (k : Nat) : (ps ++ [h]).getD k 0 = if k < ps.length then ps.getD k 0 else if k = ps.length then h else 0 := by
  rw [List.getD_eq_getElem?_getD, List.getElem?_append]
  by_cases h1 : k < ps.length
  · rw [if_pos h1, if_pos h1, List.getD_eq_getElem?_getD]
  · rw [if_neg h1, if_neg h1]
    by_cases h2 : k = ps.length
    · rw [if_pos h2, h2, Nat.sub_self]; rfl
    · rw [if_neg h2]
      have : k - ps.length = (k - ps.length - 1) + 1 := by omega
      rw [this]
      rfl
end
end Go.Fn
