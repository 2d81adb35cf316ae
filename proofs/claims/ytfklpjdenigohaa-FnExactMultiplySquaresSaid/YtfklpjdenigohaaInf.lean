/-
  Facts on the types of the program. No condition.
-/
import Derived.Test.YtfklpjdenigohaaProg
import Derived.Test.YtfklpjdenigohaaTy
import Derived.KernelRfl
namespace Go.Proofs.Ytfklpjdenigohaa
open Go Go.Tc Go.Fn
theorem bi_107 : binf Try.prog 107 = some 48 := by kernel_rfl
theorem bi_113 : binf Try.prog 113 = some 48 := by kernel_rfl
theorem bi_161 : binf Try.prog 161 = some 24 := by kernel_rfl
theorem bi_196 : binf Try.prog 196 = some 32 := by kernel_rfl
theorem bi_2 : binf Try.prog 2 = some 8 := by kernel_rfl
theorem bi_31 : binf Try.prog 31 = some 24 := by kernel_rfl
theorem bi_34 : binf Try.prog 34 = some 56 := by kernel_rfl
theorem fi_105_0 : finf Try.prog 105 0 = some (0, 1) := by kernel_rfl
theorem fi_105_1 : finf Try.prog 105 1 = some (1, 1) := by kernel_rfl
theorem fi_107_0 : finf Try.prog 107 0 = some (0, 1) := by kernel_rfl
theorem fi_107_1 : finf Try.prog 107 1 = some (1, 1) := by kernel_rfl
theorem fi_113_0 : finf Try.prog 113 0 = some (0, 1) := by kernel_rfl
theorem fi_113_1 : finf Try.prog 113 1 = some (1, 1) := by kernel_rfl
theorem fi_131_0 : finf Try.prog 131 0 = some (0, 1) := by kernel_rfl
theorem fi_131_1 : finf Try.prog 131 1 = some (1, 1) := by kernel_rfl
theorem fi_161_0 : finf Try.prog 161 0 = some (0, 1) := by kernel_rfl
theorem fi_161_1 : finf Try.prog 161 1 = some (1, 1) := by kernel_rfl
theorem fi_161_2 : finf Try.prog 161 2 = some (2, 1) := by kernel_rfl
theorem fi_163_0 : finf Try.prog 163 0 = some (0, 1) := by kernel_rfl
theorem fi_163_1 : finf Try.prog 163 1 = some (1, 1) := by kernel_rfl
theorem fi_163_2 : finf Try.prog 163 2 = some (2, 1) := by kernel_rfl
theorem fi_180_0 : finf Try.prog 180 0 = some (0, 1) := by kernel_rfl
theorem fi_180_1 : finf Try.prog 180 1 = some (1, 1) := by kernel_rfl
theorem fi_196_0 : finf Try.prog 196 0 = some (0, 1) := by kernel_rfl
theorem fi_196_1 : finf Try.prog 196 1 = some (1, 1) := by kernel_rfl
theorem fi_196_2 : finf Try.prog 196 2 = some (2, 1) := by kernel_rfl
theorem fi_196_3 : finf Try.prog 196 3 = some (3, 1) := by kernel_rfl
theorem fi_30_0 : finf Try.prog 30 0 = some (0, 1) := by kernel_rfl
theorem fi_30_1 : finf Try.prog 30 1 = some (1, 1) := by kernel_rfl
theorem fi_30_2 : finf Try.prog 30 2 = some (2, 1) := by kernel_rfl
theorem fi_34_0 : finf Try.prog 34 0 = some (0, 1) := by kernel_rfl
theorem fi_34_1 : finf Try.prog 34 1 = some (1, 1) := by kernel_rfl
theorem fi_34_2 : finf Try.prog 34 2 = some (2, 1) := by kernel_rfl
theorem fi_39_0 : finf Try.prog 39 0 = some (0, 1) := by kernel_rfl
theorem fi_39_1 : finf Try.prog 39 1 = some (1, 1) := by kernel_rfl
theorem fi_39_2 : finf Try.prog 39 2 = some (2, 1) := by kernel_rfl
theorem fi_61_0 : finf Try.prog 61 0 = some (0, 1) := by kernel_rfl
theorem fi_61_1 : finf Try.prog 61 1 = some (1, 1) := by kernel_rfl
theorem fi_61_2 : finf Try.prog 61 2 = some (2, 1) := by kernel_rfl
theorem ex_eql_seq_161 {n : Nat} {A : Nat → Prop} {w0 : World} {ρ : Env} {Γ : Ctx} {d : Option Nat} {ty : TypeId} {pos : String} {after : Array Edge} {g : Option (Nat × Bool)} {x y : Operand} {u : TypeId} {a0 a1 a2 b0 b1 b2 : Int} (hx : ev ρ x = some (.agg #[.int .i64 a0, .int .i64 a1, .int .i64 a2])) (hy : ev ρ y = some (.agg #[.int .i64 b0, .int .i64 b1, .int .i64 b2])) :
    Ex Try.prog n A w0 ρ Γ ⟨d, .binOp .eql 161 x y u, ty, pos, after, g⟩ (.bool (decide ((⟨a0, a1, a2⟩ : GRule) = ⟨b0, b1, b2⟩))) := by
  intro a w hs hh
  simp only [execOp, hs.eval hx, hs.eval hy]
  simp [eqGuard, go_sem, Program.fieldsOf]
  by_cases e0 : a0 = b0 <;> simp [e0]
  all_goals (repeat (split <;> simp_all))
theorem ex_neq_seq_161 {n : Nat} {A : Nat → Prop} {w0 : World} {ρ : Env} {Γ : Ctx} {d : Option Nat} {ty : TypeId} {pos : String} {after : Array Edge} {g : Option (Nat × Bool)} {x y : Operand} {u : TypeId} {a0 a1 a2 b0 b1 b2 : Int} (hx : ev ρ x = some (.agg #[.int .i64 a0, .int .i64 a1, .int .i64 a2])) (hy : ev ρ y = some (.agg #[.int .i64 b0, .int .i64 b1, .int .i64 b2])) :
    Ex Try.prog n A w0 ρ Γ ⟨d, .binOp .neq 161 x y u, ty, pos, after, g⟩ (.bool (!(decide ((⟨a0, a1, a2⟩ : GRule) = ⟨b0, b1, b2⟩)))) := by
  intro a w hs hh
  simp only [execOp, hs.eval hx, hs.eval hy]
  simp [eqGuard, go_sem, Program.fieldsOf]
  by_cases e0 : a0 = b0 <;> simp [e0]
  all_goals (repeat (split <;> simp_all))
theorem si_107 : SInf Try.prog 107 [.slice none 0 0, .slice none 0 0] := ⟨⟨_, _, Try.underlying107, (show zinf Try.prog 107 = some (.agg #[.slice none 0 0, .slice none 0 0]) by kernel_rfl), rfl, by kernel_rfl⟩⟩
theorem si_113 : SInf Try.prog 113 [.slice none 0 0, .slice none 0 0] := ⟨⟨_, _, Try.underlying113, (show zinf Try.prog 113 = some (.agg #[.slice none 0 0, .slice none 0 0]) by kernel_rfl), rfl, by kernel_rfl⟩⟩
theorem si_161 : SInf Try.prog 161 [.int .i64 0, .int .i64 0, .int .i64 0] := ⟨⟨_, _, Try.underlying161, (show zinf Try.prog 161 = some (.agg #[.int .i64 0, .int .i64 0, .int .i64 0]) by kernel_rfl), rfl, by kernel_rfl⟩⟩
theorem si_180 : SInf Try.prog 180 [.int .i64 0, .int .i64 0] := ⟨⟨_, _, Try.underlying180, (show zinf Try.prog 180 = some (.agg #[.int .i64 0, .int .i64 0]) by kernel_rfl), rfl, by kernel_rfl⟩⟩
theorem si_196 : SInf Try.prog 196 [.int .i64 0, .int .i64 0, .int .i64 0, .int .i64 0] := ⟨⟨_, _, Try.underlying196, (show zinf Try.prog 196 = some (.agg #[.int .i64 0, .int .i64 0, .int .i64 0, .int .i64 0]) by kernel_rfl), rfl, by kernel_rfl⟩⟩
theorem si_34 : SInf Try.prog 34 [.int .i64 0, .slice none 0 0, .slice none 0 0] := ⟨⟨_, _, Try.underlying34, (show zinf Try.prog 34 = some (.agg #[.int .i64 0, .slice none 0 0, .slice none 0 0]) by kernel_rfl), rfl, by kernel_rfl⟩⟩
theorem ti_105 : tinf Try.prog 105 = some (2, true) := by kernel_rfl
theorem ti_107 : tinf Try.prog 107 = some (2, true) := by kernel_rfl
theorem ti_113 : tinf Try.prog 113 = some (2, true) := by kernel_rfl
theorem ti_131 : tinf Try.prog 131 = some (2, true) := by kernel_rfl
theorem ti_161 : tinf Try.prog 161 = some (3, true) := by kernel_rfl
theorem ti_163 : tinf Try.prog 163 = some (3, true) := by kernel_rfl
theorem ti_180 : tinf Try.prog 180 = some (2, true) := by kernel_rfl
theorem ti_196 : tinf Try.prog 196 = some (4, true) := by kernel_rfl
theorem ti_2 : tinf Try.prog 2 = some (1, false) := by kernel_rfl
theorem ti_28 : tinf Try.prog 28 = some (1, false) := by kernel_rfl
theorem ti_30 : tinf Try.prog 30 = some (3, true) := by kernel_rfl
theorem ti_31 : tinf Try.prog 31 = some (1, false) := by kernel_rfl
theorem ti_34 : tinf Try.prog 34 = some (3, true) := by kernel_rfl
theorem ti_37 : tinf Try.prog 37 = some (1, false) := by kernel_rfl
theorem ti_39 : tinf Try.prog 39 = some (3, true) := by kernel_rfl
theorem ti_54 : tinf Try.prog 54 = some (1, false) := by kernel_rfl
theorem ti_61 : tinf Try.prog 61 = some (3, true) := by kernel_rfl
theorem zi_107 : zinf Try.prog 107 = some (.agg #[.slice none 0 0, .slice none 0 0]) := by kernel_rfl
theorem zi_113 : zinf Try.prog 113 = some (.agg #[.slice none 0 0, .slice none 0 0]) := by kernel_rfl
theorem zi_161 : zinf Try.prog 161 = some (.agg #[.int .i64 0, .int .i64 0, .int .i64 0]) := by kernel_rfl
theorem zi_180 : zinf Try.prog 180 = some (.agg #[.int .i64 0, .int .i64 0]) := by kernel_rfl
theorem zi_196 : zinf Try.prog 196 = some (.agg #[.int .i64 0, .int .i64 0, .int .i64 0, .int .i64 0]) := by kernel_rfl
theorem zi_2 : zinf Try.prog 2 = some (.int .i64 0) := by kernel_rfl
theorem zi_31 : zinf Try.prog 31 = some (.slice none 0 0) := by kernel_rfl
theorem zi_34 : zinf Try.prog 34 = some (.agg #[.int .i64 0, .slice none 0 0, .slice none 0 0]) := by kernel_rfl
theorem zi_39 : zinf Try.prog 39 = some (.agg #[.int .i64 0, .int .i64 0, .slice none 0 0]) := by kernel_rfl
theorem zi_54 : zinf Try.prog 54 = some (.slice none 0 0) := by kernel_rfl

end Go.Proofs.Ytfklpjdenigohaa
