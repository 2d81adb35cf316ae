/-
  Facts on the types of the program. No condition.
-/
import Derived.Test.YtneglngdbcefgaaProg
import Derived.Test.YtneglngdbcefgaaTy
import Derived.KernelRfl
namespace Go.Proofs.Ytneglngdbcefgaa
open Go Go.Tc Go.Fn
theorem bi_165 : binf Try.prog 165 = some 24 := by kernel_rfl
theorem bi_2 : binf Try.prog 2 = some 8 := by kernel_rfl
theorem bi_23 : binf Try.prog 23 = some 24 := by kernel_rfl
theorem bi_5 : binf Try.prog 5 = some 1 := by kernel_rfl
theorem bi_80 : binf Try.prog 80 = some 48 := by kernel_rfl
theorem bi_9 : binf Try.prog 9 = some 16 := by kernel_rfl
theorem fi_126_0 : finf Try.prog 126 0 = some (0, 1) := by kernel_rfl
theorem fi_126_1 : finf Try.prog 126 1 = some (1, 1) := by kernel_rfl
theorem fi_165_0 : finf Try.prog 165 0 = some (0, 1) := by kernel_rfl
theorem fi_165_1 : finf Try.prog 165 1 = some (1, 1) := by kernel_rfl
theorem fi_165_2 : finf Try.prog 165 2 = some (2, 1) := by kernel_rfl
theorem fi_173_0 : finf Try.prog 173 0 = some (0, 1) := by kernel_rfl
theorem fi_173_1 : finf Try.prog 173 1 = some (1, 1) := by kernel_rfl
theorem fi_173_2 : finf Try.prog 173 2 = some (2, 1) := by kernel_rfl
theorem fi_52_0 : finf Try.prog 52 0 = some (0, 1) := by kernel_rfl
theorem fi_52_1 : finf Try.prog 52 1 = some (1, 1) := by kernel_rfl
theorem fi_52_2 : finf Try.prog 52 2 = some (2, 1) := by kernel_rfl
theorem fi_54_0 : finf Try.prog 54 0 = some (0, 1) := by kernel_rfl
theorem fi_54_1 : finf Try.prog 54 1 = some (1, 1) := by kernel_rfl
theorem fi_54_2 : finf Try.prog 54 2 = some (2, 1) := by kernel_rfl
theorem fi_60_0 : finf Try.prog 60 0 = some (0, 1) := by kernel_rfl
theorem fi_60_1 : finf Try.prog 60 1 = some (1, 1) := by kernel_rfl
theorem fi_60_2 : finf Try.prog 60 2 = some (2, 1) := by kernel_rfl
theorem fi_62_0 : finf Try.prog 62 0 = some (0, 1) := by kernel_rfl
theorem fi_62_1 : finf Try.prog 62 1 = some (1, 1) := by kernel_rfl
theorem fi_62_2 : finf Try.prog 62 2 = some (2, 1) := by kernel_rfl
theorem fi_80_0 : finf Try.prog 80 0 = some (0, 1) := by kernel_rfl
theorem fi_80_1 : finf Try.prog 80 1 = some (1, 1) := by kernel_rfl
theorem fi_95_0 : finf Try.prog 95 0 = some (0, 1) := by kernel_rfl
theorem fi_95_1 : finf Try.prog 95 1 = some (1, 1) := by kernel_rfl
theorem fi_95_2 : finf Try.prog 95 2 = some (2, 1) := by kernel_rfl
theorem ex_eql_seq_165 {n : Fr} {A : Nat → Prop} {w0 : World} {ρ : Env} {Γ : Ctx} {d : Option Nat} {ty : TypeId} {pos : String} {after : Array Edge} {g : Option (Nat × Bool)} {x y : Operand} {u : TypeId} {a0 a1 a2 b0 b1 b2 : Int} (hx : ev ρ x = some (.agg #[.int .i64 a0, .int .i64 a1, .int .i64 a2])) (hy : ev ρ y = some (.agg #[.int .i64 b0, .int .i64 b1, .int .i64 b2])) :
    Ex Try.prog n A w0 ρ Γ ⟨d, .binOp .eql 165 x y u, ty, pos, after, g⟩ (.bool (decide ((⟨a0, a1, a2⟩ : GRule) = ⟨b0, b1, b2⟩))) := by
  intro a w hs hh
  simp only [execOp, hs.eval hx, hs.eval hy]
  simp [eqGuard, go_sem, Program.fieldsOf]
  by_cases e0 : a0 = b0 <;> simp [e0]
  all_goals (repeat (split <;> simp_all))
theorem ex_neq_seq_165 {n : Fr} {A : Nat → Prop} {w0 : World} {ρ : Env} {Γ : Ctx} {d : Option Nat} {ty : TypeId} {pos : String} {after : Array Edge} {g : Option (Nat × Bool)} {x y : Operand} {u : TypeId} {a0 a1 a2 b0 b1 b2 : Int} (hx : ev ρ x = some (.agg #[.int .i64 a0, .int .i64 a1, .int .i64 a2])) (hy : ev ρ y = some (.agg #[.int .i64 b0, .int .i64 b1, .int .i64 b2])) :
    Ex Try.prog n A w0 ρ Γ ⟨d, .binOp .neq 165 x y u, ty, pos, after, g⟩ (.bool (!(decide ((⟨a0, a1, a2⟩ : GRule) = ⟨b0, b1, b2⟩)))) := by
  intro a w hs hh
  simp only [execOp, hs.eval hx, hs.eval hy]
  simp [eqGuard, go_sem, Program.fieldsOf]
  by_cases e0 : a0 = b0 <;> simp [e0]
  all_goals (repeat (split <;> simp_all))
theorem si_126 : SInf Try.prog 126 [.int .i64 0, .int .i64 0] := ⟨⟨_, _, Try.underlying126, (show zinf Try.prog 126 = some (.agg #[.int .i64 0, .int .i64 0]) by kernel_rfl), rfl, by kernel_rfl⟩⟩
theorem si_165 : SInf Try.prog 165 [.int .i64 0, .int .i64 0, .int .i64 0] := ⟨⟨_, _, Try.underlying165, (show zinf Try.prog 165 = some (.agg #[.int .i64 0, .int .i64 0, .int .i64 0]) by kernel_rfl), rfl, by kernel_rfl⟩⟩
theorem si_62 : SInf Try.prog 62 [.int .i64 0, .slice none 0 0, .slice none 0 0] := ⟨⟨_, _, Try.underlying62, (show zinf Try.prog 62 = some (.agg #[.int .i64 0, .slice none 0 0, .slice none 0 0]) by kernel_rfl), rfl, by kernel_rfl⟩⟩
theorem si_80 : SInf Try.prog 80 [.slice none 0 0, .slice none 0 0] := ⟨⟨_, _, Try.underlying80, (show zinf Try.prog 80 = some (.agg #[.slice none 0 0, .slice none 0 0]) by kernel_rfl), rfl, by kernel_rfl⟩⟩
theorem si_95 : SInf Try.prog 95 [.int .i64 0, .int .i64 0, .slice none 0 0] := ⟨⟨_, _, Try.underlying95, (show zinf Try.prog 95 = some (.agg #[.int .i64 0, .int .i64 0, .slice none 0 0]) by kernel_rfl), rfl, by kernel_rfl⟩⟩
theorem ti_126 : tinf Try.prog 126 = some (2, true) := by kernel_rfl
theorem ti_165 : tinf Try.prog 165 = some (3, true) := by kernel_rfl
theorem ti_173 : tinf Try.prog 173 = some (3, true) := by kernel_rfl
theorem ti_2 : tinf Try.prog 2 = some (1, false) := by kernel_rfl
theorem ti_23 : tinf Try.prog 23 = some (1, false) := by kernel_rfl
theorem ti_25 : tinf Try.prog 25 = some (1, false) := by kernel_rfl
theorem ti_28 : tinf Try.prog 28 = some (1, false) := by kernel_rfl
theorem ti_5 : tinf Try.prog 5 = some (1, false) := by kernel_rfl
theorem ti_50 : tinf Try.prog 50 = some (1, false) := by kernel_rfl
theorem ti_52 : tinf Try.prog 52 = some (3, true) := by kernel_rfl
theorem ti_54 : tinf Try.prog 54 = some (3, true) := by kernel_rfl
theorem ti_58 : tinf Try.prog 58 = some (1, false) := by kernel_rfl
theorem ti_60 : tinf Try.prog 60 = some (3, true) := by kernel_rfl
theorem ti_62 : tinf Try.prog 62 = some (3, true) := by kernel_rfl
theorem ti_80 : tinf Try.prog 80 = some (2, true) := by kernel_rfl
theorem ti_9 : tinf Try.prog 9 = some (1, false) := by kernel_rfl
theorem ti_95 : tinf Try.prog 95 = some (3, true) := by kernel_rfl
theorem zi_126 : zinf Try.prog 126 = some (.agg #[.int .i64 0, .int .i64 0]) := by kernel_rfl
theorem zi_165 : zinf Try.prog 165 = some (.agg #[.int .i64 0, .int .i64 0, .int .i64 0]) := by kernel_rfl
theorem zi_2 : zinf Try.prog 2 = some (.int .i64 0) := by kernel_rfl
theorem zi_23 : zinf Try.prog 23 = some (.slice none 0 0) := by kernel_rfl
theorem zi_25 : zinf Try.prog 25 = some (.slice none 0 0) := by kernel_rfl
theorem zi_28 : zinf Try.prog 28 = some (.slice none 0 0) := by kernel_rfl
theorem zi_5 : zinf Try.prog 5 = some (.int .u8 0) := by kernel_rfl
theorem zi_60 : zinf Try.prog 60 = some (.agg #[.int .i64 0, .int .i64 0, .slice none 0 0]) := by kernel_rfl
theorem zi_62 : zinf Try.prog 62 = some (.agg #[.int .i64 0, .slice none 0 0, .slice none 0 0]) := by kernel_rfl
theorem zi_80 : zinf Try.prog 80 = some (.agg #[.slice none 0 0, .slice none 0 0]) := by kernel_rfl
theorem zi_9 : zinf Try.prog 9 = some (.string ⟨#[]⟩) := by kernel_rfl
theorem zi_95 : zinf Try.prog 95 = some (.agg #[.int .i64 0, .int .i64 0, .slice none 0 0]) := by kernel_rfl

end Go.Proofs.Ytneglngdbcefgaa
