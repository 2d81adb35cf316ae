/-
  Facts on the types of the program. No condition.
-/
import Derived.Test.YtlbbchonoomafaaProg
import Derived.Test.YtlbbchonoomafaaTy
import Derived.KernelRfl
namespace Go.Proofs.Ytlbbchonoomafaa
open Go Go.Tc Go.Fn
theorem bi_2 : binf Try.prog 2 = some 8 := by kernel_rfl
theorem bi_24 : binf Try.prog 24 = some 24 := by kernel_rfl
theorem bi_66 : binf Try.prog 66 = some 56 := by kernel_rfl
theorem bi_95 : binf Try.prog 95 = some 24 := by kernel_rfl
theorem bi_97 : binf Try.prog 97 = some 32 := by kernel_rfl
theorem fi_101_0 : finf Try.prog 101 0 = some (0, 1) := by kernel_rfl
theorem fi_101_1 : finf Try.prog 101 1 = some (1, 1) := by kernel_rfl
theorem fi_101_2 : finf Try.prog 101 2 = some (2, 1) := by kernel_rfl
theorem fi_34_0 : finf Try.prog 34 0 = some (0, 1) := by kernel_rfl
theorem fi_34_1 : finf Try.prog 34 1 = some (1, 1) := by kernel_rfl
theorem fi_34_2 : finf Try.prog 34 2 = some (2, 1) := by kernel_rfl
theorem fi_41_0 : finf Try.prog 41 0 = some (0, 1) := by kernel_rfl
theorem fi_41_1 : finf Try.prog 41 1 = some (1, 1) := by kernel_rfl
theorem fi_41_2 : finf Try.prog 41 2 = some (2, 1) := by kernel_rfl
theorem fi_54_0 : finf Try.prog 54 0 = some (0, 1) := by kernel_rfl
theorem fi_54_1 : finf Try.prog 54 1 = some (1, 1) := by kernel_rfl
theorem fi_66_0 : finf Try.prog 66 0 = some (0, 1) := by kernel_rfl
theorem fi_66_1 : finf Try.prog 66 1 = some (1, 1) := by kernel_rfl
theorem fi_66_2 : finf Try.prog 66 2 = some (2, 1) := by kernel_rfl
theorem fi_95_0 : finf Try.prog 95 0 = some (0, 1) := by kernel_rfl
theorem fi_95_1 : finf Try.prog 95 1 = some (1, 1) := by kernel_rfl
theorem fi_95_2 : finf Try.prog 95 2 = some (2, 1) := by kernel_rfl
theorem fi_97_0 : finf Try.prog 97 0 = some (0, 1) := by kernel_rfl
theorem fi_97_1 : finf Try.prog 97 1 = some (1, 1) := by kernel_rfl
theorem fi_97_2 : finf Try.prog 97 2 = some (2, 1) := by kernel_rfl
theorem fi_97_3 : finf Try.prog 97 3 = some (3, 1) := by kernel_rfl
theorem ex_eql_seq_95 {n : Nat} {A : Nat → Prop} {w0 : World} {ρ : Env} {Γ : Ctx} {d : Option Nat} {ty : TypeId} {pos : String} {after : Array Edge} {g : Option (Nat × Bool)} {x y : Operand} {u : TypeId} {a0 a1 a2 b0 b1 b2 : Int} (hx : ev ρ x = some (.agg #[.int .i64 a0, .int .i64 a1, .int .i64 a2])) (hy : ev ρ y = some (.agg #[.int .i64 b0, .int .i64 b1, .int .i64 b2])) :
    Ex Try.prog n A w0 ρ Γ ⟨d, .binOp .eql 95 x y u, ty, pos, after, g⟩ (.bool (decide ((⟨a0, a1, a2⟩ : GRule) = ⟨b0, b1, b2⟩))) := by
  intro a w hs hh
  simp only [execOp, hs.eval hx, hs.eval hy]
  simp [eqGuard, go_sem, Program.fieldsOf]
  by_cases e0 : a0 = b0 <;> simp [e0]
  all_goals (repeat (split <;> simp_all))
theorem ex_neq_seq_95 {n : Nat} {A : Nat → Prop} {w0 : World} {ρ : Env} {Γ : Ctx} {d : Option Nat} {ty : TypeId} {pos : String} {after : Array Edge} {g : Option (Nat × Bool)} {x y : Operand} {u : TypeId} {a0 a1 a2 b0 b1 b2 : Int} (hx : ev ρ x = some (.agg #[.int .i64 a0, .int .i64 a1, .int .i64 a2])) (hy : ev ρ y = some (.agg #[.int .i64 b0, .int .i64 b1, .int .i64 b2])) :
    Ex Try.prog n A w0 ρ Γ ⟨d, .binOp .neq 95 x y u, ty, pos, after, g⟩ (.bool (!(decide ((⟨a0, a1, a2⟩ : GRule) = ⟨b0, b1, b2⟩)))) := by
  intro a w hs hh
  simp only [execOp, hs.eval hx, hs.eval hy]
  simp [eqGuard, go_sem, Program.fieldsOf]
  by_cases e0 : a0 = b0 <;> simp [e0]
  all_goals (repeat (split <;> simp_all))
theorem si_54 : SInf Try.prog 54 [.slice none 0 0, .slice none 0 0] := ⟨⟨_, _, Try.underlying54, (show zinf Try.prog 54 = some (.agg #[.slice none 0 0, .slice none 0 0]) by kernel_rfl), rfl, by kernel_rfl⟩⟩
theorem si_66 : SInf Try.prog 66 [.int .i64 0, .slice none 0 0, .slice none 0 0] := ⟨⟨_, _, Try.underlying66, (show zinf Try.prog 66 = some (.agg #[.int .i64 0, .slice none 0 0, .slice none 0 0]) by kernel_rfl), rfl, by kernel_rfl⟩⟩
theorem si_95 : SInf Try.prog 95 [.int .i64 0, .int .i64 0, .int .i64 0] := ⟨⟨_, _, Try.underlying95, (show zinf Try.prog 95 = some (.agg #[.int .i64 0, .int .i64 0, .int .i64 0]) by kernel_rfl), rfl, by kernel_rfl⟩⟩
theorem si_97 : SInf Try.prog 97 [.int .i64 0, .int .i64 0, .int .i64 0, .int .i64 0] := ⟨⟨_, _, Try.underlying97, (show zinf Try.prog 97 = some (.agg #[.int .i64 0, .int .i64 0, .int .i64 0, .int .i64 0]) by kernel_rfl), rfl, by kernel_rfl⟩⟩
theorem ti_101 : tinf Try.prog 101 = some (3, true) := by kernel_rfl
theorem ti_2 : tinf Try.prog 2 = some (1, false) := by kernel_rfl
theorem ti_24 : tinf Try.prog 24 = some (1, false) := by kernel_rfl
theorem ti_32 : tinf Try.prog 32 = some (1, false) := by kernel_rfl
theorem ti_34 : tinf Try.prog 34 = some (3, true) := by kernel_rfl
theorem ti_39 : tinf Try.prog 39 = some (1, false) := by kernel_rfl
theorem ti_41 : tinf Try.prog 41 = some (3, true) := by kernel_rfl
theorem ti_54 : tinf Try.prog 54 = some (2, true) := by kernel_rfl
theorem ti_66 : tinf Try.prog 66 = some (3, true) := by kernel_rfl
theorem ti_95 : tinf Try.prog 95 = some (3, true) := by kernel_rfl
theorem ti_97 : tinf Try.prog 97 = some (4, true) := by kernel_rfl
theorem zi_2 : zinf Try.prog 2 = some (.int .i64 0) := by kernel_rfl
theorem zi_24 : zinf Try.prog 24 = some (.slice none 0 0) := by kernel_rfl
theorem zi_41 : zinf Try.prog 41 = some (.agg #[.int .i64 0, .int .i64 0, .slice none 0 0]) := by kernel_rfl
theorem zi_54 : zinf Try.prog 54 = some (.agg #[.slice none 0 0, .slice none 0 0]) := by kernel_rfl
theorem zi_66 : zinf Try.prog 66 = some (.agg #[.int .i64 0, .slice none 0 0, .slice none 0 0]) := by kernel_rfl
theorem zi_95 : zinf Try.prog 95 = some (.agg #[.int .i64 0, .int .i64 0, .int .i64 0]) := by kernel_rfl
theorem zi_97 : zinf Try.prog 97 = some (.agg #[.int .i64 0, .int .i64 0, .int .i64 0, .int .i64 0]) := by kernel_rfl

end Go.Proofs.Ytlbbchonoomafaa
