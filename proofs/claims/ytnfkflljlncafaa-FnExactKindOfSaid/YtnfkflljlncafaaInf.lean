/-
  Facts on the types of the program. No condition.
-/
import Derived.Test.YtnfkflljlncafaaProg
import Derived.Test.YtnfkflljlncafaaTy
import Derived.KernelRfl
namespace Go.Proofs.Ytnfkflljlncafaa
open Go Go.Tc Go.Fn
theorem bi_38 : binf Try.prog 38 = some 32 := by kernel_rfl
theorem fi_38_0 : finf Try.prog 38 0 = some (0, 1) := by kernel_rfl
theorem fi_38_1 : finf Try.prog 38 1 = some (1, 1) := by kernel_rfl
theorem fi_38_2 : finf Try.prog 38 2 = some (2, 1) := by kernel_rfl
theorem fi_38_3 : finf Try.prog 38 3 = some (3, 1) := by kernel_rfl
theorem fi_40_0 : finf Try.prog 40 0 = some (0, 1) := by kernel_rfl
theorem fi_40_1 : finf Try.prog 40 1 = some (1, 1) := by kernel_rfl
theorem fi_40_2 : finf Try.prog 40 2 = some (2, 1) := by kernel_rfl
theorem fi_40_3 : finf Try.prog 40 3 = some (3, 1) := by kernel_rfl
theorem ex_eql_seq_38 {n : Nat} {A : Nat → Prop} {w0 : World} {ρ : Env} {Γ : Ctx} {d : Option Nat} {ty : TypeId} {pos : String} {after : Array Edge} {g : Option (Nat × Bool)} {x y : Operand} {u : TypeId} {a0 a1 a2 a3 b0 b1 b2 b3 : Int} (hx : ev ρ x = some (.agg #[.int .i64 a0, .int .i64 a1, .int .i64 a2, .int .i64 a3])) (hy : ev ρ y = some (.agg #[.int .i64 b0, .int .i64 b1, .int .i64 b2, .int .i64 b3])) :
    Ex Try.prog n A w0 ρ Γ ⟨d, .binOp .eql 38 x y u, ty, pos, after, g⟩ (.bool (decide ((⟨a0, a1, a2, a3⟩ : GTile) = ⟨b0, b1, b2, b3⟩))) := by
  intro a w hs hh
  simp only [execOp, hs.eval hx, hs.eval hy]
  simp [eqGuard, go_sem, Program.fieldsOf]
  by_cases e0 : a0 = b0 <;> simp [e0]
  all_goals (repeat (split <;> simp_all))
theorem ex_neq_seq_38 {n : Nat} {A : Nat → Prop} {w0 : World} {ρ : Env} {Γ : Ctx} {d : Option Nat} {ty : TypeId} {pos : String} {after : Array Edge} {g : Option (Nat × Bool)} {x y : Operand} {u : TypeId} {a0 a1 a2 a3 b0 b1 b2 b3 : Int} (hx : ev ρ x = some (.agg #[.int .i64 a0, .int .i64 a1, .int .i64 a2, .int .i64 a3])) (hy : ev ρ y = some (.agg #[.int .i64 b0, .int .i64 b1, .int .i64 b2, .int .i64 b3])) :
    Ex Try.prog n A w0 ρ Γ ⟨d, .binOp .neq 38 x y u, ty, pos, after, g⟩ (.bool (!(decide ((⟨a0, a1, a2, a3⟩ : GTile) = ⟨b0, b1, b2, b3⟩)))) := by
  intro a w hs hh
  simp only [execOp, hs.eval hx, hs.eval hy]
  simp [eqGuard, go_sem, Program.fieldsOf]
  by_cases e0 : a0 = b0 <;> simp [e0]
  all_goals (repeat (split <;> simp_all))
theorem ti_2 : tinf Try.prog 2 = some (1, false) := by kernel_rfl
theorem ti_38 : tinf Try.prog 38 = some (4, true) := by kernel_rfl
theorem ti_40 : tinf Try.prog 40 = some (4, true) := by kernel_rfl
theorem ti_9 : tinf Try.prog 9 = some (1, false) := by kernel_rfl
theorem zi_2 : zinf Try.prog 2 = some (.int .i64 0) := by kernel_rfl
theorem zi_38 : zinf Try.prog 38 = some (.agg #[.int .i64 0, .int .i64 0, .int .i64 0, .int .i64 0]) := by kernel_rfl
theorem zi_9 : zinf Try.prog 9 = some (.string ⟨#[]⟩) := by kernel_rfl

end Go.Proofs.Ytnfkflljlncafaa
