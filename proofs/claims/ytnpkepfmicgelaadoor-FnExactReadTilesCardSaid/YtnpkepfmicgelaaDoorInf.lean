/-
  Facts on the types of the program. No condition.
-/
import Derived.Test.YtnpkepfmicgelaaDoorProg
import Derived.Test.YtnpkepfmicgelaaDoorShelf
import Derived.Test.YtnpkepfmicgelaaDoorTy
import Derived.KernelRfl
namespace Go.Proofs.YtnpkepfmicgelaaDoor
open Go Go.Tc Go.Fn
theorem bi_2 : binf Tryd.prog 2 = some 8 := by kernel_rfl
theorem bi_40 : binf Tryd.prog 40 = some 32 := by kernel_rfl
theorem bi_9 : binf Tryd.prog 9 = some 16 := by kernel_rfl
theorem fi_40_0 : finf Tryd.prog 40 0 = some (0, 1) := by kernel_rfl
theorem fi_40_1 : finf Tryd.prog 40 1 = some (1, 1) := by kernel_rfl
theorem fi_40_2 : finf Tryd.prog 40 2 = some (2, 1) := by kernel_rfl
theorem fi_40_3 : finf Tryd.prog 40 3 = some (3, 1) := by kernel_rfl
theorem ex_eql_seq_40 {n : Fr} {A : Nat → Prop} {w0 : World} {ρ : Env} {Γ : Ctx} {d : Option Nat} {ty : TypeId} {pos : String} {after : Array Edge} {g : Option (Nat × Bool)} {x y : Operand} {u : TypeId} {a0 a1 a2 a3 b0 b1 b2 b3 : Int} (hx : ev ρ x = some (.agg #[.int .i64 a0, .int .i64 a1, .int .i64 a2, .int .i64 a3])) (hy : ev ρ y = some (.agg #[.int .i64 b0, .int .i64 b1, .int .i64 b2, .int .i64 b3])) :
    Ex Tryd.prog n A w0 ρ Γ ⟨d, .binOp .eql 40 x y u, ty, pos, after, g⟩ (.bool (decide ((⟨a0, a1, a2, a3⟩ : GTile) = ⟨b0, b1, b2, b3⟩))) := by
  intro a w hs hh
  simp only [execOp, hs.eval hx, hs.eval hy]
  simp [eqGuard, go_sem, Program.fieldsOf]
  by_cases e0 : a0 = b0 <;> simp [e0]
  all_goals (repeat (split <;> simp_all))
theorem ex_neq_seq_40 {n : Fr} {A : Nat → Prop} {w0 : World} {ρ : Env} {Γ : Ctx} {d : Option Nat} {ty : TypeId} {pos : String} {after : Array Edge} {g : Option (Nat × Bool)} {x y : Operand} {u : TypeId} {a0 a1 a2 a3 b0 b1 b2 b3 : Int} (hx : ev ρ x = some (.agg #[.int .i64 a0, .int .i64 a1, .int .i64 a2, .int .i64 a3])) (hy : ev ρ y = some (.agg #[.int .i64 b0, .int .i64 b1, .int .i64 b2, .int .i64 b3])) :
    Ex Tryd.prog n A w0 ρ Γ ⟨d, .binOp .neq 40 x y u, ty, pos, after, g⟩ (.bool (!(decide ((⟨a0, a1, a2, a3⟩ : GTile) = ⟨b0, b1, b2, b3⟩)))) := by
  intro a w hs hh
  simp only [execOp, hs.eval hx, hs.eval hy]
  simp [eqGuard, go_sem, Program.fieldsOf]
  by_cases e0 : a0 = b0 <;> simp [e0]
  all_goals (repeat (split <;> simp_all))
theorem si_40 : SInf Tryd.prog 40 [.int .i64 0, .int .i64 0, .int .i64 0, .int .i64 0] := ⟨⟨_, _, Tryd.underlying40, (show zinf Tryd.prog 40 = some (.agg #[.int .i64 0, .int .i64 0, .int .i64 0, .int .i64 0]) by kernel_rfl), rfl, by kernel_rfl⟩⟩
theorem ti_2 : tinf Tryd.prog 2 = some (1, false) := by kernel_rfl
theorem ti_40 : tinf Tryd.prog 40 = some (4, true) := by kernel_rfl
theorem ti_9 : tinf Tryd.prog 9 = some (1, false) := by kernel_rfl
theorem zi_2 : zinf Tryd.prog 2 = some (.int .i64 0) := by kernel_rfl
theorem zi_40 : zinf Tryd.prog 40 = some (.agg #[.int .i64 0, .int .i64 0, .int .i64 0, .int .i64 0]) := by kernel_rfl
theorem zi_9 : zinf Tryd.prog 9 = some (.string ⟨#[]⟩) := by kernel_rfl

end Go.Proofs.YtnpkepfmicgelaaDoor
