/-
  Facts on the types of the program. No condition.
-/
import Derived.Test.YtnpkepfmicgelaaProg
import Derived.Test.YtnpkepfmicgelaaShelf
import Derived.Test.YtnpkepfmicgelaaTy
import Derived.KernelRfl
namespace Go.Proofs.Ytnpkepfmicgelaa
open Go Go.Tc Go.Fn
theorem bi_2 : binf Try.prog 2 = some 8 := by kernel_rfl
theorem bi_34 : binf Try.prog 34 = some 48 := by kernel_rfl
theorem bi_5 : binf Try.prog 5 = some 1 := by kernel_rfl
theorem bi_9 : binf Try.prog 9 = some 16 := by kernel_rfl
theorem ext_41 (v : Value) : ∀ w, (callFunc 41 [v].toArray).run Try.prog w = .ok (.value v) w := fun w => by kernel_rfl
theorem fi_32_0 : finf Try.prog 32 0 = some (0, 1) := by kernel_rfl
theorem fi_32_1 : finf Try.prog 32 1 = some (1, 1) := by kernel_rfl
theorem fi_34_0 : finf Try.prog 34 0 = some (0, 1) := by kernel_rfl
theorem fi_34_1 : finf Try.prog 34 1 = some (1, 1) := by kernel_rfl
theorem fi_50_0 : finf Try.prog 50 0 = some (0, 1) := by kernel_rfl
theorem fi_50_1 : finf Try.prog 50 1 = some (1, 1) := by kernel_rfl
theorem ti_2 : tinf Try.prog 2 = some (1, false) := by kernel_rfl
theorem ti_30 : tinf Try.prog 30 = some (1, false) := by kernel_rfl
theorem ti_32 : tinf Try.prog 32 = some (2, true) := by kernel_rfl
theorem ti_34 : tinf Try.prog 34 = some (2, true) := by kernel_rfl
theorem ti_47 : tinf Try.prog 47 = some (1, false) := by kernel_rfl
theorem ti_48 : tinf Try.prog 48 = some (1, false) := by kernel_rfl
theorem ti_5 : tinf Try.prog 5 = some (1, false) := by kernel_rfl
theorem ti_50 : tinf Try.prog 50 = some (2, true) := by kernel_rfl
theorem ti_9 : tinf Try.prog 9 = some (1, false) := by kernel_rfl
theorem zi_2 : zinf Try.prog 2 = some (.int .i64 0) := by kernel_rfl
theorem zi_30 : zinf Try.prog 30 = some (.slice none 0 0) := by kernel_rfl
theorem zi_34 : zinf Try.prog 34 = some (.agg #[.slice none 0 0, .slice none 0 0]) := by kernel_rfl
theorem zi_5 : zinf Try.prog 5 = some (.int .u8 0) := by kernel_rfl
theorem zi_50 : zinf Try.prog 50 = some (.agg #[.pointer none, .slice none 0 0]) := by kernel_rfl
theorem zi_9 : zinf Try.prog 9 = some (.string ⟨#[]⟩) := by kernel_rfl

end Go.Proofs.Ytnpkepfmicgelaa
