/-
  Facts on the types of the program. No condition.
-/
import Derived.Test.YtnpkepfmicgelaaDoorProg
import Derived.Test.YtnpkepfmicgelaaDoorShelf
import Derived.Test.YtnpkepfmicgelaaDoorTy
import Derived.KernelRfl
namespace Go.Proofs.YtnpkepfmicgelaaDoor
open Go Go.Tc Go.Fn
theorem bi_2 : binf Tryd.prog 2 = some 8 := by kernel_rfl
theorem bi_5 : binf Tryd.prog 5 = some 1 := by kernel_rfl
theorem bi_52 : binf Tryd.prog 52 = some 48 := by kernel_rfl
theorem bi_9 : binf Tryd.prog 9 = some 16 := by kernel_rfl
theorem ext_80 (v : Value) : ∀ w, (callFunc 80 [v].toArray).run Tryd.prog w = .ok (.value v) w := fun w => by kernel_rfl
theorem fi_52_0 : finf Tryd.prog 52 0 = some (0, 1) := by kernel_rfl
theorem fi_52_1 : finf Tryd.prog 52 1 = some (1, 1) := by kernel_rfl
theorem fi_72_0 : finf Tryd.prog 72 0 = some (0, 1) := by kernel_rfl
theorem fi_72_1 : finf Tryd.prog 72 1 = some (1, 1) := by kernel_rfl
theorem si_52 : SInf Tryd.prog 52 [.slice none 0 0, .slice none 0 0] := ⟨⟨_, _, Tryd.underlying52, (show zinf Tryd.prog 52 = some (.agg #[.slice none 0 0, .slice none 0 0]) by kernel_rfl), rfl, by kernel_rfl⟩⟩
theorem ti_2 : tinf Tryd.prog 2 = some (1, false) := by kernel_rfl
theorem ti_45 : tinf Tryd.prog 45 = some (1, false) := by kernel_rfl
theorem ti_5 : tinf Tryd.prog 5 = some (1, false) := by kernel_rfl
theorem ti_52 : tinf Tryd.prog 52 = some (2, true) := by kernel_rfl
theorem ti_69 : tinf Tryd.prog 69 = some (1, false) := by kernel_rfl
theorem ti_70 : tinf Tryd.prog 70 = some (1, false) := by kernel_rfl
theorem ti_72 : tinf Tryd.prog 72 = some (2, true) := by kernel_rfl
theorem ti_9 : tinf Tryd.prog 9 = some (1, false) := by kernel_rfl
theorem zi_2 : zinf Tryd.prog 2 = some (.int .i64 0) := by kernel_rfl
theorem zi_45 : zinf Tryd.prog 45 = some (.slice none 0 0) := by kernel_rfl
theorem zi_5 : zinf Tryd.prog 5 = some (.int .u8 0) := by kernel_rfl
theorem zi_52 : zinf Tryd.prog 52 = some (.agg #[.slice none 0 0, .slice none 0 0]) := by kernel_rfl
theorem zi_72 : zinf Tryd.prog 72 = some (.agg #[.pointer none, .slice none 0 0]) := by kernel_rfl
theorem zi_9 : zinf Tryd.prog 9 = some (.string ⟨#[]⟩) := by kernel_rfl

end Go.Proofs.YtnpkepfmicgelaaDoor
