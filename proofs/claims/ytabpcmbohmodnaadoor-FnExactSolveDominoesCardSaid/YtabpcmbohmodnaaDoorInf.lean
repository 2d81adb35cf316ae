/-
  Facts on the types of the program. No condition.
-/
import Derived.Test.YtabpcmbohmodnaaDoorProg
import Derived.Test.YtabpcmbohmodnaaDoorIs
import Derived.Test.YtabpcmbohmodnaaDoorTy
import Derived.KernelRfl
namespace Go.Proofs.YtabpcmbohmodnaaDoor
open Go Go.Tc Go.Fn
theorem bi_2 : binf Tryd.prog 2 = some 8 := by kernel_rfl
theorem bi_40 : binf Tryd.prog 40 = some 48 := by kernel_rfl
theorem bi_5 : binf Tryd.prog 5 = some 1 := by kernel_rfl
theorem bi_53 : binf Tryd.prog 53 = some 48 := by kernel_rfl
theorem bi_58 : binf Tryd.prog 58 = some 48 := by kernel_rfl
theorem fi_36_0 : finf Tryd.prog 36 0 = some (0, 1) := by kernel_rfl
theorem fi_36_1 : finf Tryd.prog 36 1 = some (1, 1) := by kernel_rfl
theorem fi_40_0 : finf Tryd.prog 40 0 = some (0, 1) := by kernel_rfl
theorem fi_40_1 : finf Tryd.prog 40 1 = some (1, 1) := by kernel_rfl
theorem fi_47_0 : finf Tryd.prog 47 0 = some (0, 1) := by kernel_rfl
theorem fi_47_1 : finf Tryd.prog 47 1 = some (1, 1) := by kernel_rfl
theorem fi_47_2 : finf Tryd.prog 47 2 = some (2, 1) := by kernel_rfl
theorem fi_47_3 : finf Tryd.prog 47 3 = some (3, 1) := by kernel_rfl
theorem fi_53_0 : finf Tryd.prog 53 0 = some (0, 1) := by kernel_rfl
theorem fi_53_1 : finf Tryd.prog 53 1 = some (1, 1) := by kernel_rfl
theorem fi_53_2 : finf Tryd.prog 53 2 = some (2, 1) := by kernel_rfl
theorem fi_53_3 : finf Tryd.prog 53 3 = some (3, 1) := by kernel_rfl
theorem fi_58_0 : finf Tryd.prog 58 0 = some (0, 1) := by kernel_rfl
theorem fi_58_1 : finf Tryd.prog 58 1 = some (1, 1) := by kernel_rfl
theorem fi_58_2 : finf Tryd.prog 58 2 = some (2, 1) := by kernel_rfl
theorem fi_58_3 : finf Tryd.prog 58 3 = some (3, 1) := by kernel_rfl
theorem key_9 : KeyOk Tryd.prog 9 Value.string := keyok_str Tryd.underlying9
theorem si_47 : SInf Tryd.prog 47 [.slice none 0 0, .slice none 0 0, .map none, .bool false] := ⟨⟨_, _, Tryd.underlying47, (show zinf Tryd.prog 47 = some (.agg #[.slice none 0 0, .slice none 0 0, .map none, .bool false]) by kernel_rfl), rfl, by kernel_rfl⟩⟩
theorem si_53 : SInf Tryd.prog 53 [.bool false, .slice none 0 0, .int .i64 0, .int .i64 0] := ⟨⟨_, _, Tryd.underlying53, (show zinf Tryd.prog 53 = some (.agg #[.bool false, .slice none 0 0, .int .i64 0, .int .i64 0]) by kernel_rfl), rfl, by kernel_rfl⟩⟩
theorem si_58 : SInf Tryd.prog 58 [.slice none 0 0, .bool false, .int .i64 0, .int .i64 0] := ⟨⟨_, _, Tryd.underlying58, (show zinf Tryd.prog 58 = some (.agg #[.slice none 0 0, .bool false, .int .i64 0, .int .i64 0]) by kernel_rfl), rfl, by kernel_rfl⟩⟩
theorem ti_2 : tinf Tryd.prog 2 = some (1, false) := by kernel_rfl
theorem ti_24 : tinf Tryd.prog 24 = some (1, false) := by kernel_rfl
theorem ti_27 : tinf Tryd.prog 27 = some (1, false) := by kernel_rfl
theorem ti_3 : tinf Tryd.prog 3 = some (1, false) := by kernel_rfl
theorem ti_36 : tinf Tryd.prog 36 = some (2, true) := by kernel_rfl
theorem ti_4 : tinf Tryd.prog 4 = some (1, false) := by kernel_rfl
theorem ti_40 : tinf Tryd.prog 40 = some (2, true) := by kernel_rfl
theorem ti_44 : tinf Tryd.prog 44 = some (1, false) := by kernel_rfl
theorem ti_45 : tinf Tryd.prog 45 = some (1, false) := by kernel_rfl
theorem ti_49 : tinf Tryd.prog 49 = some (1, false) := by kernel_rfl
theorem ti_5 : tinf Tryd.prog 5 = some (1, false) := by kernel_rfl
theorem ti_53 : tinf Tryd.prog 53 = some (4, true) := by kernel_rfl
theorem ti_58 : tinf Tryd.prog 58 = some (4, true) := by kernel_rfl
theorem zi_2 : zinf Tryd.prog 2 = some (.int .i64 0) := by kernel_rfl
theorem zi_24 : zinf Tryd.prog 24 = some (.slice none 0 0) := by kernel_rfl
theorem zi_4 : zinf Tryd.prog 4 = some (.bool false) := by kernel_rfl
theorem zi_40 : zinf Tryd.prog 40 = some (.agg #[.slice none 0 0, .slice none 0 0]) := by kernel_rfl
theorem zi_5 : zinf Tryd.prog 5 = some (.int .u8 0) := by kernel_rfl
theorem zi_53 : zinf Tryd.prog 53 = some (.agg #[.bool false, .slice none 0 0, .int .i64 0, .int .i64 0]) := by kernel_rfl
theorem zi_58 : zinf Tryd.prog 58 = some (.agg #[.slice none 0 0, .bool false, .int .i64 0, .int .i64 0]) := by kernel_rfl

end Go.Proofs.YtabpcmbohmodnaaDoor
