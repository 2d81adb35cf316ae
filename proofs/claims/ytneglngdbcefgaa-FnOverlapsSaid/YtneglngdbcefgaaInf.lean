/-
  Facts on the types of the program. No condition.
-/
import Derived.Test.YtneglngdbcefgaaProg
import Derived.Test.YtneglngdbcefgaaTy
import Derived.KernelRfl
namespace Go.Proofs.Ytneglngdbcefgaa
open Go Go.Tc Go.Fn
theorem bi_147 : binf Try.prog 147 = some 48 := by kernel_rfl
theorem bi_2 : binf Try.prog 2 = some 8 := by kernel_rfl
theorem bi_23 : binf Try.prog 23 = some 24 := by kernel_rfl
theorem bi_25 : binf Try.prog 25 = some 24 := by kernel_rfl
theorem bi_5 : binf Try.prog 5 = some 1 := by kernel_rfl
theorem bi_80 : binf Try.prog 80 = some 48 := by kernel_rfl
theorem bi_9 : binf Try.prog 9 = some 16 := by kernel_rfl
theorem bi_95 : binf Try.prog 95 = some 40 := by kernel_rfl
theorem fi_103_0 : finf Try.prog 103 0 = some (0, 1) := by kernel_rfl
theorem fi_103_1 : finf Try.prog 103 1 = some (1, 1) := by kernel_rfl
theorem fi_103_2 : finf Try.prog 103 2 = some (2, 1) := by kernel_rfl
theorem fi_147_0 : finf Try.prog 147 0 = some (0, 3) := by kernel_rfl
theorem fi_147_1 : finf Try.prog 147 1 = some (3, 1) := by kernel_rfl
theorem fi_154_0 : finf Try.prog 154 0 = some (0, 1) := by kernel_rfl
theorem fi_154_1 : finf Try.prog 154 1 = some (1, 1) := by kernel_rfl
theorem fi_154_2 : finf Try.prog 154 2 = some (2, 1) := by kernel_rfl
theorem fi_71_0 : finf Try.prog 71 0 = some (0, 1) := by kernel_rfl
theorem fi_71_1 : finf Try.prog 71 1 = some (1, 1) := by kernel_rfl
theorem fi_78_0 : finf Try.prog 78 0 = some (0, 1) := by kernel_rfl
theorem fi_78_1 : finf Try.prog 78 1 = some (1, 1) := by kernel_rfl
theorem fi_78_2 : finf Try.prog 78 2 = some (2, 1) := by kernel_rfl
theorem fi_78_3 : finf Try.prog 78 3 = some (3, 1) := by kernel_rfl
theorem fi_80_0 : finf Try.prog 80 0 = some (0, 1) := by kernel_rfl
theorem fi_80_1 : finf Try.prog 80 1 = some (1, 1) := by kernel_rfl
theorem fi_95_0 : finf Try.prog 95 0 = some (0, 1) := by kernel_rfl
theorem fi_95_1 : finf Try.prog 95 1 = some (1, 1) := by kernel_rfl
theorem fi_95_2 : finf Try.prog 95 2 = some (2, 1) := by kernel_rfl
theorem key_9 : KeyOk Try.prog 9 Value.string := keyok_str Try.underlying9
theorem si_103 : SInf Try.prog 103 [.slice none 0 0, .map none, .bool false] := ⟨⟨_, _, Try.underlying103, (show zinf Try.prog 103 = some (.agg #[.slice none 0 0, .map none, .bool false]) by kernel_rfl), rfl, by kernel_rfl⟩⟩
theorem si_147 : SInf Try.prog 147 [.int .i64 0, .int .i64 0, .slice none 0 0, .int .i64 0] := ⟨⟨_, _, Try.underlying147, (show zinf Try.prog 147 = some (.agg #[.int .i64 0, .int .i64 0, .slice none 0 0, .int .i64 0]) by kernel_rfl), rfl, by kernel_rfl⟩⟩
theorem si_154 : SInf Try.prog 154 [.slice none 0 0, .int .i64 0, .int .u64 0] := ⟨⟨_, _, Try.underlying154, (show zinf Try.prog 154 = some (.agg #[.slice none 0 0, .int .i64 0, .int .u64 0]) by kernel_rfl), rfl, by kernel_rfl⟩⟩
theorem si_78 : SInf Try.prog 78 [.slice none 0 0, .slice none 0 0, .slice none 0 0, .bool false] := ⟨⟨_, _, Try.underlying78, (show zinf Try.prog 78 = some (.agg #[.slice none 0 0, .slice none 0 0, .slice none 0 0, .bool false]) by kernel_rfl), rfl, by kernel_rfl⟩⟩
theorem si_80 : SInf Try.prog 80 [.slice none 0 0, .slice none 0 0] := ⟨⟨_, _, Try.underlying80, (show zinf Try.prog 80 = some (.agg #[.slice none 0 0, .slice none 0 0]) by kernel_rfl), rfl, by kernel_rfl⟩⟩
theorem si_95 : SInf Try.prog 95 [.int .i64 0, .int .i64 0, .slice none 0 0] := ⟨⟨_, _, Try.underlying95, (show zinf Try.prog 95 = some (.agg #[.int .i64 0, .int .i64 0, .slice none 0 0]) by kernel_rfl), rfl, by kernel_rfl⟩⟩
theorem ti_100 : tinf Try.prog 100 = some (1, false) := by kernel_rfl
theorem ti_101 : tinf Try.prog 101 = some (1, false) := by kernel_rfl
theorem ti_147 : tinf Try.prog 147 = some (4, true) := by kernel_rfl
theorem ti_152 : tinf Try.prog 152 = some (1, false) := by kernel_rfl
theorem ti_2 : tinf Try.prog 2 = some (1, false) := by kernel_rfl
theorem ti_23 : tinf Try.prog 23 = some (1, false) := by kernel_rfl
theorem ti_25 : tinf Try.prog 25 = some (1, false) := by kernel_rfl
theorem ti_28 : tinf Try.prog 28 = some (1, false) := by kernel_rfl
theorem ti_3 : tinf Try.prog 3 = some (1, false) := by kernel_rfl
theorem ti_38 : tinf Try.prog 38 = some (1, false) := by kernel_rfl
theorem ti_4 : tinf Try.prog 4 = some (1, false) := by kernel_rfl
theorem ti_5 : tinf Try.prog 5 = some (1, false) := by kernel_rfl
theorem ti_71 : tinf Try.prog 71 = some (2, true) := by kernel_rfl
theorem ti_80 : tinf Try.prog 80 = some (2, true) := by kernel_rfl
theorem ti_9 : tinf Try.prog 9 = some (1, false) := by kernel_rfl
theorem ti_95 : tinf Try.prog 95 = some (3, true) := by kernel_rfl
theorem zi_147 : zinf Try.prog 147 = some (.agg #[.int .i64 0, .int .i64 0, .slice none 0 0, .int .i64 0]) := by kernel_rfl
theorem zi_2 : zinf Try.prog 2 = some (.int .i64 0) := by kernel_rfl
theorem zi_23 : zinf Try.prog 23 = some (.slice none 0 0) := by kernel_rfl
theorem zi_25 : zinf Try.prog 25 = some (.slice none 0 0) := by kernel_rfl
theorem zi_3 : zinf Try.prog 3 = some (.int .i64 0) := by kernel_rfl
theorem zi_4 : zinf Try.prog 4 = some (.bool false) := by kernel_rfl
theorem zi_5 : zinf Try.prog 5 = some (.int .u8 0) := by kernel_rfl
theorem zi_80 : zinf Try.prog 80 = some (.agg #[.slice none 0 0, .slice none 0 0]) := by kernel_rfl
theorem zi_9 : zinf Try.prog 9 = some (.string ⟨#[]⟩) := by kernel_rfl
theorem zi_95 : zinf Try.prog 95 = some (.agg #[.int .i64 0, .int .i64 0, .slice none 0 0]) := by kernel_rfl

end Go.Proofs.Ytneglngdbcefgaa
