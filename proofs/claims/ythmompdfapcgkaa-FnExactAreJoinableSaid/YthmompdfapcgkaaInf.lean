/-
  Facts on the types of the program. No condition.
-/
import Derived.Test.YthmompdfapcgkaaProg
import Derived.Test.YthmompdfapcgkaaTy
import Derived.KernelRfl
namespace Go.Proofs.Ythmompdfapcgkaa
open Go Go.Tc Go.Fn
theorem bi_100 : binf Try.prog 100 = some 40 := by kernel_rfl
theorem bi_102 : binf Try.prog 102 = some 48 := by kernel_rfl
theorem bi_2 : binf Try.prog 2 = some 8 := by kernel_rfl
theorem bi_23 : binf Try.prog 23 = some 24 := by kernel_rfl
theorem bi_5 : binf Try.prog 5 = some 1 := by kernel_rfl
theorem bi_9 : binf Try.prog 9 = some 16 := by kernel_rfl
theorem bi_91 : binf Try.prog 91 = some 48 := by kernel_rfl
theorem fi_100_0 : finf Try.prog 100 0 = some (0, 1) := by kernel_rfl
theorem fi_100_1 : finf Try.prog 100 1 = some (1, 1) := by kernel_rfl
theorem fi_100_2 : finf Try.prog 100 2 = some (2, 1) := by kernel_rfl
theorem fi_102_0 : finf Try.prog 102 0 = some (0, 3) := by kernel_rfl
theorem fi_102_1 : finf Try.prog 102 1 = some (3, 1) := by kernel_rfl
theorem fi_113_0 : finf Try.prog 113 0 = some (0, 1) := by kernel_rfl
theorem fi_113_1 : finf Try.prog 113 1 = some (1, 1) := by kernel_rfl
theorem fi_117_0 : finf Try.prog 117 0 = some (0, 1) := by kernel_rfl
theorem fi_117_1 : finf Try.prog 117 1 = some (1, 1) := by kernel_rfl
theorem fi_117_2 : finf Try.prog 117 2 = some (2, 1) := by kernel_rfl
theorem fi_117_3 : finf Try.prog 117 3 = some (3, 1) := by kernel_rfl
theorem fi_91_0 : finf Try.prog 91 0 = some (0, 1) := by kernel_rfl
theorem fi_91_1 : finf Try.prog 91 1 = some (1, 1) := by kernel_rfl
theorem fi_98_0 : finf Try.prog 98 0 = some (0, 1) := by kernel_rfl
theorem fi_98_1 : finf Try.prog 98 1 = some (1, 1) := by kernel_rfl
theorem fi_98_2 : finf Try.prog 98 2 = some (2, 1) := by kernel_rfl
theorem key_9 : KeyOk Try.prog 9 Value.string := keyok_str Try.underlying9
theorem si_100 : SInf Try.prog 100 [.int .i64 0, .int .i64 0, .slice none 0 0] := ⟨⟨_, _, Try.underlying100, (show zinf Try.prog 100 = some (.agg #[.int .i64 0, .int .i64 0, .slice none 0 0]) by kernel_rfl), rfl, by kernel_rfl⟩⟩
theorem si_102 : SInf Try.prog 102 [.int .i64 0, .int .i64 0, .slice none 0 0, .int .i64 0] := ⟨⟨_, _, Try.underlying102, (show zinf Try.prog 102 = some (.agg #[.int .i64 0, .int .i64 0, .slice none 0 0, .int .i64 0]) by kernel_rfl), rfl, by kernel_rfl⟩⟩
theorem si_117 : SInf Try.prog 117 [.slice none 0 0, .slice none 0 0, .slice none 0 0, .bool false] := ⟨⟨_, _, Try.underlying117, (show zinf Try.prog 117 = some (.agg #[.slice none 0 0, .slice none 0 0, .slice none 0 0, .bool false]) by kernel_rfl), rfl, by kernel_rfl⟩⟩
theorem si_98 : SInf Try.prog 98 [.slice none 0 0, .map none, .bool false] := ⟨⟨_, _, Try.underlying98, (show zinf Try.prog 98 = some (.agg #[.slice none 0 0, .map none, .bool false]) by kernel_rfl), rfl, by kernel_rfl⟩⟩
theorem ti_100 : tinf Try.prog 100 = some (3, true) := by kernel_rfl
theorem ti_102 : tinf Try.prog 102 = some (4, true) := by kernel_rfl
theorem ti_113 : tinf Try.prog 113 = some (2, true) := by kernel_rfl
theorem ti_2 : tinf Try.prog 2 = some (1, false) := by kernel_rfl
theorem ti_23 : tinf Try.prog 23 = some (1, false) := by kernel_rfl
theorem ti_33 : tinf Try.prog 33 = some (1, false) := by kernel_rfl
theorem ti_4 : tinf Try.prog 4 = some (1, false) := by kernel_rfl
theorem ti_5 : tinf Try.prog 5 = some (1, false) := by kernel_rfl
theorem ti_9 : tinf Try.prog 9 = some (1, false) := by kernel_rfl
theorem ti_91 : tinf Try.prog 91 = some (2, true) := by kernel_rfl
theorem ti_95 : tinf Try.prog 95 = some (1, false) := by kernel_rfl
theorem ti_96 : tinf Try.prog 96 = some (1, false) := by kernel_rfl
theorem zi_100 : zinf Try.prog 100 = some (.agg #[.int .i64 0, .int .i64 0, .slice none 0 0]) := by kernel_rfl
theorem zi_102 : zinf Try.prog 102 = some (.agg #[.int .i64 0, .int .i64 0, .slice none 0 0, .int .i64 0]) := by kernel_rfl
theorem zi_2 : zinf Try.prog 2 = some (.int .i64 0) := by kernel_rfl
theorem zi_23 : zinf Try.prog 23 = some (.slice none 0 0) := by kernel_rfl
theorem zi_3 : zinf Try.prog 3 = some (.int .i64 0) := by kernel_rfl
theorem zi_5 : zinf Try.prog 5 = some (.int .u8 0) := by kernel_rfl
theorem zi_9 : zinf Try.prog 9 = some (.string ⟨#[]⟩) := by kernel_rfl
theorem zi_91 : zinf Try.prog 91 = some (.agg #[.slice none 0 0, .slice none 0 0]) := by kernel_rfl

end Go.Proofs.Ythmompdfapcgkaa
