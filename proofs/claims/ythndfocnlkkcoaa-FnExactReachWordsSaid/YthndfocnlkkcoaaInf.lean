/-
  Facts on the types of the program. No condition.
-/
import Derived.Test.YthndfocnlkkcoaaProg
import Derived.Test.YthndfocnlkkcoaaTy
import Derived.KernelRfl
namespace Go.Proofs.Ythndfocnlkkcoaa
open Go Go.Tc Go.Fn
theorem bi_2 : binf Try.prog 2 = some 8 := by kernel_rfl
theorem bi_23 : binf Try.prog 23 = some 24 := by kernel_rfl
theorem bi_48 : binf Try.prog 48 = some 48 := by kernel_rfl
theorem bi_5 : binf Try.prog 5 = some 1 := by kernel_rfl
theorem bi_58 : binf Try.prog 58 = some 40 := by kernel_rfl
theorem bi_60 : binf Try.prog 60 = some 48 := by kernel_rfl
theorem bi_9 : binf Try.prog 9 = some 16 := by kernel_rfl
theorem fi_40_0 : finf Try.prog 40 0 = some (0, 1) := by kernel_rfl
theorem fi_40_1 : finf Try.prog 40 1 = some (1, 1) := by kernel_rfl
theorem fi_47_0 : finf Try.prog 47 0 = some (0, 1) := by kernel_rfl
theorem fi_47_1 : finf Try.prog 47 1 = some (1, 1) := by kernel_rfl
theorem fi_47_2 : finf Try.prog 47 2 = some (2, 1) := by kernel_rfl
theorem fi_47_3 : finf Try.prog 47 3 = some (3, 1) := by kernel_rfl
theorem fi_48_0 : finf Try.prog 48 0 = some (0, 1) := by kernel_rfl
theorem fi_48_1 : finf Try.prog 48 1 = some (1, 1) := by kernel_rfl
theorem fi_56_0 : finf Try.prog 56 0 = some (0, 1) := by kernel_rfl
theorem fi_56_1 : finf Try.prog 56 1 = some (1, 1) := by kernel_rfl
theorem fi_56_2 : finf Try.prog 56 2 = some (2, 1) := by kernel_rfl
theorem fi_58_0 : finf Try.prog 58 0 = some (0, 1) := by kernel_rfl
theorem fi_58_1 : finf Try.prog 58 1 = some (1, 1) := by kernel_rfl
theorem fi_58_2 : finf Try.prog 58 2 = some (2, 1) := by kernel_rfl
theorem fi_60_0 : finf Try.prog 60 0 = some (0, 3) := by kernel_rfl
theorem fi_60_1 : finf Try.prog 60 1 = some (3, 1) := by kernel_rfl
theorem key_9 : KeyOk Try.prog 9 Value.string := keyok_str Try.underlying9
theorem si_47 : SInf Try.prog 47 [.slice none 0 0, .slice none 0 0, .slice none 0 0, .bool false] := ⟨⟨_, _, Try.underlying47, (show zinf Try.prog 47 = some (.agg #[.slice none 0 0, .slice none 0 0, .slice none 0 0, .bool false]) by kernel_rfl), rfl, by kernel_rfl⟩⟩
theorem si_56 : SInf Try.prog 56 [.slice none 0 0, .map none, .bool false] := ⟨⟨_, _, Try.underlying56, (show zinf Try.prog 56 = some (.agg #[.slice none 0 0, .map none, .bool false]) by kernel_rfl), rfl, by kernel_rfl⟩⟩
theorem si_58 : SInf Try.prog 58 [.int .i64 0, .int .i64 0, .slice none 0 0] := ⟨⟨_, _, Try.underlying58, (show zinf Try.prog 58 = some (.agg #[.int .i64 0, .int .i64 0, .slice none 0 0]) by kernel_rfl), rfl, by kernel_rfl⟩⟩
theorem si_60 : SInf Try.prog 60 [.int .i64 0, .int .i64 0, .slice none 0 0, .int .i64 0] := ⟨⟨_, _, Try.underlying60, (show zinf Try.prog 60 = some (.agg #[.int .i64 0, .int .i64 0, .slice none 0 0, .int .i64 0]) by kernel_rfl), rfl, by kernel_rfl⟩⟩
theorem ti_2 : tinf Try.prog 2 = some (1, false) := by kernel_rfl
theorem ti_23 : tinf Try.prog 23 = some (1, false) := by kernel_rfl
theorem ti_25 : tinf Try.prog 25 = some (1, false) := by kernel_rfl
theorem ti_4 : tinf Try.prog 4 = some (1, false) := by kernel_rfl
theorem ti_40 : tinf Try.prog 40 = some (2, true) := by kernel_rfl
theorem ti_48 : tinf Try.prog 48 = some (2, true) := by kernel_rfl
theorem ti_5 : tinf Try.prog 5 = some (1, false) := by kernel_rfl
theorem ti_53 : tinf Try.prog 53 = some (1, false) := by kernel_rfl
theorem ti_54 : tinf Try.prog 54 = some (1, false) := by kernel_rfl
theorem ti_58 : tinf Try.prog 58 = some (3, true) := by kernel_rfl
theorem ti_60 : tinf Try.prog 60 = some (4, true) := by kernel_rfl
theorem ti_9 : tinf Try.prog 9 = some (1, false) := by kernel_rfl
theorem zi_2 : zinf Try.prog 2 = some (.int .i64 0) := by kernel_rfl
theorem zi_23 : zinf Try.prog 23 = some (.slice none 0 0) := by kernel_rfl
theorem zi_3 : zinf Try.prog 3 = some (.int .i64 0) := by kernel_rfl
theorem zi_48 : zinf Try.prog 48 = some (.agg #[.slice none 0 0, .slice none 0 0]) := by kernel_rfl
theorem zi_5 : zinf Try.prog 5 = some (.int .u8 0) := by kernel_rfl
theorem zi_58 : zinf Try.prog 58 = some (.agg #[.int .i64 0, .int .i64 0, .slice none 0 0]) := by kernel_rfl
theorem zi_60 : zinf Try.prog 60 = some (.agg #[.int .i64 0, .int .i64 0, .slice none 0 0, .int .i64 0]) := by kernel_rfl
theorem zi_9 : zinf Try.prog 9 = some (.string ⟨#[]⟩) := by kernel_rfl

end Go.Proofs.Ythndfocnlkkcoaa
