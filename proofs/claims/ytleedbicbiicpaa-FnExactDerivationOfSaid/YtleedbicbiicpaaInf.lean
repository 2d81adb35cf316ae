/-
  Facts on the types of the program. No condition.
-/
import Derived.Test.YtleedbicbiicpaaProg
import Derived.Test.YtleedbicbiicpaaTy
import Derived.KernelRfl
namespace Go.Proofs.Ytleedbicbiicpaa
open Go Go.Tc Go.Fn
theorem bi_2 : binf Try.prog 2 = some 8 := by kernel_rfl
theorem bi_23 : binf Try.prog 23 = some 24 := by kernel_rfl
theorem bi_5 : binf Try.prog 5 = some 1 := by kernel_rfl
theorem bi_54 : binf Try.prog 54 = some 48 := by kernel_rfl
theorem bi_66 : binf Try.prog 66 = some 40 := by kernel_rfl
theorem bi_68 : binf Try.prog 68 = some 48 := by kernel_rfl
theorem bi_9 : binf Try.prog 9 = some 16 := by kernel_rfl
theorem fi_45_0 : finf Try.prog 45 0 = some (0, 1) := by kernel_rfl
theorem fi_45_1 : finf Try.prog 45 1 = some (1, 1) := by kernel_rfl
theorem fi_52_0 : finf Try.prog 52 0 = some (0, 1) := by kernel_rfl
theorem fi_52_1 : finf Try.prog 52 1 = some (1, 1) := by kernel_rfl
theorem fi_52_2 : finf Try.prog 52 2 = some (2, 1) := by kernel_rfl
theorem fi_52_3 : finf Try.prog 52 3 = some (3, 1) := by kernel_rfl
theorem fi_54_0 : finf Try.prog 54 0 = some (0, 1) := by kernel_rfl
theorem fi_54_1 : finf Try.prog 54 1 = some (1, 1) := by kernel_rfl
theorem fi_62_0 : finf Try.prog 62 0 = some (0, 1) := by kernel_rfl
theorem fi_62_1 : finf Try.prog 62 1 = some (1, 1) := by kernel_rfl
theorem fi_62_2 : finf Try.prog 62 2 = some (2, 1) := by kernel_rfl
theorem fi_66_0 : finf Try.prog 66 0 = some (0, 1) := by kernel_rfl
theorem fi_66_1 : finf Try.prog 66 1 = some (1, 1) := by kernel_rfl
theorem fi_66_2 : finf Try.prog 66 2 = some (2, 1) := by kernel_rfl
theorem fi_68_0 : finf Try.prog 68 0 = some (0, 3) := by kernel_rfl
theorem fi_68_1 : finf Try.prog 68 1 = some (3, 1) := by kernel_rfl
theorem key_9 : KeyOk Try.prog 9 Value.string := keyok_str Try.underlying9
theorem si_52 : SInf Try.prog 52 [.slice none 0 0, .slice none 0 0, .slice none 0 0, .bool false] := ⟨⟨_, _, Try.underlying52, (show zinf Try.prog 52 = some (.agg #[.slice none 0 0, .slice none 0 0, .slice none 0 0, .bool false]) by kernel_rfl), rfl, by kernel_rfl⟩⟩
theorem si_62 : SInf Try.prog 62 [.slice none 0 0, .map none, .bool false] := ⟨⟨_, _, Try.underlying62, (show zinf Try.prog 62 = some (.agg #[.slice none 0 0, .map none, .bool false]) by kernel_rfl), rfl, by kernel_rfl⟩⟩
theorem si_66 : SInf Try.prog 66 [.int .i64 0, .int .i64 0, .slice none 0 0] := ⟨⟨_, _, Try.underlying66, (show zinf Try.prog 66 = some (.agg #[.int .i64 0, .int .i64 0, .slice none 0 0]) by kernel_rfl), rfl, by kernel_rfl⟩⟩
theorem si_68 : SInf Try.prog 68 [.int .i64 0, .int .i64 0, .slice none 0 0, .int .i64 0] := ⟨⟨_, _, Try.underlying68, (show zinf Try.prog 68 = some (.agg #[.int .i64 0, .int .i64 0, .slice none 0 0, .int .i64 0]) by kernel_rfl), rfl, by kernel_rfl⟩⟩
theorem ti_2 : tinf Try.prog 2 = some (1, false) := by kernel_rfl
theorem ti_23 : tinf Try.prog 23 = some (1, false) := by kernel_rfl
theorem ti_3 : tinf Try.prog 3 = some (1, false) := by kernel_rfl
theorem ti_33 : tinf Try.prog 33 = some (1, false) := by kernel_rfl
theorem ti_4 : tinf Try.prog 4 = some (1, false) := by kernel_rfl
theorem ti_45 : tinf Try.prog 45 = some (2, true) := by kernel_rfl
theorem ti_5 : tinf Try.prog 5 = some (1, false) := by kernel_rfl
theorem ti_54 : tinf Try.prog 54 = some (2, true) := by kernel_rfl
theorem ti_59 : tinf Try.prog 59 = some (1, false) := by kernel_rfl
theorem ti_60 : tinf Try.prog 60 = some (1, false) := by kernel_rfl
theorem ti_66 : tinf Try.prog 66 = some (3, true) := by kernel_rfl
theorem ti_68 : tinf Try.prog 68 = some (4, true) := by kernel_rfl
theorem ti_9 : tinf Try.prog 9 = some (1, false) := by kernel_rfl
theorem zi_2 : zinf Try.prog 2 = some (.int .i64 0) := by kernel_rfl
theorem zi_23 : zinf Try.prog 23 = some (.slice none 0 0) := by kernel_rfl
theorem zi_3 : zinf Try.prog 3 = some (.int .i64 0) := by kernel_rfl
theorem zi_5 : zinf Try.prog 5 = some (.int .u8 0) := by kernel_rfl
theorem zi_54 : zinf Try.prog 54 = some (.agg #[.slice none 0 0, .slice none 0 0]) := by kernel_rfl
theorem zi_66 : zinf Try.prog 66 = some (.agg #[.int .i64 0, .int .i64 0, .slice none 0 0]) := by kernel_rfl
theorem zi_68 : zinf Try.prog 68 = some (.agg #[.int .i64 0, .int .i64 0, .slice none 0 0, .int .i64 0]) := by kernel_rfl
theorem zi_9 : zinf Try.prog 9 = some (.string ⟨#[]⟩) := by kernel_rfl

end Go.Proofs.Ytleedbicbiicpaa
