/-
  Facts on the types of the program. No condition.
-/
import Derived.Test.YtgojoooilijiiaaProg
import Derived.Test.YtgojoooilijiiaaTy
import Derived.KernelRfl
namespace Go.Proofs.Ytgojoooilijiiaa
open Go Go.Tc Go.Fn
theorem bi_170 : binf Try.prog 170 = some 48 := by kernel_rfl
theorem bi_2 : binf Try.prog 2 = some 8 := by kernel_rfl
theorem bi_27 : binf Try.prog 27 = some 24 := by kernel_rfl
theorem bi_5 : binf Try.prog 5 = some 1 := by kernel_rfl
theorem bi_50 : binf Try.prog 50 = some 48 := by kernel_rfl
theorem bi_9 : binf Try.prog 9 = some 16 := by kernel_rfl
theorem fi_131_0 : finf Try.prog 131 0 = some (0, 1) := by kernel_rfl
theorem fi_131_1 : finf Try.prog 131 1 = some (1, 1) := by kernel_rfl
theorem fi_131_2 : finf Try.prog 131 2 = some (2, 1) := by kernel_rfl
theorem fi_170_0 : finf Try.prog 170 0 = some (0, 1) := by kernel_rfl
theorem fi_170_1 : finf Try.prog 170 1 = some (1, 1) := by kernel_rfl
theorem fi_170_2 : finf Try.prog 170 2 = some (2, 1) := by kernel_rfl
theorem fi_170_3 : finf Try.prog 170 3 = some (3, 1) := by kernel_rfl
theorem fi_50_0 : finf Try.prog 50 0 = some (0, 1) := by kernel_rfl
theorem fi_50_1 : finf Try.prog 50 1 = some (1, 1) := by kernel_rfl
theorem si_131 : SInf Try.prog 131 [.slice none 0 0, .int .i64 0, .int .u64 0] := ⟨⟨_, _, Try.underlying131, (show zinf Try.prog 131 = some (.agg #[.slice none 0 0, .int .i64 0, .int .u64 0]) by kernel_rfl), rfl, by kernel_rfl⟩⟩
theorem si_170 : SInf Try.prog 170 [.slice none 0 0, .bool false, .int .i64 0, .int .i64 0] := ⟨⟨_, _, Try.underlying170, (show zinf Try.prog 170 = some (.agg #[.slice none 0 0, .bool false, .int .i64 0, .int .i64 0]) by kernel_rfl), rfl, by kernel_rfl⟩⟩
theorem si_50 : SInf Try.prog 50 [.slice none 0 0, .slice none 0 0] := ⟨⟨_, _, Try.underlying50, (show zinf Try.prog 50 = some (.agg #[.slice none 0 0, .slice none 0 0]) by kernel_rfl), rfl, by kernel_rfl⟩⟩
theorem ti_129 : tinf Try.prog 129 = some (1, false) := by kernel_rfl
theorem ti_170 : tinf Try.prog 170 = some (4, true) := by kernel_rfl
theorem ti_2 : tinf Try.prog 2 = some (1, false) := by kernel_rfl
theorem ti_22 : tinf Try.prog 22 = some (1, false) := by kernel_rfl
theorem ti_27 : tinf Try.prog 27 = some (1, false) := by kernel_rfl
theorem ti_3 : tinf Try.prog 3 = some (1, false) := by kernel_rfl
theorem ti_4 : tinf Try.prog 4 = some (1, false) := by kernel_rfl
theorem ti_5 : tinf Try.prog 5 = some (1, false) := by kernel_rfl
theorem ti_50 : tinf Try.prog 50 = some (2, true) := by kernel_rfl
theorem ti_9 : tinf Try.prog 9 = some (1, false) := by kernel_rfl
theorem zi_170 : zinf Try.prog 170 = some (.agg #[.slice none 0 0, .bool false, .int .i64 0, .int .i64 0]) := by kernel_rfl
theorem zi_2 : zinf Try.prog 2 = some (.int .i64 0) := by kernel_rfl
theorem zi_27 : zinf Try.prog 27 = some (.slice none 0 0) := by kernel_rfl
theorem zi_5 : zinf Try.prog 5 = some (.int .u8 0) := by kernel_rfl
theorem zi_50 : zinf Try.prog 50 = some (.agg #[.slice none 0 0, .slice none 0 0]) := by kernel_rfl
theorem zi_9 : zinf Try.prog 9 = some (.string ⟨#[]⟩) := by kernel_rfl

end Go.Proofs.Ytgojoooilijiiaa
