/-
  Facts on the types of the program. No condition.
-/
import Derived.Test.YtekeopjhihdmkaaProg
import Derived.Test.YtekeopjhihdmkaaTy
import Derived.KernelRfl
namespace Go.Proofs.Ytekeopjhihdmkaa
open Go Go.Tc Go.Fn
theorem bi_2 : binf Try.prog 2 = some 8 := by kernel_rfl
theorem bi_25 : binf Try.prog 25 = some 24 := by kernel_rfl
theorem bi_5 : binf Try.prog 5 = some 1 := by kernel_rfl
theorem bi_50 : binf Try.prog 50 = some 48 := by kernel_rfl
theorem bi_57 : binf Try.prog 57 = some 48 := by kernel_rfl
theorem bi_9 : binf Try.prog 9 = some 16 := by kernel_rfl
theorem fi_50_0 : finf Try.prog 50 0 = some (0, 1) := by kernel_rfl
theorem fi_50_1 : finf Try.prog 50 1 = some (1, 1) := by kernel_rfl
theorem fi_57_0 : finf Try.prog 57 0 = some (0, 1) := by kernel_rfl
theorem fi_57_1 : finf Try.prog 57 1 = some (1, 1) := by kernel_rfl
theorem fi_69_0 : finf Try.prog 69 0 = some (0, 1) := by kernel_rfl
theorem fi_69_1 : finf Try.prog 69 1 = some (1, 1) := by kernel_rfl
theorem fi_69_2 : finf Try.prog 69 2 = some (2, 1) := by kernel_rfl
theorem si_50 : SInf Try.prog 50 [.slice none 0 0, .slice none 0 0] := ⟨⟨_, _, Try.underlying50, (show zinf Try.prog 50 = some (.agg #[.slice none 0 0, .slice none 0 0]) by kernel_rfl), rfl, by kernel_rfl⟩⟩
theorem si_57 : SInf Try.prog 57 [.slice none 0 0, .slice none 0 0] := ⟨⟨_, _, Try.underlying57, (show zinf Try.prog 57 = some (.agg #[.slice none 0 0, .slice none 0 0]) by kernel_rfl), rfl, by kernel_rfl⟩⟩
theorem si_69 : SInf Try.prog 69 [.slice none 0 0, .int .i64 0, .int .u64 0] := ⟨⟨_, _, Try.underlying69, (show zinf Try.prog 69 = some (.agg #[.slice none 0 0, .int .i64 0, .int .u64 0]) by kernel_rfl), rfl, by kernel_rfl⟩⟩
theorem ti_2 : tinf Try.prog 2 = some (1, false) := by kernel_rfl
theorem ti_22 : tinf Try.prog 22 = some (1, false) := by kernel_rfl
theorem ti_25 : tinf Try.prog 25 = some (1, false) := by kernel_rfl
theorem ti_3 : tinf Try.prog 3 = some (1, false) := by kernel_rfl
theorem ti_5 : tinf Try.prog 5 = some (1, false) := by kernel_rfl
theorem ti_50 : tinf Try.prog 50 = some (2, true) := by kernel_rfl
theorem ti_57 : tinf Try.prog 57 = some (2, true) := by kernel_rfl
theorem ti_67 : tinf Try.prog 67 = some (1, false) := by kernel_rfl
theorem ti_9 : tinf Try.prog 9 = some (1, false) := by kernel_rfl
theorem zi_2 : zinf Try.prog 2 = some (.int .i64 0) := by kernel_rfl
theorem zi_25 : zinf Try.prog 25 = some (.slice none 0 0) := by kernel_rfl
theorem zi_5 : zinf Try.prog 5 = some (.int .u8 0) := by kernel_rfl
theorem zi_50 : zinf Try.prog 50 = some (.agg #[.slice none 0 0, .slice none 0 0]) := by kernel_rfl
theorem zi_57 : zinf Try.prog 57 = some (.agg #[.slice none 0 0, .slice none 0 0]) := by kernel_rfl
theorem zi_9 : zinf Try.prog 9 = some (.string ⟨#[]⟩) := by kernel_rfl

end Go.Proofs.Ytekeopjhihdmkaa
