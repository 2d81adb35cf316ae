/-
  Facts on the types of the program. No condition.
-/
import Derived.Test.YtdfphnelnolkgaaProg
import Derived.Test.YtdfphnelnolkgaaTy
import Derived.KernelRfl
namespace Go.Proofs.Ytdfphnelnolkgaa
open Go Go.Tc Go.Fn
theorem bi_2 : binf Try.prog 2 = some 8 := by kernel_rfl
theorem bi_22 : binf Try.prog 22 = some 24 := by kernel_rfl
theorem bi_29 : binf Try.prog 29 = some 48 := by kernel_rfl
theorem fi_24_0 : finf Try.prog 24 0 = some (0, 1) := by kernel_rfl
theorem fi_24_1 : finf Try.prog 24 1 = some (1, 1) := by kernel_rfl
theorem fi_29_0 : finf Try.prog 29 0 = some (0, 1) := by kernel_rfl
theorem fi_29_1 : finf Try.prog 29 1 = some (1, 1) := by kernel_rfl
theorem si_29 : SInf Try.prog 29 [.slice none 0 0, .slice none 0 0] := ⟨⟨_, _, Try.underlying29, (show zinf Try.prog 29 = some (.agg #[.slice none 0 0, .slice none 0 0]) by kernel_rfl), rfl, by kernel_rfl⟩⟩
theorem ti_2 : tinf Try.prog 2 = some (1, false) := by kernel_rfl
theorem ti_22 : tinf Try.prog 22 = some (1, false) := by kernel_rfl
theorem ti_24 : tinf Try.prog 24 = some (2, true) := by kernel_rfl
theorem ti_29 : tinf Try.prog 29 = some (2, true) := by kernel_rfl
theorem zi_2 : zinf Try.prog 2 = some (.int .i64 0) := by kernel_rfl
theorem zi_22 : zinf Try.prog 22 = some (.slice none 0 0) := by kernel_rfl
theorem zi_29 : zinf Try.prog 29 = some (.agg #[.slice none 0 0, .slice none 0 0]) := by kernel_rfl

end Go.Proofs.Ytdfphnelnolkgaa
