/-
  Facts on the types of the program. No condition.
-/
import Derived.Test.YtomiabeodgcmcaaProg
import Derived.Test.YtomiabeodgcmcaaTy
import Derived.KernelRfl
namespace Go.Proofs.Ytomiabeodgcmcaa
open Go Go.Tc Go.Fn
theorem bi_2 : binf Try.prog 2 = some 8 := by kernel_rfl
theorem bi_32 : binf Try.prog 32 = some 32 := by kernel_rfl
theorem bi_68 : binf Try.prog 68 = some 88 := by kernel_rfl
theorem bi_91 : binf Try.prog 91 = some 48 := by kernel_rfl
theorem fi_101_0 : finf Try.prog 101 0 = some (0, 1) := by kernel_rfl
theorem fi_101_1 : finf Try.prog 101 1 = some (1, 3) := by kernel_rfl
theorem fi_24_0 : finf Try.prog 24 0 = some (0, 1) := by kernel_rfl
theorem fi_24_1 : finf Try.prog 24 1 = some (1, 1) := by kernel_rfl
theorem fi_24_2 : finf Try.prog 24 2 = some (2, 1) := by kernel_rfl
theorem fi_24_3 : finf Try.prog 24 3 = some (3, 1) := by kernel_rfl
theorem fi_27_0 : finf Try.prog 27 0 = some (0, 1) := by kernel_rfl
theorem fi_27_1 : finf Try.prog 27 1 = some (1, 1) := by kernel_rfl
theorem fi_32_0 : finf Try.prog 32 0 = some (0, 1) := by kernel_rfl
theorem fi_32_1 : finf Try.prog 32 1 = some (1, 1) := by kernel_rfl
theorem fi_37_0 : finf Try.prog 37 0 = some (0, 1) := by kernel_rfl
theorem fi_37_1 : finf Try.prog 37 1 = some (1, 1) := by kernel_rfl
theorem fi_37_2 : finf Try.prog 37 2 = some (2, 1) := by kernel_rfl
theorem fi_37_3 : finf Try.prog 37 3 = some (3, 1) := by kernel_rfl
theorem fi_68_0 : finf Try.prog 68 0 = some (0, 1) := by kernel_rfl
theorem fi_68_1 : finf Try.prog 68 1 = some (1, 1) := by kernel_rfl
theorem fi_68_2 : finf Try.prog 68 2 = some (2, 1) := by kernel_rfl
theorem fi_68_3 : finf Try.prog 68 3 = some (3, 1) := by kernel_rfl
theorem fi_68_4 : finf Try.prog 68 4 = some (4, 1) := by kernel_rfl
theorem fi_83_0 : finf Try.prog 83 0 = some (0, 1) := by kernel_rfl
theorem fi_83_1 : finf Try.prog 83 1 = some (1, 1) := by kernel_rfl
theorem fi_83_2 : finf Try.prog 83 2 = some (2, 1) := by kernel_rfl
theorem fi_83_3 : finf Try.prog 83 3 = some (3, 1) := by kernel_rfl
theorem fi_83_4 : finf Try.prog 83 4 = some (4, 1) := by kernel_rfl
theorem fi_86_0 : finf Try.prog 86 0 = some (0, 1) := by kernel_rfl
theorem fi_86_1 : finf Try.prog 86 1 = some (1, 1) := by kernel_rfl
theorem fi_91_0 : finf Try.prog 91 0 = some (0, 1) := by kernel_rfl
theorem fi_91_1 : finf Try.prog 91 1 = some (1, 1) := by kernel_rfl
theorem key_101 : KeyOk Try.prog 101 Greading.enc := by
  refine ⟨fun w em x => ?_, ⟨_, Try.underlying101, .inl fun x y => rfl⟩, fun w x y => ?_, fun x => by simp [Greading.enc, Instr.sameBits]⟩
  · show (Instr.checkKey em (9999 + 1) 101 (.agg _)).run Try.prog w = _
    have hc99 : ∀ (w : World) (em : Bool) (c0 c1 c2 : Value), (Instr.checkKey em 9999 99 (.agg #[c0, c1, c2])).run Try.prog w = .ok () w := fun w em c0 c1 c2 => run_checkKey_arr em 9997 99 2 3 _ Try.underlying99 Try.underlying2 (by kernel_rfl) rfl
    rw [run_checkKey_struct w em 9999 101 _ (by kernel_rfl)]
    simp [go_sem, Program.fieldsOf, ckFields, run_checkKey_int _ em 9998 2 .i64 _ Try.underlying2, hc99]
  · obtain ⟨a0, a1, a2, a3⟩ := x
    obtain ⟨b0, b1, b2, b3⟩ := y
    have he99 : ∀ (w : World) (a0 a1 a2 b0 b1 b2 : Int), (Op.equalIn 9999 99 (.agg #[.int .i64 a0, .int .i64 a1, .int .i64 a2]) (.agg #[.int .i64 b0, .int .i64 b1, .int .i64 b2])).run Try.prog w = .ok (a0 == b0 && (a1 == b1 && a2 == b2)) w := fun w a0 a1 a2 b0 b1 b2 => run_equal_arr3 9997 99 2 a0 a1 a2 b0 b1 b2 Try.underlying99 Try.underlying2 (by kernel_rfl)
    refine ⟨decide ((⟨a0, a1, a2, a3⟩ : Greading) = ⟨b0, b1, b2, b3⟩), ?_, by simp⟩
    show (Op.equalIn 10000 101 (.agg _) (.agg _)).run Try.prog w = _
    simp [go_sem, Program.fieldsOf, he99]
    all_goals (repeat (split <;> simp_all))
theorem si_101 : SInf Try.prog 101 [.int .i64 0, .int .i64 0, .int .i64 0, .int .i64 0] := ⟨⟨_, _, Try.underlying101, (show zinf Try.prog 101 = some (.agg #[.int .i64 0, .int .i64 0, .int .i64 0, .int .i64 0]) by kernel_rfl), rfl, by kernel_rfl⟩⟩
theorem si_32 : SInf Try.prog 32 [.int .i64 0, .slice none 0 0] := ⟨⟨_, _, Try.underlying32, (show zinf Try.prog 32 = some (.agg #[.int .i64 0, .slice none 0 0]) by kernel_rfl), rfl, by kernel_rfl⟩⟩
theorem si_91 : SInf Try.prog 91 [.slice none 0 0, .slice none 0 0] := ⟨⟨_, _, Try.underlying91, (show zinf Try.prog 91 = some (.agg #[.slice none 0 0, .slice none 0 0]) by kernel_rfl), rfl, by kernel_rfl⟩⟩
theorem ti_101 : tinf Try.prog 101 = some (4, true) := by kernel_rfl
theorem ti_2 : tinf Try.prog 2 = some (1, false) := by kernel_rfl
theorem ti_22 : tinf Try.prog 22 = some (1, false) := by kernel_rfl
theorem ti_24 : tinf Try.prog 24 = some (4, true) := by kernel_rfl
theorem ti_25 : tinf Try.prog 25 = some (1, false) := by kernel_rfl
theorem ti_27 : tinf Try.prog 27 = some (2, true) := by kernel_rfl
theorem ti_30 : tinf Try.prog 30 = some (1, false) := by kernel_rfl
theorem ti_32 : tinf Try.prog 32 = some (2, true) := by kernel_rfl
theorem ti_35 : tinf Try.prog 35 = some (1, false) := by kernel_rfl
theorem ti_37 : tinf Try.prog 37 = some (4, true) := by kernel_rfl
theorem ti_48 : tinf Try.prog 48 = some (1, false) := by kernel_rfl
theorem ti_66 : tinf Try.prog 66 = some (1, false) := by kernel_rfl
theorem ti_68 : tinf Try.prog 68 = some (5, true) := by kernel_rfl
theorem ti_83 : tinf Try.prog 83 = some (5, true) := by kernel_rfl
theorem ti_86 : tinf Try.prog 86 = some (2, true) := by kernel_rfl
theorem ti_91 : tinf Try.prog 91 = some (2, true) := by kernel_rfl
theorem zi_101 : zinf Try.prog 101 = some (.agg #[.int .i64 0, .int .i64 0, .int .i64 0, .int .i64 0]) := by kernel_rfl
theorem zi_2 : zinf Try.prog 2 = some (.int .i64 0) := by kernel_rfl
theorem zi_32 : zinf Try.prog 32 = some (.agg #[.int .i64 0, .slice none 0 0]) := by kernel_rfl
theorem zi_37 : zinf Try.prog 37 = some (.agg #[.int .i64 0, .int .i64 0, .int .i64 0, .slice none 0 0]) := by kernel_rfl
theorem zi_48 : zinf Try.prog 48 = some (.slice none 0 0) := by kernel_rfl
theorem zi_66 : zinf Try.prog 66 = some (.slice none 0 0) := by kernel_rfl
theorem zi_68 : zinf Try.prog 68 = some (.agg #[.int .i64 0, .slice none 0 0, .slice none 0 0, .slice none 0 0, .int .i64 0]) := by kernel_rfl
theorem zi_91 : zinf Try.prog 91 = some (.agg #[.slice none 0 0, .slice none 0 0]) := by kernel_rfl

end Go.Proofs.Ytomiabeodgcmcaa
