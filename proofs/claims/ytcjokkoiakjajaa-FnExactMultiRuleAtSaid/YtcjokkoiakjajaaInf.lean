/-
  Facts on the types of the program. No condition.
-/
import Derived.Test.YtcjokkoiakjajaaProg
import Derived.Test.YtcjokkoiakjajaaTy
import Derived.KernelRfl
namespace Go.Proofs.Ytcjokkoiakjajaa
open Go Go.Tc Go.Fn
theorem bi_2 : binf Try.prog 2 = some 8 := by kernel_rfl
theorem bi_71 : binf Try.prog 71 = some 88 := by kernel_rfl
theorem bi_75 : binf Try.prog 75 = some 48 := by kernel_rfl
theorem fi_24_0 : finf Try.prog 24 0 = some (0, 1) := by kernel_rfl
theorem fi_24_1 : finf Try.prog 24 1 = some (1, 1) := by kernel_rfl
theorem fi_24_2 : finf Try.prog 24 2 = some (2, 1) := by kernel_rfl
theorem fi_24_3 : finf Try.prog 24 3 = some (3, 1) := by kernel_rfl
theorem fi_27_0 : finf Try.prog 27 0 = some (0, 1) := by kernel_rfl
theorem fi_27_1 : finf Try.prog 27 1 = some (1, 1) := by kernel_rfl
theorem fi_34_0 : finf Try.prog 34 0 = some (0, 1) := by kernel_rfl
theorem fi_34_1 : finf Try.prog 34 1 = some (1, 1) := by kernel_rfl
theorem fi_34_2 : finf Try.prog 34 2 = some (2, 1) := by kernel_rfl
theorem fi_34_3 : finf Try.prog 34 3 = some (3, 1) := by kernel_rfl
theorem fi_38_0 : finf Try.prog 38 0 = some (0, 1) := by kernel_rfl
theorem fi_38_1 : finf Try.prog 38 1 = some (1, 1) := by kernel_rfl
theorem fi_58_0 : finf Try.prog 58 0 = some (0, 1) := by kernel_rfl
theorem fi_58_1 : finf Try.prog 58 1 = some (1, 3) := by kernel_rfl
theorem fi_65_0 : finf Try.prog 65 0 = some (0, 1) := by kernel_rfl
theorem fi_65_1 : finf Try.prog 65 1 = some (1, 1) := by kernel_rfl
theorem fi_65_2 : finf Try.prog 65 2 = some (2, 1) := by kernel_rfl
theorem fi_65_3 : finf Try.prog 65 3 = some (3, 1) := by kernel_rfl
theorem fi_65_4 : finf Try.prog 65 4 = some (4, 1) := by kernel_rfl
theorem fi_68_0 : finf Try.prog 68 0 = some (0, 1) := by kernel_rfl
theorem fi_68_1 : finf Try.prog 68 1 = some (1, 1) := by kernel_rfl
theorem fi_71_0 : finf Try.prog 71 0 = some (0, 1) := by kernel_rfl
theorem fi_71_1 : finf Try.prog 71 1 = some (1, 1) := by kernel_rfl
theorem fi_71_2 : finf Try.prog 71 2 = some (2, 1) := by kernel_rfl
theorem fi_71_3 : finf Try.prog 71 3 = some (3, 1) := by kernel_rfl
theorem fi_71_4 : finf Try.prog 71 4 = some (4, 1) := by kernel_rfl
theorem fi_75_0 : finf Try.prog 75 0 = some (0, 1) := by kernel_rfl
theorem fi_75_1 : finf Try.prog 75 1 = some (1, 1) := by kernel_rfl
theorem key_58 : KeyOk Try.prog 58 Greading.enc := by
  refine ⟨fun w em x => ?_, ⟨_, Try.underlying58, .inl fun x y => rfl⟩, fun w x y => ?_, fun x => by simp [Greading.enc, Instr.sameBits]⟩
  · show (Instr.checkKey em (9999 + 1) 58 (.agg _)).run Try.prog w = _
    have hc56 : ∀ (w : World) (em : Bool) (c0 c1 c2 : Value), (Instr.checkKey em 9999 56 (.agg #[c0, c1, c2])).run Try.prog w = .ok () w := fun w em c0 c1 c2 => run_checkKey_arr em 9997 56 2 3 _ Try.underlying56 Try.underlying2 (by kernel_rfl) rfl
    rw [run_checkKey_struct w em 9999 58 _ (by kernel_rfl)]
    simp [go_sem, Program.fieldsOf, ckFields, run_checkKey_int _ em 9998 2 .i64 _ Try.underlying2, hc56]
  · obtain ⟨a0, a1, a2, a3⟩ := x
    obtain ⟨b0, b1, b2, b3⟩ := y
    have he56 : ∀ (w : World) (a0 a1 a2 b0 b1 b2 : Int), (Op.equalIn 9999 56 (.agg #[.int .i64 a0, .int .i64 a1, .int .i64 a2]) (.agg #[.int .i64 b0, .int .i64 b1, .int .i64 b2])).run Try.prog w = .ok (a0 == b0 && (a1 == b1 && a2 == b2)) w := fun w a0 a1 a2 b0 b1 b2 => run_equal_arr3 9997 56 2 a0 a1 a2 b0 b1 b2 Try.underlying56 Try.underlying2 (by kernel_rfl)
    refine ⟨decide ((⟨a0, a1, a2, a3⟩ : Greading) = ⟨b0, b1, b2, b3⟩), ?_, by simp⟩
    show (Op.equalIn 10000 58 (.agg _) (.agg _)).run Try.prog w = _
    simp [go_sem, Program.fieldsOf, he56]
    all_goals (repeat (split <;> simp_all))
theorem si_58 : SInf Try.prog 58 [.int .i64 0, .int .i64 0, .int .i64 0, .int .i64 0] := ⟨⟨_, _, Try.underlying58, (show zinf Try.prog 58 = some (.agg #[.int .i64 0, .int .i64 0, .int .i64 0, .int .i64 0]) by kernel_rfl), rfl, by kernel_rfl⟩⟩
theorem ti_2 : tinf Try.prog 2 = some (1, false) := by kernel_rfl
theorem ti_22 : tinf Try.prog 22 = some (1, false) := by kernel_rfl
theorem ti_24 : tinf Try.prog 24 = some (4, true) := by kernel_rfl
theorem ti_25 : tinf Try.prog 25 = some (1, false) := by kernel_rfl
theorem ti_27 : tinf Try.prog 27 = some (2, true) := by kernel_rfl
theorem ti_32 : tinf Try.prog 32 = some (1, false) := by kernel_rfl
theorem ti_34 : tinf Try.prog 34 = some (4, true) := by kernel_rfl
theorem ti_36 : tinf Try.prog 36 = some (1, false) := by kernel_rfl
theorem ti_38 : tinf Try.prog 38 = some (2, true) := by kernel_rfl
theorem ti_58 : tinf Try.prog 58 = some (4, true) := by kernel_rfl
theorem ti_63 : tinf Try.prog 63 = some (1, false) := by kernel_rfl
theorem ti_65 : tinf Try.prog 65 = some (5, true) := by kernel_rfl
theorem ti_68 : tinf Try.prog 68 = some (2, true) := by kernel_rfl
theorem ti_71 : tinf Try.prog 71 = some (5, true) := by kernel_rfl
theorem ti_75 : tinf Try.prog 75 = some (2, true) := by kernel_rfl
theorem zi_2 : zinf Try.prog 2 = some (.int .i64 0) := by kernel_rfl
theorem zi_34 : zinf Try.prog 34 = some (.agg #[.int .i64 0, .int .i64 0, .int .i64 0, .slice none 0 0]) := by kernel_rfl
theorem zi_38 : zinf Try.prog 38 = some (.agg #[.int .i64 0, .slice none 0 0]) := by kernel_rfl
theorem zi_58 : zinf Try.prog 58 = some (.agg #[.int .i64 0, .int .i64 0, .int .i64 0, .int .i64 0]) := by kernel_rfl
theorem zi_71 : zinf Try.prog 71 = some (.agg #[.int .i64 0, .slice none 0 0, .slice none 0 0, .slice none 0 0, .int .i64 0]) := by kernel_rfl
theorem zi_75 : zinf Try.prog 75 = some (.agg #[.slice none 0 0, .slice none 0 0]) := by kernel_rfl

end Go.Proofs.Ytcjokkoiakjajaa
