/-
  Facts on the types of the program. No condition.
-/
import Derived.Test.YtafjflnnkdbmdaaProg
import Derived.Test.YtafjflnnkdbmdaaTy
import Derived.KernelRfl
namespace Go.Proofs.Ytafjflnnkdbmdaa
open Go Go.Tc Go.Fn
theorem bi_2 : binf Try.prog 2 = some 8 := by kernel_rfl
theorem bi_55 : binf Try.prog 55 = some 64 := by kernel_rfl
theorem bi_64 : binf Try.prog 64 = some 24 := by kernel_rfl
theorem bi_69 : binf Try.prog 69 = some 88 := by kernel_rfl
theorem bi_91 : binf Try.prog 91 = some 24 := by kernel_rfl
theorem fi_104_0 : finf Try.prog 104 0 = some (0, 1) := by kernel_rfl
theorem fi_104_1 : finf Try.prog 104 1 = some (1, 3) := by kernel_rfl
theorem fi_107_0 : finf Try.prog 107 0 = some (0, 1) := by kernel_rfl
theorem fi_107_1 : finf Try.prog 107 1 = some (1, 1) := by kernel_rfl
theorem fi_107_2 : finf Try.prog 107 2 = some (2, 8) := by kernel_rfl
theorem fi_107_3 : finf Try.prog 107 3 = some (10, 1) := by kernel_rfl
theorem fi_24_0 : finf Try.prog 24 0 = some (0, 1) := by kernel_rfl
theorem fi_24_1 : finf Try.prog 24 1 = some (1, 1) := by kernel_rfl
theorem fi_24_2 : finf Try.prog 24 2 = some (2, 1) := by kernel_rfl
theorem fi_24_3 : finf Try.prog 24 3 = some (3, 1) := by kernel_rfl
theorem fi_28_0 : finf Try.prog 28 0 = some (0, 1) := by kernel_rfl
theorem fi_28_1 : finf Try.prog 28 1 = some (1, 1) := by kernel_rfl
theorem fi_28_2 : finf Try.prog 28 2 = some (2, 1) := by kernel_rfl
theorem fi_33_0 : finf Try.prog 33 0 = some (0, 1) := by kernel_rfl
theorem fi_33_1 : finf Try.prog 33 1 = some (1, 1) := by kernel_rfl
theorem fi_33_2 : finf Try.prog 33 2 = some (2, 1) := by kernel_rfl
theorem fi_33_3 : finf Try.prog 33 3 = some (3, 1) := by kernel_rfl
theorem fi_49_1 : finf Try.prog 49 1 = some (1, 1) := by kernel_rfl
theorem fi_49_2 : finf Try.prog 49 2 = some (2, 1) := by kernel_rfl
theorem fi_49_3 : finf Try.prog 49 3 = some (3, 1) := by kernel_rfl
theorem fi_49_4 : finf Try.prog 49 4 = some (4, 3) := by kernel_rfl
theorem fi_55_0 : finf Try.prog 55 0 = some (0, 1) := by kernel_rfl
theorem fi_55_1 : finf Try.prog 55 1 = some (1, 1) := by kernel_rfl
theorem fi_55_2 : finf Try.prog 55 2 = some (2, 1) := by kernel_rfl
theorem fi_55_3 : finf Try.prog 55 3 = some (3, 1) := by kernel_rfl
theorem fi_55_4 : finf Try.prog 55 4 = some (4, 3) := by kernel_rfl
theorem fi_55_5 : finf Try.prog 55 5 = some (7, 1) := by kernel_rfl
theorem fi_66_0 : finf Try.prog 66 0 = some (0, 1) := by kernel_rfl
theorem fi_66_1 : finf Try.prog 66 1 = some (1, 1) := by kernel_rfl
theorem fi_66_2 : finf Try.prog 66 2 = some (2, 1) := by kernel_rfl
theorem fi_66_3 : finf Try.prog 66 3 = some (3, 1) := by kernel_rfl
theorem fi_66_4 : finf Try.prog 66 4 = some (4, 1) := by kernel_rfl
theorem fi_69_0 : finf Try.prog 69 0 = some (0, 1) := by kernel_rfl
theorem fi_69_1 : finf Try.prog 69 1 = some (1, 1) := by kernel_rfl
theorem fi_69_2 : finf Try.prog 69 2 = some (2, 1) := by kernel_rfl
theorem fi_69_3 : finf Try.prog 69 3 = some (3, 1) := by kernel_rfl
theorem fi_69_4 : finf Try.prog 69 4 = some (4, 1) := by kernel_rfl
theorem fi_80_0 : finf Try.prog 80 0 = some (0, 3) := by kernel_rfl
theorem fi_80_1 : finf Try.prog 80 1 = some (3, 1) := by kernel_rfl
theorem fi_80_2 : finf Try.prog 80 2 = some (4, 1) := by kernel_rfl
theorem fi_85_0 : finf Try.prog 85 0 = some (0, 4) := by kernel_rfl
theorem fi_85_1 : finf Try.prog 85 1 = some (4, 1) := by kernel_rfl
theorem fi_91_0 : finf Try.prog 91 0 = some (0, 1) := by kernel_rfl
theorem fi_91_1 : finf Try.prog 91 1 = some (1, 1) := by kernel_rfl
theorem fi_91_2 : finf Try.prog 91 2 = some (2, 1) := by kernel_rfl
theorem fi_96_0 : finf Try.prog 96 0 = some (0, 1) := by kernel_rfl
theorem fi_96_1 : finf Try.prog 96 1 = some (1, 1) := by kernel_rfl
theorem fi_96_2 : finf Try.prog 96 2 = some (2, 1) := by kernel_rfl
theorem fi_96_3 : finf Try.prog 96 3 = some (3, 1) := by kernel_rfl
theorem key_104 : KeyOk Try.prog 104 Greading.enc := by
  refine ⟨fun w em x => ?_, ⟨_, Try.underlying104, .inl fun x y => rfl⟩, fun w x y => ?_, fun x => by simp [Greading.enc, Instr.sameBits]⟩
  · show (Instr.checkKey em (9999 + 1) 104 (.agg _)).run Try.prog w = _
    have hc53 : ∀ (w : World) (em : Bool) (c0 c1 c2 : Value), (Instr.checkKey em 9999 53 (.agg #[c0, c1, c2])).run Try.prog w = .ok () w := fun w em c0 c1 c2 => run_checkKey_arr em 9997 53 2 3 _ Try.underlying53 Try.underlying2 (by kernel_rfl) rfl
    rw [run_checkKey_struct w em 9999 104 _ (by kernel_rfl)]
    simp [go_sem, Program.fieldsOf, ckFields, run_checkKey_int _ em 9998 2 .i64 _ Try.underlying2, hc53]
  · obtain ⟨a0, a1, a2, a3⟩ := x
    obtain ⟨b0, b1, b2, b3⟩ := y
    have he53 : ∀ (w : World) (a0 a1 a2 b0 b1 b2 : Int), (Op.equalIn 9999 53 (.agg #[.int .i64 a0, .int .i64 a1, .int .i64 a2]) (.agg #[.int .i64 b0, .int .i64 b1, .int .i64 b2])).run Try.prog w = .ok (a0 == b0 && (a1 == b1 && a2 == b2)) w := fun w a0 a1 a2 b0 b1 b2 => run_equal_arr3 9997 53 2 a0 a1 a2 b0 b1 b2 Try.underlying53 Try.underlying2 (by kernel_rfl)
    refine ⟨decide ((⟨a0, a1, a2, a3⟩ : Greading) = ⟨b0, b1, b2, b3⟩), ?_, by simp⟩
    show (Op.equalIn 10000 104 (.agg _) (.agg _)).run Try.prog w = _
    simp [go_sem, Program.fieldsOf, he53]
    all_goals (repeat (split <;> simp_all))
theorem key_55 : KeyOk Try.prog 55 GmultiPlace.enc := by
  refine ⟨fun w em x => ?_, ⟨_, Try.underlying55, .inl fun x y => rfl⟩, fun w x y => ?_, fun x => by simp [GmultiPlace.enc, Instr.sameBits]⟩
  · show (Instr.checkKey em (9999 + 1) 55 (.agg _)).run Try.prog w = _
    have hc53 : ∀ (w : World) (em : Bool) (c0 c1 c2 : Value), (Instr.checkKey em 9999 53 (.agg #[c0, c1, c2])).run Try.prog w = .ok () w := fun w em c0 c1 c2 => run_checkKey_arr em 9997 53 2 3 _ Try.underlying53 Try.underlying2 (by kernel_rfl) rfl
    rw [run_checkKey_struct w em 9999 55 _ (by kernel_rfl)]
    simp [go_sem, Program.fieldsOf, ckFields, run_checkKey_int _ em 9998 2 .i64 _ Try.underlying2, hc53]
  · obtain ⟨a0, a1, a2, a3, a4, a5, a6, a7⟩ := x
    obtain ⟨b0, b1, b2, b3, b4, b5, b6, b7⟩ := y
    have he53 : ∀ (w : World) (a0 a1 a2 b0 b1 b2 : Int), (Op.equalIn 9999 53 (.agg #[.int .i64 a0, .int .i64 a1, .int .i64 a2]) (.agg #[.int .i64 b0, .int .i64 b1, .int .i64 b2])).run Try.prog w = .ok (a0 == b0 && (a1 == b1 && a2 == b2)) w := fun w a0 a1 a2 b0 b1 b2 => run_equal_arr3 9997 53 2 a0 a1 a2 b0 b1 b2 Try.underlying53 Try.underlying2 (by kernel_rfl)
    refine ⟨decide ((⟨a0, a1, a2, a3, a4, a5, a6, a7⟩ : GmultiPlace) = ⟨b0, b1, b2, b3, b4, b5, b6, b7⟩), ?_, by simp⟩
    show (Op.equalIn 10000 55 (.agg _) (.agg _)).run Try.prog w = _
    simp [go_sem, Program.fieldsOf, he53]
    all_goals (repeat (split <;> simp_all))
theorem si_104 : SInf Try.prog 104 [.int .i64 0, .int .i64 0, .int .i64 0, .int .i64 0] := ⟨⟨_, _, Try.underlying104, (show zinf Try.prog 104 = some (.agg #[.int .i64 0, .int .i64 0, .int .i64 0, .int .i64 0]) by kernel_rfl), rfl, by kernel_rfl⟩⟩
theorem si_107 : SInf Try.prog 107 [.int .i64 0, .int .i64 0, .int .i64 0, .int .i64 0, .int .i64 0, .int .i64 0, .int .i64 0, .int .i64 0, .int .i64 0, .int .i64 0, .bool false] := ⟨⟨_, _, Try.underlying107, (show zinf Try.prog 107 = some (.agg #[.int .i64 0, .int .i64 0, .int .i64 0, .int .i64 0, .int .i64 0, .int .i64 0, .int .i64 0, .int .i64 0, .int .i64 0, .int .i64 0, .bool false]) by kernel_rfl), rfl, by kernel_rfl⟩⟩
theorem si_28 : SInf Try.prog 28 [.int .i64 0, .int .i64 0, .slice none 0 0] := ⟨⟨_, _, Try.underlying28, (show zinf Try.prog 28 = some (.agg #[.int .i64 0, .int .i64 0, .slice none 0 0]) by kernel_rfl), rfl, by kernel_rfl⟩⟩
theorem si_49 : SInf Try.prog 49 [.pointer none, .pointer none, .int .i64 0, .slice none 0 0, .int .i64 0, .int .i64 0, .slice none 0 0] := ⟨⟨_, _, Try.underlying49, (show zinf Try.prog 49 = some (.agg #[.pointer none, .pointer none, .int .i64 0, .slice none 0 0, .int .i64 0, .int .i64 0, .slice none 0 0]) by kernel_rfl), rfl, by kernel_rfl⟩⟩
theorem si_55 : SInf Try.prog 55 [.int .i64 0, .int .i64 0, .int .i64 0, .int .i64 0, .int .i64 0, .int .i64 0, .int .i64 0, .int .i64 0] := ⟨⟨_, _, Try.underlying55, (show zinf Try.prog 55 = some (.agg #[.int .i64 0, .int .i64 0, .int .i64 0, .int .i64 0, .int .i64 0, .int .i64 0, .int .i64 0, .int .i64 0]) by kernel_rfl), rfl, by kernel_rfl⟩⟩
theorem si_80 : SInf Try.prog 80 [.int .i64 0, .int .i64 0, .slice none 0 0, .slice none 0 0, .map none] := ⟨⟨_, _, Try.underlying80, (show zinf Try.prog 80 = some (.agg #[.int .i64 0, .int .i64 0, .slice none 0 0, .slice none 0 0, .map none]) by kernel_rfl), rfl, by kernel_rfl⟩⟩
theorem si_85 : SInf Try.prog 85 [.int .i64 0, .int .i64 0, .int .i64 0, .slice none 0 0, .map none] := ⟨⟨_, _, Try.underlying85, (show zinf Try.prog 85 = some (.agg #[.int .i64 0, .int .i64 0, .int .i64 0, .slice none 0 0, .map none]) by kernel_rfl), rfl, by kernel_rfl⟩⟩
theorem si_91 : SInf Try.prog 91 [.int .i64 0, .int .i64 0, .int .i64 0] := ⟨⟨_, _, Try.underlying91, (show zinf Try.prog 91 = some (.agg #[.int .i64 0, .int .i64 0, .int .i64 0]) by kernel_rfl), rfl, by kernel_rfl⟩⟩
theorem si_96 : SInf Try.prog 96 [.bool false, .int .i64 0, .int .i64 0, .slice none 0 0] := ⟨⟨_, _, Try.underlying96, (show zinf Try.prog 96 = some (.agg #[.bool false, .int .i64 0, .int .i64 0, .slice none 0 0]) by kernel_rfl), rfl, by kernel_rfl⟩⟩
theorem ti_104 : tinf Try.prog 104 = some (4, true) := by kernel_rfl
theorem ti_107 : tinf Try.prog 107 = some (11, true) := by kernel_rfl
theorem ti_2 : tinf Try.prog 2 = some (1, false) := by kernel_rfl
theorem ti_22 : tinf Try.prog 22 = some (1, false) := by kernel_rfl
theorem ti_24 : tinf Try.prog 24 = some (4, true) := by kernel_rfl
theorem ti_26 : tinf Try.prog 26 = some (1, false) := by kernel_rfl
theorem ti_28 : tinf Try.prog 28 = some (3, true) := by kernel_rfl
theorem ti_31 : tinf Try.prog 31 = some (1, false) := by kernel_rfl
theorem ti_33 : tinf Try.prog 33 = some (4, true) := by kernel_rfl
theorem ti_4 : tinf Try.prog 4 = some (1, false) := by kernel_rfl
theorem ti_42 : tinf Try.prog 42 = some (1, false) := by kernel_rfl
theorem ti_47 : tinf Try.prog 47 = some (1, false) := by kernel_rfl
theorem ti_55 : tinf Try.prog 55 = some (8, true) := by kernel_rfl
theorem ti_64 : tinf Try.prog 64 = some (1, false) := by kernel_rfl
theorem ti_66 : tinf Try.prog 66 = some (5, true) := by kernel_rfl
theorem ti_69 : tinf Try.prog 69 = some (5, true) := by kernel_rfl
theorem ti_77 : tinf Try.prog 77 = some (1, false) := by kernel_rfl
theorem ti_78 : tinf Try.prog 78 = some (1, false) := by kernel_rfl
theorem ti_82 : tinf Try.prog 82 = some (1, false) := by kernel_rfl
theorem ti_91 : tinf Try.prog 91 = some (3, true) := by kernel_rfl
theorem ti_96 : tinf Try.prog 96 = some (4, true) := by kernel_rfl
theorem zi_104 : zinf Try.prog 104 = some (.agg #[.int .i64 0, .int .i64 0, .int .i64 0, .int .i64 0]) := by kernel_rfl
theorem zi_107 : zinf Try.prog 107 = some (.agg #[.int .i64 0, .int .i64 0, .int .i64 0, .int .i64 0, .int .i64 0, .int .i64 0, .int .i64 0, .int .i64 0, .int .i64 0, .int .i64 0, .bool false]) := by kernel_rfl
theorem zi_2 : zinf Try.prog 2 = some (.int .i64 0) := by kernel_rfl
theorem zi_28 : zinf Try.prog 28 = some (.agg #[.int .i64 0, .int .i64 0, .slice none 0 0]) := by kernel_rfl
theorem zi_33 : zinf Try.prog 33 = some (.agg #[.int .i64 0, .int .i64 0, .int .i64 0, .slice none 0 0]) := by kernel_rfl
theorem zi_55 : zinf Try.prog 55 = some (.agg #[.int .i64 0, .int .i64 0, .int .i64 0, .int .i64 0, .int .i64 0, .int .i64 0, .int .i64 0, .int .i64 0]) := by kernel_rfl
theorem zi_64 : zinf Try.prog 64 = some (.slice none 0 0) := by kernel_rfl
theorem zi_69 : zinf Try.prog 69 = some (.agg #[.int .i64 0, .slice none 0 0, .slice none 0 0, .slice none 0 0, .int .i64 0]) := by kernel_rfl
theorem zi_91 : zinf Try.prog 91 = some (.agg #[.int .i64 0, .int .i64 0, .int .i64 0]) := by kernel_rfl
theorem zi_96 : zinf Try.prog 96 = some (.agg #[.bool false, .int .i64 0, .int .i64 0, .slice none 0 0]) := by kernel_rfl

end Go.Proofs.Ytafjflnnkdbmdaa
