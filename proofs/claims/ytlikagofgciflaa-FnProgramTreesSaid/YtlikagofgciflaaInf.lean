/-
  Facts on the types of the program. No condition.
-/
import Derived.Test.YtlikagofgciflaaProg
import Derived.Test.YtlikagofgciflaaTy
import Derived.KernelRfl
namespace Go.Proofs.Ytlikagofgciflaa
open Go Go.Tc Go.Fn
theorem bi_3 : binf Try.prog 3 = some 8 := by kernel_rfl
theorem bi_4 : binf Try.prog 4 = some 1 := by kernel_rfl
theorem bi_41 : binf Try.prog 41 = some 8 := by kernel_rfl
theorem bi_5 : binf Try.prog 5 = some 1 := by kernel_rfl
theorem bi_52 : binf Try.prog 52 = some 24 := by kernel_rfl
theorem bi_54 : binf Try.prog 54 = some 48 := by kernel_rfl
theorem bi_67 : binf Try.prog 67 = some 16 := by kernel_rfl
theorem bi_9 : binf Try.prog 9 = some 16 := by kernel_rfl
theorem fi_128_0 : finf Try.prog 128 0 = some (0, 1) := by kernel_rfl
theorem fi_128_1 : finf Try.prog 128 1 = some (1, 1) := by kernel_rfl
theorem fi_54_0 : finf Try.prog 54 0 = some (0, 1) := by kernel_rfl
theorem fi_54_1 : finf Try.prog 54 1 = some (1, 1) := by kernel_rfl
theorem fi_54_2 : finf Try.prog 54 2 = some (2, 1) := by kernel_rfl
theorem fi_54_3 : finf Try.prog 54 3 = some (3, 1) := by kernel_rfl
theorem fi_58_0 : finf Try.prog 58 0 = some (0, 1) := by kernel_rfl
theorem fi_58_1 : finf Try.prog 58 1 = some (1, 1) := by kernel_rfl
theorem fi_58_2 : finf Try.prog 58 2 = some (2, 1) := by kernel_rfl
theorem fi_67_0 : finf Try.prog 67 0 = some (0, 1) := by kernel_rfl
theorem fi_67_1 : finf Try.prog 67 1 = some (1, 1) := by kernel_rfl
theorem fi_77_0 : finf Try.prog 77 0 = some (0, 1) := by kernel_rfl
theorem fi_77_1 : finf Try.prog 77 1 = some (1, 1) := by kernel_rfl
theorem fi_77_2 : finf Try.prog 77 2 = some (2, 1) := by kernel_rfl
theorem key_128 : KeyOk Try.prog 128 Gendings.enc := by
 refine ⟨fun w em x => ?_, ⟨_, Try.underlying128, .inl fun x y => rfl⟩, fun w x y => ?_, fun x => by simp [Gendings.enc, Instr.sameBits]⟩
 ·show (Instr.checkKey em (9999 + 1) 128 (.agg _)).run Try.prog w = _
  rw [run_checkKey_struct w em 9999 128 _ (by kernel_rfl)]
  simp [go_sem, Program.fieldsOf, ckFields, run_checkKey_int _ em 9998 2 .i64 _ Try.underlying2]
 ·obtain ⟨a0, a1⟩ := x
  obtain ⟨b0, b1⟩ := y
  refine ⟨decide ((⟨a0, a1⟩ : Gendings) = ⟨b0, b1⟩), ?_, by simp⟩
  show (Op.equalIn 10000 128 (.agg _) (.agg _)).run Try.prog w = _
  simp [go_sem, Program.fieldsOf]
  all_goals (repeat (split <;> simp_all))
theorem ex_neq_seq_67 {n : Fr} {A : Nat → Prop} {w0 : World} {ρ : Env} {Γ : Ctx} {d : Option Nat} {ty : TypeId} {pos : String} {after : Array Edge} {g : Option (Nat × Bool)} {x y : Operand} {u : TypeId} {a0 a1 b0 b1 : Int} (hx : ev ρ x = some (.agg #[.int .i64 a0, .int .i64 a1])) (hy : ev ρ y = some (.agg #[.int .i64 b0, .int .i64 b1])) :
  Ex Try.prog n A w0 ρ Γ ⟨d, .binOp .neq 67 x y u, ty, pos, after, g⟩ (.bool (!(decide ((⟨a0, a1⟩ : GExpr) = ⟨b0, b1⟩)))) := by
 intro a w hs hh
 simp only [execOp, hs.eval hx, hs.eval hy]
 simp [eqGuard, go_sem, Program.fieldsOf]
 by_cases e0 : a0 = b0 <;> simp [e0]
 all_goals (repeat (split <;> simp_all))
theorem si_128 : SInf Try.prog 128 [.int .i64 0, .int .i64 0] := ⟨⟨_, _, Try.underlying128, (show zinf Try.prog 128 = some (.agg #[.int .i64 0, .int .i64 0]) by kernel_rfl), rfl, by kernel_rfl⟩⟩
theorem si_54 : SInf Try.prog 54 [.int .i64 0, .int .i64 0, .int .i64 0, .slice none 0 0] := ⟨⟨_, _, Try.underlying54, (show zinf Try.prog 54 = some (.agg #[.int .i64 0, .int .i64 0, .int .i64 0, .slice none 0 0]) by kernel_rfl), rfl, by kernel_rfl⟩⟩
theorem si_58 : SInf Try.prog 58 [.slice none 0 0, .int .i64 0, .int .u64 0] := ⟨⟨_, _, Try.underlying58, (show zinf Try.prog 58 = some (.agg #[.slice none 0 0, .int .i64 0, .int .u64 0]) by kernel_rfl), rfl, by kernel_rfl⟩⟩
theorem si_67 : SInf Try.prog 67 [.int .i64 0, .int .i64 0] := ⟨⟨_, _, Try.underlying67, (show zinf Try.prog 67 = some (.agg #[.int .i64 0, .int .i64 0]) by kernel_rfl), rfl, by kernel_rfl⟩⟩
theorem si_77 : SInf Try.prog 77 [.pointer none, .pointer none, .int .i64 0] := ⟨⟨_, _, Try.underlying77, (show zinf Try.prog 77 = some (.agg #[.pointer none, .pointer none, .int .i64 0]) by kernel_rfl), rfl, by kernel_rfl⟩⟩
theorem ti_128 : tinf Try.prog 128 = some (2, true) := by kernel_rfl
theorem ti_2 : tinf Try.prog 2 = some (1, false) := by kernel_rfl
theorem ti_22 : tinf Try.prog 22 = some (1, false) := by kernel_rfl
theorem ti_25 : tinf Try.prog 25 = some (1, false) := by kernel_rfl
theorem ti_3 : tinf Try.prog 3 = some (1, false) := by kernel_rfl
theorem ti_4 : tinf Try.prog 4 = some (1, false) := by kernel_rfl
theorem ti_41 : tinf Try.prog 41 = some (1, false) := by kernel_rfl
theorem ti_5 : tinf Try.prog 5 = some (1, false) := by kernel_rfl
theorem ti_50 : tinf Try.prog 50 = some (1, false) := by kernel_rfl
theorem ti_52 : tinf Try.prog 52 = some (1, false) := by kernel_rfl
theorem ti_54 : tinf Try.prog 54 = some (4, true) := by kernel_rfl
theorem ti_56 : tinf Try.prog 56 = some (1, false) := by kernel_rfl
theorem ti_67 : tinf Try.prog 67 = some (2, true) := by kernel_rfl
theorem ti_75 : tinf Try.prog 75 = some (1, false) := by kernel_rfl
theorem ti_77 : tinf Try.prog 77 = some (3, true) := by kernel_rfl
theorem ti_9 : tinf Try.prog 9 = some (1, false) := by kernel_rfl
theorem ti_92 : tinf Try.prog 92 = some (1, false) := by kernel_rfl
theorem zi_128 : zinf Try.prog 128 = some (.agg #[.int .i64 0, .int .i64 0]) := by kernel_rfl
theorem zi_2 : zinf Try.prog 2 = some (.int .i64 0) := by kernel_rfl
theorem zi_25 : zinf Try.prog 25 = some (.slice none 0 0) := by kernel_rfl
theorem zi_3 : zinf Try.prog 3 = some (.int .i64 0) := by kernel_rfl
theorem zi_4 : zinf Try.prog 4 = some (.bool false) := by kernel_rfl
theorem zi_41 : zinf Try.prog 41 = some (.pointer none) := by kernel_rfl
theorem zi_5 : zinf Try.prog 5 = some (.int .u8 0) := by kernel_rfl
theorem zi_50 : zinf Try.prog 50 = some (.nilFunc) := by kernel_rfl
theorem zi_52 : zinf Try.prog 52 = some (.slice none 0 0) := by kernel_rfl
theorem zi_54 : zinf Try.prog 54 = some (.agg #[.int .i64 0, .int .i64 0, .int .i64 0, .slice none 0 0]) := by kernel_rfl
theorem zi_67 : zinf Try.prog 67 = some (.agg #[.int .i64 0, .int .i64 0]) := by kernel_rfl
theorem zi_75 : zinf Try.prog 75 = some (.nilFunc) := by kernel_rfl
theorem zi_9 : zinf Try.prog 9 = some (.string ⟨#[]⟩) := by kernel_rfl
theorem zi_92 : zinf Try.prog 92 = some (.slice none 0 0) := by kernel_rfl
end Go.Proofs.Ytlikagofgciflaa
