/-
  Facts on the types of the program. No condition.
-/
import Derived.Test.YtceimgjcikkadaaProg
import Derived.Test.YtceimgjcikkadaaTy
import Derived.KernelRfl
namespace Go.Proofs.Ytceimgjcikkadaa
open Go Go.Tc Go.Fn
theorem bi_2 : binf Try.prog 2 = some 8 := by kernel_rfl
theorem bi_35 : binf Try.prog 35 = some 24 := by kernel_rfl
theorem bi_60 : binf Try.prog 60 = some 32 := by kernel_rfl
theorem bi_68 : binf Try.prog 68 = some 24 := by kernel_rfl
theorem bi_97 : binf Try.prog 97 = some 24 := by kernel_rfl
theorem fi_100_0 : finf Try.prog 100 0 = some (0, 1) := by kernel_rfl
theorem fi_100_1 : finf Try.prog 100 1 = some (1, 1) := by kernel_rfl
theorem fi_100_2 : finf Try.prog 100 2 = some (2, 1) := by kernel_rfl
theorem fi_107_0 : finf Try.prog 107 0 = some (0, 1) := by kernel_rfl
theorem fi_107_1 : finf Try.prog 107 1 = some (1, 1) := by kernel_rfl
theorem fi_107_2 : finf Try.prog 107 2 = some (2, 4) := by kernel_rfl
theorem fi_107_3 : finf Try.prog 107 3 = some (6, 1) := by kernel_rfl
theorem fi_115_0 : finf Try.prog 115 0 = some (0, 3) := by kernel_rfl
theorem fi_115_1 : finf Try.prog 115 1 = some (3, 1) := by kernel_rfl
theorem fi_115_2 : finf Try.prog 115 2 = some (4, 1) := by kernel_rfl
theorem fi_118_0 : finf Try.prog 118 0 = some (0, 1) := by kernel_rfl
theorem fi_118_1 : finf Try.prog 118 1 = some (1, 1) := by kernel_rfl
theorem fi_118_2 : finf Try.prog 118 2 = some (2, 3) := by kernel_rfl
theorem fi_118_3 : finf Try.prog 118 3 = some (5, 1) := by kernel_rfl
theorem fi_129_0 : finf Try.prog 129 0 = some (0, 1) := by kernel_rfl
theorem fi_129_1 : finf Try.prog 129 1 = some (1, 1) := by kernel_rfl
theorem fi_129_2 : finf Try.prog 129 2 = some (2, 1) := by kernel_rfl
theorem fi_129_3 : finf Try.prog 129 3 = some (3, 1) := by kernel_rfl
theorem fi_144_0 : finf Try.prog 144 0 = some (0, 1) := by kernel_rfl
theorem fi_144_1 : finf Try.prog 144 1 = some (1, 1) := by kernel_rfl
theorem fi_144_3 : finf Try.prog 144 3 = some (3, 1) := by kernel_rfl
theorem fi_150_0 : finf Try.prog 150 0 = some (0, 1) := by kernel_rfl
theorem fi_150_1 : finf Try.prog 150 1 = some (1, 1) := by kernel_rfl
theorem fi_150_2 : finf Try.prog 150 2 = some (2, 1) := by kernel_rfl
theorem fi_150_3 : finf Try.prog 150 3 = some (3, 1) := by kernel_rfl
theorem fi_150_4 : finf Try.prog 150 4 = some (4, 1) := by kernel_rfl
theorem fi_24_0 : finf Try.prog 24 0 = some (0, 1) := by kernel_rfl
theorem fi_24_1 : finf Try.prog 24 1 = some (1, 1) := by kernel_rfl
theorem fi_24_2 : finf Try.prog 24 2 = some (2, 1) := by kernel_rfl
theorem fi_28_0 : finf Try.prog 28 0 = some (0, 1) := by kernel_rfl
theorem fi_28_1 : finf Try.prog 28 1 = some (1, 1) := by kernel_rfl
theorem fi_28_2 : finf Try.prog 28 2 = some (2, 1) := by kernel_rfl
theorem fi_37_0 : finf Try.prog 37 0 = some (0, 1) := by kernel_rfl
theorem fi_37_1 : finf Try.prog 37 1 = some (1, 1) := by kernel_rfl
theorem fi_37_2 : finf Try.prog 37 2 = some (2, 1) := by kernel_rfl
theorem fi_39_0 : finf Try.prog 39 0 = some (0, 1) := by kernel_rfl
theorem fi_39_1 : finf Try.prog 39 1 = some (1, 1) := by kernel_rfl
theorem fi_39_2 : finf Try.prog 39 2 = some (2, 1) := by kernel_rfl
theorem fi_55_0 : finf Try.prog 55 0 = some (0, 1) := by kernel_rfl
theorem fi_55_2 : finf Try.prog 55 2 = some (2, 1) := by kernel_rfl
theorem fi_55_3 : finf Try.prog 55 3 = some (3, 1) := by kernel_rfl
theorem fi_55_4 : finf Try.prog 55 4 = some (4, 3) := by kernel_rfl
theorem fi_60_0 : finf Try.prog 60 0 = some (0, 1) := by kernel_rfl
theorem fi_60_1 : finf Try.prog 60 1 = some (1, 1) := by kernel_rfl
theorem fi_60_2 : finf Try.prog 60 2 = some (2, 1) := by kernel_rfl
theorem fi_60_3 : finf Try.prog 60 3 = some (3, 1) := by kernel_rfl
theorem fi_68_0 : finf Try.prog 68 0 = some (0, 1) := by kernel_rfl
theorem fi_68_1 : finf Try.prog 68 1 = some (1, 1) := by kernel_rfl
theorem fi_68_2 : finf Try.prog 68 2 = some (2, 1) := by kernel_rfl
theorem fi_92_0 : finf Try.prog 92 0 = some (0, 3) := by kernel_rfl
theorem fi_92_1 : finf Try.prog 92 1 = some (3, 1) := by kernel_rfl
theorem fi_92_2 : finf Try.prog 92 2 = some (4, 1) := by kernel_rfl
theorem fi_97_0 : finf Try.prog 97 0 = some (0, 1) := by kernel_rfl
theorem fi_97_1 : finf Try.prog 97 1 = some (1, 1) := by kernel_rfl
theorem fi_97_2 : finf Try.prog 97 2 = some (2, 1) := by kernel_rfl
theorem key_60 : KeyOk Try.prog 60 GbitPlace.enc := by
  refine ⟨fun w em x => ?_, ⟨_, Try.underlying60, .inl fun x y => rfl⟩, fun w x y => ?_, fun x => by simp [GbitPlace.enc, Instr.sameBits]⟩
  · show (Instr.checkKey em (9999 + 1) 60 (.agg _)).run Try.prog w = _
    rw [run_checkKey_struct w em 9999 60 _ (by kernel_rfl)]
    simp [go_sem, Program.fieldsOf, ckFields, run_checkKey_int _ em 9998 2 .i64 _ Try.underlying2]
  · obtain ⟨a0, a1, a2, a3⟩ := x
    obtain ⟨b0, b1, b2, b3⟩ := y
    refine ⟨decide ((⟨a0, a1, a2, a3⟩ : GbitPlace) = ⟨b0, b1, b2, b3⟩), ?_, by simp⟩
    show (Op.equalIn 10000 60 (.agg _) (.agg _)).run Try.prog w = _
    simp [go_sem, Program.fieldsOf]
    all_goals (repeat (split <;> simp_all))
theorem key_68 : KeyOk Try.prog 68 GfoldPlace.enc := by
  refine ⟨fun w em x => ?_, ⟨_, Try.underlying68, .inl fun x y => rfl⟩, fun w x y => ?_, fun x => by simp [GfoldPlace.enc, Instr.sameBits]⟩
  · show (Instr.checkKey em (9999 + 1) 68 (.agg _)).run Try.prog w = _
    rw [run_checkKey_struct w em 9999 68 _ (by kernel_rfl)]
    simp [go_sem, Program.fieldsOf, ckFields, run_checkKey_int _ em 9998 2 .i64 _ Try.underlying2]
  · obtain ⟨a0, a1, a2⟩ := x
    obtain ⟨b0, b1, b2⟩ := y
    refine ⟨decide ((⟨a0, a1, a2⟩ : GfoldPlace) = ⟨b0, b1, b2⟩), ?_, by simp⟩
    show (Op.equalIn 10000 68 (.agg _) (.agg _)).run Try.prog w = _
    simp [go_sem, Program.fieldsOf]
    all_goals (repeat (split <;> simp_all))
theorem ex_eql_seq_97 {n : Nat} {A : Nat → Prop} {w0 : World} {ρ : Env} {Γ : Ctx} {d : Option Nat} {ty : TypeId} {pos : String} {after : Array Edge} {g : Option (Nat × Bool)} {x y : Operand} {u : TypeId} {a0 a1 a2 b0 b1 b2 : Int} (hx : ev ρ x = some (.agg #[.int .i64 a0, .int .i64 a1, .int .i64 a2])) (hy : ev ρ y = some (.agg #[.int .i64 b0, .int .i64 b1, .int .i64 b2])) :
    Ex Try.prog n A w0 ρ Γ ⟨d, .binOp .eql 97 x y u, ty, pos, after, g⟩ (.bool (decide ((⟨a0, a1, a2⟩ : GRule) = ⟨b0, b1, b2⟩))) := by
  intro a w hs hh
  simp only [execOp, hs.eval hx, hs.eval hy]
  simp [eqGuard, go_sem, Program.fieldsOf]
  by_cases e0 : a0 = b0 <;> simp [e0]
  all_goals (repeat (split <;> simp_all))
theorem ex_neq_seq_97 {n : Nat} {A : Nat → Prop} {w0 : World} {ρ : Env} {Γ : Ctx} {d : Option Nat} {ty : TypeId} {pos : String} {after : Array Edge} {g : Option (Nat × Bool)} {x y : Operand} {u : TypeId} {a0 a1 a2 b0 b1 b2 : Int} (hx : ev ρ x = some (.agg #[.int .i64 a0, .int .i64 a1, .int .i64 a2])) (hy : ev ρ y = some (.agg #[.int .i64 b0, .int .i64 b1, .int .i64 b2])) :
    Ex Try.prog n A w0 ρ Γ ⟨d, .binOp .neq 97 x y u, ty, pos, after, g⟩ (.bool (!(decide ((⟨a0, a1, a2⟩ : GRule) = ⟨b0, b1, b2⟩)))) := by
  intro a w hs hh
  simp only [execOp, hs.eval hx, hs.eval hy]
  simp [eqGuard, go_sem, Program.fieldsOf]
  by_cases e0 : a0 = b0 <;> simp [e0]
  all_goals (repeat (split <;> simp_all))
theorem si_107 : SInf Try.prog 107 [.int .i64 0, .int .i64 0, .int .i64 0, .int .i64 0, .int .i64 0, .int .i64 0, .bool false] := ⟨⟨_, _, Try.underlying107, (show zinf Try.prog 107 = some (.agg #[.int .i64 0, .int .i64 0, .int .i64 0, .int .i64 0, .int .i64 0, .int .i64 0, .bool false]) by kernel_rfl), rfl, by kernel_rfl⟩⟩
theorem si_115 : SInf Try.prog 115 [.int .i64 0, .int .i64 0, .slice none 0 0, .slice none 0 0, .map none] := ⟨⟨_, _, Try.underlying115, (show zinf Try.prog 115 = some (.agg #[.int .i64 0, .int .i64 0, .slice none 0 0, .slice none 0 0, .map none]) by kernel_rfl), rfl, by kernel_rfl⟩⟩
theorem si_118 : SInf Try.prog 118 [.int .i64 0, .int .i64 0, .int .i64 0, .int .i64 0, .int .i64 0, .bool false] := ⟨⟨_, _, Try.underlying118, (show zinf Try.prog 118 = some (.agg #[.int .i64 0, .int .i64 0, .int .i64 0, .int .i64 0, .int .i64 0, .bool false]) by kernel_rfl), rfl, by kernel_rfl⟩⟩
theorem si_129 : SInf Try.prog 129 [.bool false, .int .i64 0, .int .i64 0, .slice none 0 0] := ⟨⟨_, _, Try.underlying129, (show zinf Try.prog 129 = some (.agg #[.bool false, .int .i64 0, .int .i64 0, .slice none 0 0]) by kernel_rfl), rfl, by kernel_rfl⟩⟩
theorem si_28 : SInf Try.prog 28 [.int .i64 0, .int .i64 0, .slice none 0 0] := ⟨⟨_, _, Try.underlying28, (show zinf Try.prog 28 = some (.agg #[.int .i64 0, .int .i64 0, .slice none 0 0]) by kernel_rfl), rfl, by kernel_rfl⟩⟩
theorem si_39 : SInf Try.prog 39 [.int .i64 0, .slice none 0 0, .slice none 0 0] := ⟨⟨_, _, Try.underlying39, (show zinf Try.prog 39 = some (.agg #[.int .i64 0, .slice none 0 0, .slice none 0 0]) by kernel_rfl), rfl, by kernel_rfl⟩⟩
theorem si_55 : SInf Try.prog 55 [.pointer none, .pointer none, .int .i64 0, .slice none 0 0, .int .i64 0, .int .i64 0, .slice none 0 0] := ⟨⟨_, _, Try.underlying55, (show zinf Try.prog 55 = some (.agg #[.pointer none, .pointer none, .int .i64 0, .slice none 0 0, .int .i64 0, .int .i64 0, .slice none 0 0]) by kernel_rfl), rfl, by kernel_rfl⟩⟩
theorem si_60 : SInf Try.prog 60 [.int .i64 0, .int .i64 0, .int .i64 0, .int .i64 0] := ⟨⟨_, _, Try.underlying60, (show zinf Try.prog 60 = some (.agg #[.int .i64 0, .int .i64 0, .int .i64 0, .int .i64 0]) by kernel_rfl), rfl, by kernel_rfl⟩⟩
theorem si_68 : SInf Try.prog 68 [.int .i64 0, .int .i64 0, .int .i64 0] := ⟨⟨_, _, Try.underlying68, (show zinf Try.prog 68 = some (.agg #[.int .i64 0, .int .i64 0, .int .i64 0]) by kernel_rfl), rfl, by kernel_rfl⟩⟩
theorem si_92 : SInf Try.prog 92 [.int .i64 0, .int .i64 0, .slice none 0 0, .slice none 0 0, .map none] := ⟨⟨_, _, Try.underlying92, (show zinf Try.prog 92 = some (.agg #[.int .i64 0, .int .i64 0, .slice none 0 0, .slice none 0 0, .map none]) by kernel_rfl), rfl, by kernel_rfl⟩⟩
theorem si_97 : SInf Try.prog 97 [.int .i64 0, .int .i64 0, .int .i64 0] := ⟨⟨_, _, Try.underlying97, (show zinf Try.prog 97 = some (.agg #[.int .i64 0, .int .i64 0, .int .i64 0]) by kernel_rfl), rfl, by kernel_rfl⟩⟩
theorem ti_100 : tinf Try.prog 100 = some (3, true) := by kernel_rfl
theorem ti_107 : tinf Try.prog 107 = some (7, true) := by kernel_rfl
theorem ti_112 : tinf Try.prog 112 = some (1, false) := by kernel_rfl
theorem ti_113 : tinf Try.prog 113 = some (1, false) := by kernel_rfl
theorem ti_118 : tinf Try.prog 118 = some (6, true) := by kernel_rfl
theorem ti_129 : tinf Try.prog 129 = some (4, true) := by kernel_rfl
theorem ti_142 : tinf Try.prog 142 = some (1, false) := by kernel_rfl
theorem ti_150 : tinf Try.prog 150 = some (5, true) := by kernel_rfl
theorem ti_2 : tinf Try.prog 2 = some (1, false) := by kernel_rfl
theorem ti_22 : tinf Try.prog 22 = some (1, false) := by kernel_rfl
theorem ti_24 : tinf Try.prog 24 = some (3, true) := by kernel_rfl
theorem ti_26 : tinf Try.prog 26 = some (1, false) := by kernel_rfl
theorem ti_28 : tinf Try.prog 28 = some (3, true) := by kernel_rfl
theorem ti_35 : tinf Try.prog 35 = some (1, false) := by kernel_rfl
theorem ti_37 : tinf Try.prog 37 = some (3, true) := by kernel_rfl
theorem ti_39 : tinf Try.prog 39 = some (3, true) := by kernel_rfl
theorem ti_4 : tinf Try.prog 4 = some (1, false) := by kernel_rfl
theorem ti_48 : tinf Try.prog 48 = some (1, false) := by kernel_rfl
theorem ti_53 : tinf Try.prog 53 = some (1, false) := by kernel_rfl
theorem ti_60 : tinf Try.prog 60 = some (4, true) := by kernel_rfl
theorem ti_68 : tinf Try.prog 68 = some (3, true) := by kernel_rfl
theorem ti_89 : tinf Try.prog 89 = some (1, false) := by kernel_rfl
theorem ti_90 : tinf Try.prog 90 = some (1, false) := by kernel_rfl
theorem ti_97 : tinf Try.prog 97 = some (3, true) := by kernel_rfl
theorem zi_107 : zinf Try.prog 107 = some (.agg #[.int .i64 0, .int .i64 0, .int .i64 0, .int .i64 0, .int .i64 0, .int .i64 0, .bool false]) := by kernel_rfl
theorem zi_118 : zinf Try.prog 118 = some (.agg #[.int .i64 0, .int .i64 0, .int .i64 0, .int .i64 0, .int .i64 0, .bool false]) := by kernel_rfl
theorem zi_129 : zinf Try.prog 129 = some (.agg #[.bool false, .int .i64 0, .int .i64 0, .slice none 0 0]) := by kernel_rfl
theorem zi_150 : zinf Try.prog 150 = some (.agg #[.int .i64 0, .slice none 0 0, .slice none 0 0, .slice none 0 0, .int .i64 0]) := by kernel_rfl
theorem zi_2 : zinf Try.prog 2 = some (.int .i64 0) := by kernel_rfl
theorem zi_28 : zinf Try.prog 28 = some (.agg #[.int .i64 0, .int .i64 0, .slice none 0 0]) := by kernel_rfl
theorem zi_35 : zinf Try.prog 35 = some (.slice none 0 0) := by kernel_rfl
theorem zi_39 : zinf Try.prog 39 = some (.agg #[.int .i64 0, .slice none 0 0, .slice none 0 0]) := by kernel_rfl
theorem zi_60 : zinf Try.prog 60 = some (.agg #[.int .i64 0, .int .i64 0, .int .i64 0, .int .i64 0]) := by kernel_rfl
theorem zi_68 : zinf Try.prog 68 = some (.agg #[.int .i64 0, .int .i64 0, .int .i64 0]) := by kernel_rfl
theorem zi_97 : zinf Try.prog 97 = some (.agg #[.int .i64 0, .int .i64 0, .int .i64 0]) := by kernel_rfl

end Go.Proofs.Ytceimgjcikkadaa
