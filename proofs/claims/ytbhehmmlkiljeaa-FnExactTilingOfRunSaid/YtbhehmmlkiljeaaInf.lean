/-
  Facts on the types of the program. No condition.
-/
import Derived.Test.YtbhehmmlkiljeaaProg
import Derived.Test.YtbhehmmlkiljeaaTy
import Derived.KernelRfl
namespace Go.Proofs.Ytbhehmmlkiljeaa
open Go Go.Tc Go.Fn
theorem bi_2 : binf Try.prog 2 = some 8 := by kernel_rfl
theorem bi_25 : binf Try.prog 25 = some 24 := by kernel_rfl
theorem bi_60 : binf Try.prog 60 = some 24 := by kernel_rfl
theorem bi_76 : binf Try.prog 76 = some 32 := by kernel_rfl
theorem fi_24_0 : finf Try.prog 24 0 = some (0, 1) := by kernel_rfl
theorem fi_24_1 : finf Try.prog 24 1 = some (1, 1) := by kernel_rfl
theorem fi_24_2 : finf Try.prog 24 2 = some (2, 1) := by kernel_rfl
theorem fi_27_0 : finf Try.prog 27 0 = some (0, 1) := by kernel_rfl
theorem fi_27_1 : finf Try.prog 27 1 = some (1, 1) := by kernel_rfl
theorem fi_27_2 : finf Try.prog 27 2 = some (2, 1) := by kernel_rfl
theorem fi_35_0 : finf Try.prog 35 0 = some (0, 1) := by kernel_rfl
theorem fi_35_1 : finf Try.prog 35 1 = some (1, 1) := by kernel_rfl
theorem fi_35_2 : finf Try.prog 35 2 = some (2, 1) := by kernel_rfl
theorem fi_37_0 : finf Try.prog 37 0 = some (0, 1) := by kernel_rfl
theorem fi_37_1 : finf Try.prog 37 1 = some (1, 1) := by kernel_rfl
theorem fi_37_2 : finf Try.prog 37 2 = some (2, 1) := by kernel_rfl
theorem fi_60_0 : finf Try.prog 60 0 = some (0, 1) := by kernel_rfl
theorem fi_60_1 : finf Try.prog 60 1 = some (1, 1) := by kernel_rfl
theorem fi_60_2 : finf Try.prog 60 2 = some (2, 1) := by kernel_rfl
theorem fi_76_0 : finf Try.prog 76 0 = some (0, 1) := by kernel_rfl
theorem fi_76_1 : finf Try.prog 76 1 = some (1, 1) := by kernel_rfl
theorem fi_76_2 : finf Try.prog 76 2 = some (2, 1) := by kernel_rfl
theorem fi_76_3 : finf Try.prog 76 3 = some (3, 1) := by kernel_rfl
theorem fi_92_0 : finf Try.prog 92 0 = some (0, 1) := by kernel_rfl
theorem fi_92_1 : finf Try.prog 92 1 = some (1, 1) := by kernel_rfl
theorem fi_92_2 : finf Try.prog 92 2 = some (2, 1) := by kernel_rfl
theorem key_76 : KeyOk Try.prog 76 GTile.enc := by
  refine ⟨fun w em x => ?_, ⟨_, Try.underlying76, .inl fun x y => rfl⟩, fun w x y => ?_, fun x => by simp [GTile.enc, Instr.sameBits]⟩
  · show (Instr.checkKey em (9999 + 1) 76 (.agg _)).run Try.prog w = _
    rw [run_checkKey_struct w em 9999 76 _ (by kernel_rfl)]
    simp [go_sem, Program.fieldsOf, ckFields, run_checkKey_int _ em 9998 2 .i64 _ Try.underlying2]
  · obtain ⟨a0, a1, a2, a3⟩ := x
    obtain ⟨b0, b1, b2, b3⟩ := y
    refine ⟨decide ((⟨a0, a1, a2, a3⟩ : GTile) = ⟨b0, b1, b2, b3⟩), ?_, by simp⟩
    show (Op.equalIn 10000 76 (.agg _) (.agg _)).run Try.prog w = _
    simp [go_sem, Program.fieldsOf]
    all_goals (repeat (split <;> simp_all))
theorem ex_eql_seq_60 {n : Nat} {A : Nat → Prop} {w0 : World} {ρ : Env} {Γ : Ctx} {d : Option Nat} {ty : TypeId} {pos : String} {after : Array Edge} {g : Option (Nat × Bool)} {x y : Operand} {u : TypeId} {a0 a1 a2 b0 b1 b2 : Int} (hx : ev ρ x = some (.agg #[.int .i64 a0, .int .i64 a1, .int .i64 a2])) (hy : ev ρ y = some (.agg #[.int .i64 b0, .int .i64 b1, .int .i64 b2])) :
    Ex Try.prog n A w0 ρ Γ ⟨d, .binOp .eql 60 x y u, ty, pos, after, g⟩ (.bool (decide ((⟨a0, a1, a2⟩ : GRule) = ⟨b0, b1, b2⟩))) := by
  intro a w hs hh
  simp only [execOp, hs.eval hx, hs.eval hy]
  simp [eqGuard, go_sem, Program.fieldsOf]
  by_cases e0 : a0 = b0 <;> simp [e0]
  all_goals (repeat (split <;> simp_all))
theorem ex_neq_seq_60 {n : Nat} {A : Nat → Prop} {w0 : World} {ρ : Env} {Γ : Ctx} {d : Option Nat} {ty : TypeId} {pos : String} {after : Array Edge} {g : Option (Nat × Bool)} {x y : Operand} {u : TypeId} {a0 a1 a2 b0 b1 b2 : Int} (hx : ev ρ x = some (.agg #[.int .i64 a0, .int .i64 a1, .int .i64 a2])) (hy : ev ρ y = some (.agg #[.int .i64 b0, .int .i64 b1, .int .i64 b2])) :
    Ex Try.prog n A w0 ρ Γ ⟨d, .binOp .neq 60 x y u, ty, pos, after, g⟩ (.bool (!(decide ((⟨a0, a1, a2⟩ : GRule) = ⟨b0, b1, b2⟩)))) := by
  intro a w hs hh
  simp only [execOp, hs.eval hx, hs.eval hy]
  simp [eqGuard, go_sem, Program.fieldsOf]
  by_cases e0 : a0 = b0 <;> simp [e0]
  all_goals (repeat (split <;> simp_all))
theorem ex_eql_seq_76 {n : Nat} {A : Nat → Prop} {w0 : World} {ρ : Env} {Γ : Ctx} {d : Option Nat} {ty : TypeId} {pos : String} {after : Array Edge} {g : Option (Nat × Bool)} {x y : Operand} {u : TypeId} {a0 a1 a2 a3 b0 b1 b2 b3 : Int} (hx : ev ρ x = some (.agg #[.int .i64 a0, .int .i64 a1, .int .i64 a2, .int .i64 a3])) (hy : ev ρ y = some (.agg #[.int .i64 b0, .int .i64 b1, .int .i64 b2, .int .i64 b3])) :
    Ex Try.prog n A w0 ρ Γ ⟨d, .binOp .eql 76 x y u, ty, pos, after, g⟩ (.bool (decide ((⟨a0, a1, a2, a3⟩ : GTile) = ⟨b0, b1, b2, b3⟩))) := by
  intro a w hs hh
  simp only [execOp, hs.eval hx, hs.eval hy]
  simp [eqGuard, go_sem, Program.fieldsOf]
  by_cases e0 : a0 = b0 <;> simp [e0]
  all_goals (repeat (split <;> simp_all))
theorem ex_neq_seq_76 {n : Nat} {A : Nat → Prop} {w0 : World} {ρ : Env} {Γ : Ctx} {d : Option Nat} {ty : TypeId} {pos : String} {after : Array Edge} {g : Option (Nat × Bool)} {x y : Operand} {u : TypeId} {a0 a1 a2 a3 b0 b1 b2 b3 : Int} (hx : ev ρ x = some (.agg #[.int .i64 a0, .int .i64 a1, .int .i64 a2, .int .i64 a3])) (hy : ev ρ y = some (.agg #[.int .i64 b0, .int .i64 b1, .int .i64 b2, .int .i64 b3])) :
    Ex Try.prog n A w0 ρ Γ ⟨d, .binOp .neq 76 x y u, ty, pos, after, g⟩ (.bool (!(decide ((⟨a0, a1, a2, a3⟩ : GTile) = ⟨b0, b1, b2, b3⟩)))) := by
  intro a w hs hh
  simp only [execOp, hs.eval hx, hs.eval hy]
  simp [eqGuard, go_sem, Program.fieldsOf]
  by_cases e0 : a0 = b0 <;> simp [e0]
  all_goals (repeat (split <;> simp_all))
theorem si_37 : SInf Try.prog 37 [.int .i64 0, .slice none 0 0, .slice none 0 0] := ⟨⟨_, _, Try.underlying37, (show zinf Try.prog 37 = some (.agg #[.int .i64 0, .slice none 0 0, .slice none 0 0]) by kernel_rfl), rfl, by kernel_rfl⟩⟩
theorem si_60 : SInf Try.prog 60 [.int .i64 0, .int .i64 0, .int .i64 0] := ⟨⟨_, _, Try.underlying60, (show zinf Try.prog 60 = some (.agg #[.int .i64 0, .int .i64 0, .int .i64 0]) by kernel_rfl), rfl, by kernel_rfl⟩⟩
theorem si_76 : SInf Try.prog 76 [.int .i64 0, .int .i64 0, .int .i64 0, .int .i64 0] := ⟨⟨_, _, Try.underlying76, (show zinf Try.prog 76 = some (.agg #[.int .i64 0, .int .i64 0, .int .i64 0, .int .i64 0]) by kernel_rfl), rfl, by kernel_rfl⟩⟩
theorem ti_2 : tinf Try.prog 2 = some (1, false) := by kernel_rfl
theorem ti_22 : tinf Try.prog 22 = some (1, false) := by kernel_rfl
theorem ti_24 : tinf Try.prog 24 = some (3, true) := by kernel_rfl
theorem ti_25 : tinf Try.prog 25 = some (1, false) := by kernel_rfl
theorem ti_27 : tinf Try.prog 27 = some (3, true) := by kernel_rfl
theorem ti_33 : tinf Try.prog 33 = some (1, false) := by kernel_rfl
theorem ti_35 : tinf Try.prog 35 = some (3, true) := by kernel_rfl
theorem ti_37 : tinf Try.prog 37 = some (3, true) := by kernel_rfl
theorem ti_60 : tinf Try.prog 60 = some (3, true) := by kernel_rfl
theorem ti_76 : tinf Try.prog 76 = some (4, true) := by kernel_rfl
theorem ti_92 : tinf Try.prog 92 = some (3, true) := by kernel_rfl
theorem zi_2 : zinf Try.prog 2 = some (.int .i64 0) := by kernel_rfl
theorem zi_25 : zinf Try.prog 25 = some (.slice none 0 0) := by kernel_rfl
theorem zi_35 : zinf Try.prog 35 = some (.agg #[.int .i64 0, .int .i64 0, .slice none 0 0]) := by kernel_rfl
theorem zi_37 : zinf Try.prog 37 = some (.agg #[.int .i64 0, .slice none 0 0, .slice none 0 0]) := by kernel_rfl
theorem zi_60 : zinf Try.prog 60 = some (.agg #[.int .i64 0, .int .i64 0, .int .i64 0]) := by kernel_rfl
theorem zi_76 : zinf Try.prog 76 = some (.agg #[.int .i64 0, .int .i64 0, .int .i64 0, .int .i64 0]) := by kernel_rfl

end Go.Proofs.Ytbhehmmlkiljeaa
