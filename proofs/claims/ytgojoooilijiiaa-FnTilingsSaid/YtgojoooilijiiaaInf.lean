/-
  Facts on the types of the program. No condition.
-/
import Derived.Test.YtgojoooilijiiaaProg
import Derived.Test.YtgojoooilijiiaaTy
import Derived.KernelRfl
namespace Go.Proofs.Ytgojoooilijiiaa
open Go Go.Tc Go.Fn
theorem bi_108 : binf Try.prog 108 = some 32 := by kernel_rfl
theorem bi_2 : binf Try.prog 2 = some 8 := by kernel_rfl
theorem bi_27 : binf Try.prog 27 = some 24 := by kernel_rfl
theorem bi_29 : binf Try.prog 29 = some 56 := by kernel_rfl
theorem bi_88 : binf Try.prog 88 = some 24 := by kernel_rfl
theorem fi_108_0 : finf Try.prog 108 0 = some (0, 1) := by kernel_rfl
theorem fi_108_1 : finf Try.prog 108 1 = some (1, 1) := by kernel_rfl
theorem fi_108_2 : finf Try.prog 108 2 = some (2, 1) := by kernel_rfl
theorem fi_108_3 : finf Try.prog 108 3 = some (3, 1) := by kernel_rfl
theorem fi_124_0 : finf Try.prog 124 0 = some (0, 1) := by kernel_rfl
theorem fi_124_1 : finf Try.prog 124 1 = some (1, 1) := by kernel_rfl
theorem fi_124_2 : finf Try.prog 124 2 = some (2, 1) := by kernel_rfl
theorem fi_124_3 : finf Try.prog 124 3 = some (3, 1) := by kernel_rfl
theorem fi_131_0 : finf Try.prog 131 0 = some (0, 1) := by kernel_rfl
theorem fi_131_1 : finf Try.prog 131 1 = some (1, 1) := by kernel_rfl
theorem fi_131_2 : finf Try.prog 131 2 = some (2, 1) := by kernel_rfl
theorem fi_135_0 : finf Try.prog 135 0 = some (0, 3) := by kernel_rfl
theorem fi_135_1 : finf Try.prog 135 1 = some (3, 1) := by kernel_rfl
theorem fi_135_2 : finf Try.prog 135 2 = some (4, 1) := by kernel_rfl
theorem fi_135_3 : finf Try.prog 135 3 = some (5, 1) := by kernel_rfl
theorem fi_26_0 : finf Try.prog 26 0 = some (0, 1) := by kernel_rfl
theorem fi_26_1 : finf Try.prog 26 1 = some (1, 1) := by kernel_rfl
theorem fi_26_2 : finf Try.prog 26 2 = some (2, 1) := by kernel_rfl
theorem fi_29_0 : finf Try.prog 29 0 = some (0, 1) := by kernel_rfl
theorem fi_29_1 : finf Try.prog 29 1 = some (1, 1) := by kernel_rfl
theorem fi_29_2 : finf Try.prog 29 2 = some (2, 1) := by kernel_rfl
theorem fi_88_0 : finf Try.prog 88 0 = some (0, 1) := by kernel_rfl
theorem fi_88_1 : finf Try.prog 88 1 = some (1, 1) := by kernel_rfl
theorem fi_88_2 : finf Try.prog 88 2 = some (2, 1) := by kernel_rfl
theorem key_108 : KeyOk Try.prog 108 GTile.enc := by
  refine ⟨fun w em x => ?_, ⟨_, Try.underlying108, .inl fun x y => rfl⟩, fun w x y => ?_, fun x => by simp [GTile.enc, Instr.sameBits]⟩
  · show (Instr.checkKey em (9999 + 1) 108 (.agg _)).run Try.prog w = _
    rw [run_checkKey_struct w em 9999 108 _ (by kernel_rfl)]
    simp [go_sem, Program.fieldsOf, ckFields, run_checkKey_int _ em 9998 2 .i64 _ Try.underlying2]
  · obtain ⟨a0, a1, a2, a3⟩ := x
    obtain ⟨b0, b1, b2, b3⟩ := y
    refine ⟨decide ((⟨a0, a1, a2, a3⟩ : GTile) = ⟨b0, b1, b2, b3⟩), ?_, by simp⟩
    show (Op.equalIn 10000 108 (.agg _) (.agg _)).run Try.prog w = _
    simp [go_sem, Program.fieldsOf]
    all_goals (repeat (split <;> simp_all))
theorem ex_eql_seq_108 {n : Fr} {A : Nat → Prop} {w0 : World} {ρ : Env} {Γ : Ctx} {d : Option Nat} {ty : TypeId} {pos : String} {after : Array Edge} {g : Option (Nat × Bool)} {x y : Operand} {u : TypeId} {a0 a1 a2 a3 b0 b1 b2 b3 : Int} (hx : ev ρ x = some (.agg #[.int .i64 a0, .int .i64 a1, .int .i64 a2, .int .i64 a3])) (hy : ev ρ y = some (.agg #[.int .i64 b0, .int .i64 b1, .int .i64 b2, .int .i64 b3])) :
    Ex Try.prog n A w0 ρ Γ ⟨d, .binOp .eql 108 x y u, ty, pos, after, g⟩ (.bool (decide ((⟨a0, a1, a2, a3⟩ : GTile) = ⟨b0, b1, b2, b3⟩))) := by
  intro a w hs hh
  simp only [execOp, hs.eval hx, hs.eval hy]
  simp [eqGuard, go_sem, Program.fieldsOf]
  by_cases e0 : a0 = b0 <;> simp [e0]
  all_goals (repeat (split <;> simp_all))
theorem ex_neq_seq_108 {n : Fr} {A : Nat → Prop} {w0 : World} {ρ : Env} {Γ : Ctx} {d : Option Nat} {ty : TypeId} {pos : String} {after : Array Edge} {g : Option (Nat × Bool)} {x y : Operand} {u : TypeId} {a0 a1 a2 a3 b0 b1 b2 b3 : Int} (hx : ev ρ x = some (.agg #[.int .i64 a0, .int .i64 a1, .int .i64 a2, .int .i64 a3])) (hy : ev ρ y = some (.agg #[.int .i64 b0, .int .i64 b1, .int .i64 b2, .int .i64 b3])) :
    Ex Try.prog n A w0 ρ Γ ⟨d, .binOp .neq 108 x y u, ty, pos, after, g⟩ (.bool (!(decide ((⟨a0, a1, a2, a3⟩ : GTile) = ⟨b0, b1, b2, b3⟩)))) := by
  intro a w hs hh
  simp only [execOp, hs.eval hx, hs.eval hy]
  simp [eqGuard, go_sem, Program.fieldsOf]
  by_cases e0 : a0 = b0 <;> simp [e0]
  all_goals (repeat (split <;> simp_all))
theorem ex_eql_seq_88 {n : Fr} {A : Nat → Prop} {w0 : World} {ρ : Env} {Γ : Ctx} {d : Option Nat} {ty : TypeId} {pos : String} {after : Array Edge} {g : Option (Nat × Bool)} {x y : Operand} {u : TypeId} {a0 a1 a2 b0 b1 b2 : Int} (hx : ev ρ x = some (.agg #[.int .i64 a0, .int .i64 a1, .int .i64 a2])) (hy : ev ρ y = some (.agg #[.int .i64 b0, .int .i64 b1, .int .i64 b2])) :
    Ex Try.prog n A w0 ρ Γ ⟨d, .binOp .eql 88 x y u, ty, pos, after, g⟩ (.bool (decide ((⟨a0, a1, a2⟩ : GRule) = ⟨b0, b1, b2⟩))) := by
  intro a w hs hh
  simp only [execOp, hs.eval hx, hs.eval hy]
  simp [eqGuard, go_sem, Program.fieldsOf]
  by_cases e0 : a0 = b0 <;> simp [e0]
  all_goals (repeat (split <;> simp_all))
theorem ex_neq_seq_88 {n : Fr} {A : Nat → Prop} {w0 : World} {ρ : Env} {Γ : Ctx} {d : Option Nat} {ty : TypeId} {pos : String} {after : Array Edge} {g : Option (Nat × Bool)} {x y : Operand} {u : TypeId} {a0 a1 a2 b0 b1 b2 : Int} (hx : ev ρ x = some (.agg #[.int .i64 a0, .int .i64 a1, .int .i64 a2])) (hy : ev ρ y = some (.agg #[.int .i64 b0, .int .i64 b1, .int .i64 b2])) :
    Ex Try.prog n A w0 ρ Γ ⟨d, .binOp .neq 88 x y u, ty, pos, after, g⟩ (.bool (!(decide ((⟨a0, a1, a2⟩ : GRule) = ⟨b0, b1, b2⟩)))) := by
  intro a w hs hh
  simp only [execOp, hs.eval hx, hs.eval hy]
  simp [eqGuard, go_sem, Program.fieldsOf]
  by_cases e0 : a0 = b0 <;> simp [e0]
  all_goals (repeat (split <;> simp_all))
theorem si_108 : SInf Try.prog 108 [.int .i64 0, .int .i64 0, .int .i64 0, .int .i64 0] := ⟨⟨_, _, Try.underlying108, (show zinf Try.prog 108 = some (.agg #[.int .i64 0, .int .i64 0, .int .i64 0, .int .i64 0]) by kernel_rfl), rfl, by kernel_rfl⟩⟩
theorem si_124 : SInf Try.prog 124 [.slice none 0 0, .slice none 0 0, .slice none 0 0, .int .i64 0] := ⟨⟨_, _, Try.underlying124, (show zinf Try.prog 124 = some (.agg #[.slice none 0 0, .slice none 0 0, .slice none 0 0, .int .i64 0]) by kernel_rfl), rfl, by kernel_rfl⟩⟩
theorem si_131 : SInf Try.prog 131 [.slice none 0 0, .int .i64 0, .int .u64 0] := ⟨⟨_, _, Try.underlying131, (show zinf Try.prog 131 = some (.agg #[.slice none 0 0, .int .i64 0, .int .u64 0]) by kernel_rfl), rfl, by kernel_rfl⟩⟩
theorem si_135 : SInf Try.prog 135 [.int .i64 0, .int .i64 0, .slice none 0 0, .int .i64 0, .slice none 0 0, .slice none 0 0] := ⟨⟨_, _, Try.underlying135, (show zinf Try.prog 135 = some (.agg #[.int .i64 0, .int .i64 0, .slice none 0 0, .int .i64 0, .slice none 0 0, .slice none 0 0]) by kernel_rfl), rfl, by kernel_rfl⟩⟩
theorem si_26 : SInf Try.prog 26 [.int .i64 0, .int .i64 0, .slice none 0 0] := ⟨⟨_, _, Try.underlying26, (show zinf Try.prog 26 = some (.agg #[.int .i64 0, .int .i64 0, .slice none 0 0]) by kernel_rfl), rfl, by kernel_rfl⟩⟩
theorem si_29 : SInf Try.prog 29 [.int .i64 0, .slice none 0 0, .slice none 0 0] := ⟨⟨_, _, Try.underlying29, (show zinf Try.prog 29 = some (.agg #[.int .i64 0, .slice none 0 0, .slice none 0 0]) by kernel_rfl), rfl, by kernel_rfl⟩⟩
theorem si_88 : SInf Try.prog 88 [.int .i64 0, .int .i64 0, .int .i64 0] := ⟨⟨_, _, Try.underlying88, (show zinf Try.prog 88 = some (.agg #[.int .i64 0, .int .i64 0, .int .i64 0]) by kernel_rfl), rfl, by kernel_rfl⟩⟩
theorem ti_108 : tinf Try.prog 108 = some (4, true) := by kernel_rfl
theorem ti_129 : tinf Try.prog 129 = some (1, false) := by kernel_rfl
theorem ti_2 : tinf Try.prog 2 = some (1, false) := by kernel_rfl
theorem ti_22 : tinf Try.prog 22 = some (1, false) := by kernel_rfl
theorem ti_24 : tinf Try.prog 24 = some (1, false) := by kernel_rfl
theorem ti_26 : tinf Try.prog 26 = some (3, true) := by kernel_rfl
theorem ti_27 : tinf Try.prog 27 = some (1, false) := by kernel_rfl
theorem ti_29 : tinf Try.prog 29 = some (3, true) := by kernel_rfl
theorem ti_3 : tinf Try.prog 3 = some (1, false) := by kernel_rfl
theorem ti_4 : tinf Try.prog 4 = some (1, false) := by kernel_rfl
theorem ti_41 : tinf Try.prog 41 = some (1, false) := by kernel_rfl
theorem ti_5 : tinf Try.prog 5 = some (1, false) := by kernel_rfl
theorem ti_57 : tinf Try.prog 57 = some (1, false) := by kernel_rfl
theorem ti_66 : tinf Try.prog 66 = some (1, false) := by kernel_rfl
theorem ti_88 : tinf Try.prog 88 = some (3, true) := by kernel_rfl
theorem ti_92 : tinf Try.prog 92 = some (1, false) := by kernel_rfl
theorem zi_108 : zinf Try.prog 108 = some (.agg #[.int .i64 0, .int .i64 0, .int .i64 0, .int .i64 0]) := by kernel_rfl
theorem zi_2 : zinf Try.prog 2 = some (.int .i64 0) := by kernel_rfl
theorem zi_26 : zinf Try.prog 26 = some (.agg #[.int .i64 0, .int .i64 0, .slice none 0 0]) := by kernel_rfl
theorem zi_27 : zinf Try.prog 27 = some (.slice none 0 0) := by kernel_rfl
theorem zi_29 : zinf Try.prog 29 = some (.agg #[.int .i64 0, .slice none 0 0, .slice none 0 0]) := by kernel_rfl
theorem zi_4 : zinf Try.prog 4 = some (.bool false) := by kernel_rfl
theorem zi_41 : zinf Try.prog 41 = some (.slice none 0 0) := by kernel_rfl
theorem zi_66 : zinf Try.prog 66 = some (.slice none 0 0) := by kernel_rfl
theorem zi_88 : zinf Try.prog 88 = some (.agg #[.int .i64 0, .int .i64 0, .int .i64 0]) := by kernel_rfl
theorem zi_92 : zinf Try.prog 92 = some (.pointer none) := by kernel_rfl

end Go.Proofs.Ytgojoooilijiiaa
