/-
  Facts on the types of the program. No condition.
-/
import Derived.Test.YtcgaddlkebifdaaProg
import Derived.Test.YtcgaddlkebifdaaTy
import Derived.KernelRfl
namespace Go.Proofs.Ytcgaddlkebifdaa
open Go Go.Tc Go.Fn
theorem bi_2 : binf Try.prog 2 = some 8 := by kernel_rfl
theorem bi_33 : binf Try.prog 33 = some 24 := by kernel_rfl
theorem bi_72 : binf Try.prog 72 = some 72 := by kernel_rfl
theorem bi_80 : binf Try.prog 80 = some 24 := by kernel_rfl
theorem bi_9 : binf Try.prog 9 = some 16 := by kernel_rfl
theorem fi_112_0 : finf Try.prog 112 0 = some (0, 3) := by kernel_rfl
theorem fi_112_1 : finf Try.prog 112 1 = some (3, 1) := by kernel_rfl
theorem fi_112_2 : finf Try.prog 112 2 = some (4, 1) := by kernel_rfl
theorem fi_112_3 : finf Try.prog 112 3 = some (5, 1) := by kernel_rfl
theorem fi_26_0 : finf Try.prog 26 0 = some (0, 1) := by kernel_rfl
theorem fi_26_1 : finf Try.prog 26 1 = some (1, 1) := by kernel_rfl
theorem fi_26_2 : finf Try.prog 26 2 = some (2, 1) := by kernel_rfl
theorem fi_30_0 : finf Try.prog 30 0 = some (0, 1) := by kernel_rfl
theorem fi_30_1 : finf Try.prog 30 1 = some (1, 1) := by kernel_rfl
theorem fi_30_2 : finf Try.prog 30 2 = some (2, 1) := by kernel_rfl
theorem fi_30_3 : finf Try.prog 30 3 = some (3, 1) := by kernel_rfl
theorem fi_30_4 : finf Try.prog 30 4 = some (4, 1) := by kernel_rfl
theorem fi_30_5 : finf Try.prog 30 5 = some (5, 1) := by kernel_rfl
theorem fi_30_6 : finf Try.prog 30 6 = some (6, 1) := by kernel_rfl
theorem fi_30_7 : finf Try.prog 30 7 = some (7, 1) := by kernel_rfl
theorem fi_35_0 : finf Try.prog 35 0 = some (0, 1) := by kernel_rfl
theorem fi_35_1 : finf Try.prog 35 1 = some (1, 1) := by kernel_rfl
theorem fi_35_2 : finf Try.prog 35 2 = some (2, 1) := by kernel_rfl
theorem fi_59_0 : finf Try.prog 59 0 = some (0, 8) := by kernel_rfl
theorem fi_59_1 : finf Try.prog 59 1 = some (8, 1) := by kernel_rfl
theorem fi_68_0 : finf Try.prog 68 0 = some (0, 1) := by kernel_rfl
theorem fi_68_1 : finf Try.prog 68 1 = some (1, 1) := by kernel_rfl
theorem fi_70_0 : finf Try.prog 70 0 = some (0, 2) := by kernel_rfl
theorem fi_70_1 : finf Try.prog 70 1 = some (2, 1) := by kernel_rfl
theorem fi_70_2 : finf Try.prog 70 2 = some (3, 1) := by kernel_rfl
theorem fi_72_0 : finf Try.prog 72 0 = some (0, 1) := by kernel_rfl
theorem fi_72_1 : finf Try.prog 72 1 = some (1, 1) := by kernel_rfl
theorem fi_72_2 : finf Try.prog 72 2 = some (2, 3) := by kernel_rfl
theorem fi_80_0 : finf Try.prog 80 0 = some (0, 1) := by kernel_rfl
theorem fi_80_1 : finf Try.prog 80 1 = some (1, 1) := by kernel_rfl
theorem fi_80_2 : finf Try.prog 80 2 = some (2, 1) := by kernel_rfl
theorem fi_96_0 : finf Try.prog 96 0 = some (0, 1) := by kernel_rfl
theorem fi_96_1 : finf Try.prog 96 1 = some (1, 1) := by kernel_rfl
theorem fi_96_2 : finf Try.prog 96 2 = some (2, 1) := by kernel_rfl
theorem me_57_100 (b : Nat) (a0 : Value) (a1 : Value) : ∀ w, (callMethod (.iface 57 (.pointer (some ⟨b, 0, none⟩))) "loop.example/g01079/impl.config" #[a0, a1]).run Try.prog w = .ok (.enter 100 #[.pointer (some ⟨b, 0, none⟩), a0, a1]) w := fun w => by kernel_rfl
theorem me_57_101 (b : Nat) (a0 : Value) (a1 : Value) (a2 : Value) : ∀ w, (callMethod (.iface 57 (.pointer (some ⟨b, 0, none⟩))) "loop.example/g01079/impl.step" #[a0, a1, a2]).run Try.prog w = .ok (.enter 101 #[.pointer (some ⟨b, 0, none⟩), a0, a1, a2]) w := fun w => by kernel_rfl
theorem me_63_103 (b : Nat) (a0 : Value) (a1 : Value) : ∀ w, (callMethod (.iface 63 (.pointer (some ⟨b, 0, none⟩))) "loop.example/g01079/impl.config" #[a0, a1]).run Try.prog w = .ok (.enter 103 #[.pointer (some ⟨b, 0, none⟩), a0, a1]) w := fun w => by kernel_rfl
theorem me_63_104 (b : Nat) (a0 : Value) (a1 : Value) (a2 : Value) : ∀ w, (callMethod (.iface 63 (.pointer (some ⟨b, 0, none⟩))) "loop.example/g01079/impl.step" #[a0, a1, a2]).run Try.prog w = .ok (.enter 104 #[.pointer (some ⟨b, 0, none⟩), a0, a1, a2]) w := fun w => by kernel_rfl
theorem ex_eql_seq_80 {n : Fr} {A : Nat → Prop} {w0 : World} {ρ : Env} {Γ : Ctx} {d : Option Nat} {ty : TypeId} {pos : String} {after : Array Edge} {g : Option (Nat × Bool)} {x y : Operand} {u : TypeId} {a0 a1 a2 b0 b1 b2 : Int} (hx : ev ρ x = some (.agg #[.int .i64 a0, .int .i64 a1, .int .i64 a2])) (hy : ev ρ y = some (.agg #[.int .i64 b0, .int .i64 b1, .int .i64 b2])) :
    Ex Try.prog n A w0 ρ Γ ⟨d, .binOp .eql 80 x y u, ty, pos, after, g⟩ (.bool (decide ((⟨a0, a1, a2⟩ : GRule) = ⟨b0, b1, b2⟩))) := by
  intro a w hs hh
  simp only [execOp, hs.eval hx, hs.eval hy]
  simp [eqGuard, go_sem, Program.fieldsOf]
  by_cases e0 : a0 = b0 <;> simp [e0]
  all_goals (repeat (split <;> simp_all))
theorem ex_neq_seq_80 {n : Fr} {A : Nat → Prop} {w0 : World} {ρ : Env} {Γ : Ctx} {d : Option Nat} {ty : TypeId} {pos : String} {after : Array Edge} {g : Option (Nat × Bool)} {x y : Operand} {u : TypeId} {a0 a1 a2 b0 b1 b2 : Int} (hx : ev ρ x = some (.agg #[.int .i64 a0, .int .i64 a1, .int .i64 a2])) (hy : ev ρ y = some (.agg #[.int .i64 b0, .int .i64 b1, .int .i64 b2])) :
    Ex Try.prog n A w0 ρ Γ ⟨d, .binOp .neq 80 x y u, ty, pos, after, g⟩ (.bool (!(decide ((⟨a0, a1, a2⟩ : GRule) = ⟨b0, b1, b2⟩)))) := by
  intro a w hs hh
  simp only [execOp, hs.eval hx, hs.eval hy]
  simp [eqGuard, go_sem, Program.fieldsOf]
  by_cases e0 : a0 = b0 <;> simp [e0]
  all_goals (repeat (split <;> simp_all))
theorem si_112 : SInf Try.prog 112 [.int .i64 0, .int .i64 0, .slice none 0 0, .int .i64 0, .slice none 0 0, .slice none 0 0] := ⟨⟨_, _, Try.underlying112, (show zinf Try.prog 112 = some (.agg #[.int .i64 0, .int .i64 0, .slice none 0 0, .int .i64 0, .slice none 0 0, .slice none 0 0]) by kernel_rfl), rfl, by kernel_rfl⟩⟩
theorem si_26 : SInf Try.prog 26 [.int .i64 0, .int .i64 0, .slice none 0 0] := ⟨⟨_, _, Try.underlying26, (show zinf Try.prog 26 = some (.agg #[.int .i64 0, .int .i64 0, .slice none 0 0]) by kernel_rfl), rfl, by kernel_rfl⟩⟩
theorem si_30 : SInf Try.prog 30 [.int .i64 0, .bool false, .int .i64 0, .int .i64 0, .int .i64 0, .int .i64 0, .int .i64 0, .int .i64 0] := ⟨⟨_, _, Try.underlying30, (show zinf Try.prog 30 = some (.agg #[.int .i64 0, .bool false, .int .i64 0, .int .i64 0, .int .i64 0, .int .i64 0, .int .i64 0, .int .i64 0]) by kernel_rfl), rfl, by kernel_rfl⟩⟩
theorem si_35 : SInf Try.prog 35 [.int .i64 0, .slice none 0 0, .slice none 0 0] := ⟨⟨_, _, Try.underlying35, (show zinf Try.prog 35 = some (.agg #[.int .i64 0, .slice none 0 0, .slice none 0 0]) by kernel_rfl), rfl, by kernel_rfl⟩⟩
theorem si_59 : SInf Try.prog 59 [.int .i64 0, .bool false, .int .i64 0, .int .i64 0, .int .i64 0, .int .i64 0, .int .i64 0, .int .i64 0, .int .i64 0] := ⟨⟨_, _, Try.underlying59, (show zinf Try.prog 59 = some (.agg #[.int .i64 0, .bool false, .int .i64 0, .int .i64 0, .int .i64 0, .int .i64 0, .int .i64 0, .int .i64 0, .int .i64 0]) by kernel_rfl), rfl, by kernel_rfl⟩⟩
theorem si_70 : SInf Try.prog 70 [.slice none 0 0, .slice none 0 0, .int .i64 0, .int .i64 0] := ⟨⟨_, _, Try.underlying70, (show zinf Try.prog 70 = some (.agg #[.slice none 0 0, .slice none 0 0, .int .i64 0, .int .i64 0]) by kernel_rfl), rfl, by kernel_rfl⟩⟩
theorem si_72 : SInf Try.prog 72 [.int .i64 0, .int .i64 0, .int .i64 0, .slice none 0 0, .slice none 0 0] := ⟨⟨_, _, Try.underlying72, (show zinf Try.prog 72 = some (.agg #[.int .i64 0, .int .i64 0, .int .i64 0, .slice none 0 0, .slice none 0 0]) by kernel_rfl), rfl, by kernel_rfl⟩⟩
theorem si_80 : SInf Try.prog 80 [.int .i64 0, .int .i64 0, .int .i64 0] := ⟨⟨_, _, Try.underlying80, (show zinf Try.prog 80 = some (.agg #[.int .i64 0, .int .i64 0, .int .i64 0]) by kernel_rfl), rfl, by kernel_rfl⟩⟩
theorem si_96 : SInf Try.prog 96 [.slice none 0 0, .int .i64 0, .int .u64 0] := ⟨⟨_, _, Try.underlying96, (show zinf Try.prog 96 = some (.agg #[.slice none 0 0, .int .i64 0, .int .u64 0]) by kernel_rfl), rfl, by kernel_rfl⟩⟩
theorem ti_2 : tinf Try.prog 2 = some (1, false) := by kernel_rfl
theorem ti_22 : tinf Try.prog 22 = some (1, false) := by kernel_rfl
theorem ti_24 : tinf Try.prog 24 = some (1, false) := by kernel_rfl
theorem ti_26 : tinf Try.prog 26 = some (3, true) := by kernel_rfl
theorem ti_3 : tinf Try.prog 3 = some (1, false) := by kernel_rfl
theorem ti_30 : tinf Try.prog 30 = some (8, true) := by kernel_rfl
theorem ti_33 : tinf Try.prog 33 = some (1, false) := by kernel_rfl
theorem ti_35 : tinf Try.prog 35 = some (3, true) := by kernel_rfl
theorem ti_4 : tinf Try.prog 4 = some (1, false) := by kernel_rfl
theorem ti_5 : tinf Try.prog 5 = some (1, false) := by kernel_rfl
theorem ti_66 : tinf Try.prog 66 = some (1, false) := by kernel_rfl
theorem ti_72 : tinf Try.prog 72 = some (5, true) := by kernel_rfl
theorem ti_80 : tinf Try.prog 80 = some (3, true) := by kernel_rfl
theorem ti_9 : tinf Try.prog 9 = some (1, false) := by kernel_rfl
theorem ti_94 : tinf Try.prog 94 = some (1, false) := by kernel_rfl
theorem zi_2 : zinf Try.prog 2 = some (.int .i64 0) := by kernel_rfl
theorem zi_26 : zinf Try.prog 26 = some (.agg #[.int .i64 0, .int .i64 0, .slice none 0 0]) := by kernel_rfl
theorem zi_30 : zinf Try.prog 30 = some (.agg #[.int .i64 0, .bool false, .int .i64 0, .int .i64 0, .int .i64 0, .int .i64 0, .int .i64 0, .int .i64 0]) := by kernel_rfl
theorem zi_33 : zinf Try.prog 33 = some (.slice none 0 0) := by kernel_rfl
theorem zi_35 : zinf Try.prog 35 = some (.agg #[.int .i64 0, .slice none 0 0, .slice none 0 0]) := by kernel_rfl
theorem zi_72 : zinf Try.prog 72 = some (.agg #[.int .i64 0, .int .i64 0, .int .i64 0, .slice none 0 0, .slice none 0 0]) := by kernel_rfl
theorem zi_80 : zinf Try.prog 80 = some (.agg #[.int .i64 0, .int .i64 0, .int .i64 0]) := by kernel_rfl
theorem zi_9 : zinf Try.prog 9 = some (.string ⟨#[]⟩) := by kernel_rfl

end Go.Proofs.Ytcgaddlkebifdaa
