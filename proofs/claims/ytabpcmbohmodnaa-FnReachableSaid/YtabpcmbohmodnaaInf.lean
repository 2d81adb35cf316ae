/-
  Facts on the types of the program. No condition.
-/
import Derived.Test.YtabpcmbohmodnaaProg
import Derived.Test.YtabpcmbohmodnaaTy
import Derived.KernelRfl
namespace Go.Proofs.Ytabpcmbohmodnaa
open Go Go.Tc Go.Fn
theorem bi_2 : binf Try.prog 2 = some 8 := by kernel_rfl
theorem bi_4 : binf Try.prog 4 = some 1 := by kernel_rfl
theorem bi_49 : binf Try.prog 49 = some 24 := by kernel_rfl
theorem bi_9 : binf Try.prog 9 = some 16 := by kernel_rfl
theorem fi_26_0 : finf Try.prog 26 0 = some (0, 1) := by kernel_rfl
theorem fi_26_1 : finf Try.prog 26 1 = some (1, 1) := by kernel_rfl
theorem fi_26_2 : finf Try.prog 26 2 = some (2, 1) := by kernel_rfl
theorem fi_29_0 : finf Try.prog 29 0 = some (0, 1) := by kernel_rfl
theorem fi_29_1 : finf Try.prog 29 1 = some (1, 1) := by kernel_rfl
theorem fi_29_2 : finf Try.prog 29 2 = some (2, 1) := by kernel_rfl
theorem fi_49_0 : finf Try.prog 49 0 = some (0, 1) := by kernel_rfl
theorem fi_49_1 : finf Try.prog 49 1 = some (1, 1) := by kernel_rfl
theorem fi_49_2 : finf Try.prog 49 2 = some (2, 1) := by kernel_rfl
theorem fi_67_0 : finf Try.prog 67 0 = some (0, 1) := by kernel_rfl
theorem fi_67_1 : finf Try.prog 67 1 = some (1, 1) := by kernel_rfl
theorem fi_67_2 : finf Try.prog 67 2 = some (2, 1) := by kernel_rfl
theorem fi_78_0 : finf Try.prog 78 0 = some (0, 3) := by kernel_rfl
theorem fi_78_1 : finf Try.prog 78 1 = some (3, 1) := by kernel_rfl
theorem fi_78_2 : finf Try.prog 78 2 = some (4, 1) := by kernel_rfl
theorem fi_78_3 : finf Try.prog 78 3 = some (5, 1) := by kernel_rfl
theorem ex_eql_seq_49 {n : Fr} {A : Nat → Prop} {w0 : World} {ρ : Env} {Γ : Ctx} {d : Option Nat} {ty : TypeId} {pos : String} {after : Array Edge} {g : Option (Nat × Bool)} {x y : Operand} {u : TypeId} {a0 a1 a2 b0 b1 b2 : Int} (hx : ev ρ x = some (.agg #[.int .i64 a0, .int .i64 a1, .int .i64 a2])) (hy : ev ρ y = some (.agg #[.int .i64 b0, .int .i64 b1, .int .i64 b2])) :
    Ex Try.prog n A w0 ρ Γ ⟨d, .binOp .eql 49 x y u, ty, pos, after, g⟩ (.bool (decide ((⟨a0, a1, a2⟩ : GRule) = ⟨b0, b1, b2⟩))) := by
  intro a w hs hh
  simp only [execOp, hs.eval hx, hs.eval hy]
  simp [eqGuard, go_sem, Program.fieldsOf]
  by_cases e0 : a0 = b0 <;> simp [e0]
  all_goals (repeat (split <;> simp_all))
theorem ex_neq_seq_49 {n : Fr} {A : Nat → Prop} {w0 : World} {ρ : Env} {Γ : Ctx} {d : Option Nat} {ty : TypeId} {pos : String} {after : Array Edge} {g : Option (Nat × Bool)} {x y : Operand} {u : TypeId} {a0 a1 a2 b0 b1 b2 : Int} (hx : ev ρ x = some (.agg #[.int .i64 a0, .int .i64 a1, .int .i64 a2])) (hy : ev ρ y = some (.agg #[.int .i64 b0, .int .i64 b1, .int .i64 b2])) :
    Ex Try.prog n A w0 ρ Γ ⟨d, .binOp .neq 49 x y u, ty, pos, after, g⟩ (.bool (!(decide ((⟨a0, a1, a2⟩ : GRule) = ⟨b0, b1, b2⟩)))) := by
  intro a w hs hh
  simp only [execOp, hs.eval hx, hs.eval hy]
  simp [eqGuard, go_sem, Program.fieldsOf]
  by_cases e0 : a0 = b0 <;> simp [e0]
  all_goals (repeat (split <;> simp_all))
theorem si_26 : SInf Try.prog 26 [.int .i64 0, .int .i64 0, .slice none 0 0] := ⟨⟨_, _, Try.underlying26, (show zinf Try.prog 26 = some (.agg #[.int .i64 0, .int .i64 0, .slice none 0 0]) by kernel_rfl), rfl, by kernel_rfl⟩⟩
theorem si_29 : SInf Try.prog 29 [.int .i64 0, .slice none 0 0, .slice none 0 0] := ⟨⟨_, _, Try.underlying29, (show zinf Try.prog 29 = some (.agg #[.int .i64 0, .slice none 0 0, .slice none 0 0]) by kernel_rfl), rfl, by kernel_rfl⟩⟩
theorem si_49 : SInf Try.prog 49 [.int .i64 0, .int .i64 0, .int .i64 0] := ⟨⟨_, _, Try.underlying49, (show zinf Try.prog 49 = some (.agg #[.int .i64 0, .int .i64 0, .int .i64 0]) by kernel_rfl), rfl, by kernel_rfl⟩⟩
theorem si_67 : SInf Try.prog 67 [.slice none 0 0, .int .i64 0, .int .u64 0] := ⟨⟨_, _, Try.underlying67, (show zinf Try.prog 67 = some (.agg #[.slice none 0 0, .int .i64 0, .int .u64 0]) by kernel_rfl), rfl, by kernel_rfl⟩⟩
theorem si_78 : SInf Try.prog 78 [.int .i64 0, .int .i64 0, .slice none 0 0, .int .i64 0, .slice none 0 0, .slice none 0 0] := ⟨⟨_, _, Try.underlying78, (show zinf Try.prog 78 = some (.agg #[.int .i64 0, .int .i64 0, .slice none 0 0, .int .i64 0, .slice none 0 0, .slice none 0 0]) by kernel_rfl), rfl, by kernel_rfl⟩⟩
theorem ti_2 : tinf Try.prog 2 = some (1, false) := by kernel_rfl
theorem ti_22 : tinf Try.prog 22 = some (1, false) := by kernel_rfl
theorem ti_24 : tinf Try.prog 24 = some (1, false) := by kernel_rfl
theorem ti_26 : tinf Try.prog 26 = some (3, true) := by kernel_rfl
theorem ti_27 : tinf Try.prog 27 = some (1, false) := by kernel_rfl
theorem ti_29 : tinf Try.prog 29 = some (3, true) := by kernel_rfl
theorem ti_3 : tinf Try.prog 3 = some (1, false) := by kernel_rfl
theorem ti_4 : tinf Try.prog 4 = some (1, false) := by kernel_rfl
theorem ti_46 : tinf Try.prog 46 = some (1, false) := by kernel_rfl
theorem ti_49 : tinf Try.prog 49 = some (3, true) := by kernel_rfl
theorem ti_5 : tinf Try.prog 5 = some (1, false) := by kernel_rfl
theorem ti_51 : tinf Try.prog 51 = some (1, false) := by kernel_rfl
theorem ti_60 : tinf Try.prog 60 = some (1, false) := by kernel_rfl
theorem ti_65 : tinf Try.prog 65 = some (1, false) := by kernel_rfl
theorem ti_71 : tinf Try.prog 71 = some (1, false) := by kernel_rfl
theorem ti_72 : tinf Try.prog 72 = some (1, false) := by kernel_rfl
theorem ti_9 : tinf Try.prog 9 = some (1, false) := by kernel_rfl
theorem zi_2 : zinf Try.prog 2 = some (.int .i64 0) := by kernel_rfl
theorem zi_26 : zinf Try.prog 26 = some (.agg #[.int .i64 0, .int .i64 0, .slice none 0 0]) := by kernel_rfl
theorem zi_29 : zinf Try.prog 29 = some (.agg #[.int .i64 0, .slice none 0 0, .slice none 0 0]) := by kernel_rfl
theorem zi_4 : zinf Try.prog 4 = some (.bool false) := by kernel_rfl
theorem zi_46 : zinf Try.prog 46 = some (.nilFunc) := by kernel_rfl
theorem zi_49 : zinf Try.prog 49 = some (.agg #[.int .i64 0, .int .i64 0, .int .i64 0]) := by kernel_rfl
theorem zi_71 : zinf Try.prog 71 = some (.slice none 0 0) := by kernel_rfl
theorem zi_72 : zinf Try.prog 72 = some (.nilFunc) := by kernel_rfl
theorem zi_9 : zinf Try.prog 9 = some (.string ⟨#[]⟩) := by kernel_rfl

end Go.Proofs.Ytabpcmbohmodnaa
