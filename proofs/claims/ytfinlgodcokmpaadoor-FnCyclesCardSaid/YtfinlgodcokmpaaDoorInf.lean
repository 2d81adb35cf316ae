/-
  Facts on the types of the program. No condition.
-/
import Derived.Test.YtfinlgodcokmpaaDoorProg
import Derived.Test.YtfinlgodcokmpaaDoorTy
import Derived.KernelRfl
namespace Go.Proofs.YtfinlgodcokmpaaDoor
open Go Go.Tc Go.Fn
theorem bi_2 : binf Tryd.prog 2 = some 8 := by kernel_rfl
theorem bi_5 : binf Tryd.prog 5 = some 1 := by kernel_rfl
theorem bi_82 : binf Tryd.prog 82 = some 24 := by kernel_rfl
theorem bi_9 : binf Tryd.prog 9 = some 16 := by kernel_rfl
theorem ext_86 (v : Value) : ∀ w, (callFunc 86 [v].toArray).run Tryd.prog w = .ok (.value v) w := fun w => by kernel_rfl
theorem fi_26_0 : finf Tryd.prog 26 0 = some (0, 1) := by kernel_rfl
theorem fi_26_1 : finf Tryd.prog 26 1 = some (1, 1) := by kernel_rfl
theorem fi_26_2 : finf Tryd.prog 26 2 = some (2, 1) := by kernel_rfl
theorem fi_31_0 : finf Tryd.prog 31 0 = some (0, 1) := by kernel_rfl
theorem fi_31_1 : finf Tryd.prog 31 1 = some (1, 1) := by kernel_rfl
theorem fi_31_2 : finf Tryd.prog 31 2 = some (2, 1) := by kernel_rfl
theorem fi_35_0 : finf Tryd.prog 35 0 = some (0, 1) := by kernel_rfl
theorem fi_35_1 : finf Tryd.prog 35 1 = some (1, 1) := by kernel_rfl
theorem fi_35_2 : finf Tryd.prog 35 2 = some (2, 1) := by kernel_rfl
theorem fi_69_0 : finf Tryd.prog 69 0 = some (0, 1) := by kernel_rfl
theorem fi_69_1 : finf Tryd.prog 69 1 = some (1, 1) := by kernel_rfl
theorem fi_69_2 : finf Tryd.prog 69 2 = some (2, 1) := by kernel_rfl
theorem fi_79_0 : finf Tryd.prog 79 0 = some (0, 3) := by kernel_rfl
theorem fi_79_1 : finf Tryd.prog 79 1 = some (3, 1) := by kernel_rfl
theorem fi_79_2 : finf Tryd.prog 79 2 = some (4, 1) := by kernel_rfl
theorem fi_79_3 : finf Tryd.prog 79 3 = some (5, 1) := by kernel_rfl
theorem fi_82_0 : finf Tryd.prog 82 0 = some (0, 1) := by kernel_rfl
theorem fi_82_1 : finf Tryd.prog 82 1 = some (1, 1) := by kernel_rfl
theorem fi_82_2 : finf Tryd.prog 82 2 = some (2, 1) := by kernel_rfl
theorem fi_96_0 : finf Tryd.prog 96 0 = some (0, 1) := by kernel_rfl
theorem fi_96_1 : finf Tryd.prog 96 1 = some (1, 1) := by kernel_rfl
theorem key_9 : KeyOk Tryd.prog 9 Value.string := keyok_str Tryd.underlying9
theorem ex_eql_seq_82 {n : Fr} {A : Nat → Prop} {w0 : World} {ρ : Env} {Γ : Ctx} {d : Option Nat} {ty : TypeId} {pos : String} {after : Array Edge} {g : Option (Nat × Bool)} {x y : Operand} {u : TypeId} {a0 a1 a2 b0 b1 b2 : Int} (hx : ev ρ x = some (.agg #[.int .i64 a0, .int .i64 a1, .int .i64 a2])) (hy : ev ρ y = some (.agg #[.int .i64 b0, .int .i64 b1, .int .i64 b2])) :
    Ex Tryd.prog n A w0 ρ Γ ⟨d, .binOp .eql 82 x y u, ty, pos, after, g⟩ (.bool (decide ((⟨a0, a1, a2⟩ : GRule) = ⟨b0, b1, b2⟩))) := by
  intro a w hs hh
  simp only [execOp, hs.eval hx, hs.eval hy]
  simp [eqGuard, go_sem, Program.fieldsOf]
  by_cases e0 : a0 = b0 <;> simp [e0]
  all_goals (repeat (split <;> simp_all))
theorem ex_neq_seq_82 {n : Fr} {A : Nat → Prop} {w0 : World} {ρ : Env} {Γ : Ctx} {d : Option Nat} {ty : TypeId} {pos : String} {after : Array Edge} {g : Option (Nat × Bool)} {x y : Operand} {u : TypeId} {a0 a1 a2 b0 b1 b2 : Int} (hx : ev ρ x = some (.agg #[.int .i64 a0, .int .i64 a1, .int .i64 a2])) (hy : ev ρ y = some (.agg #[.int .i64 b0, .int .i64 b1, .int .i64 b2])) :
    Ex Tryd.prog n A w0 ρ Γ ⟨d, .binOp .neq 82 x y u, ty, pos, after, g⟩ (.bool (!(decide ((⟨a0, a1, a2⟩ : GRule) = ⟨b0, b1, b2⟩)))) := by
  intro a w hs hh
  simp only [execOp, hs.eval hx, hs.eval hy]
  simp [eqGuard, go_sem, Program.fieldsOf]
  by_cases e0 : a0 = b0 <;> simp [e0]
  all_goals (repeat (split <;> simp_all))
theorem si_26 : SInf Tryd.prog 26 [.int .i64 0, .int .i64 0, .slice none 0 0] := ⟨⟨_, _, Tryd.underlying26, (show zinf Tryd.prog 26 = some (.agg #[.int .i64 0, .int .i64 0, .slice none 0 0]) by kernel_rfl), rfl, by kernel_rfl⟩⟩
theorem si_31 : SInf Tryd.prog 31 [.int .i64 0, .slice none 0 0, .slice none 0 0] := ⟨⟨_, _, Tryd.underlying31, (show zinf Tryd.prog 31 = some (.agg #[.int .i64 0, .slice none 0 0, .slice none 0 0]) by kernel_rfl), rfl, by kernel_rfl⟩⟩
theorem si_35 : SInf Tryd.prog 35 [.int .i64 0, .slice none 0 0, .slice none 0 0] := ⟨⟨_, _, Tryd.underlying35, (show zinf Tryd.prog 35 = some (.agg #[.int .i64 0, .slice none 0 0, .slice none 0 0]) by kernel_rfl), rfl, by kernel_rfl⟩⟩
theorem si_69 : SInf Tryd.prog 69 [.slice none 0 0, .int .i64 0, .int .u64 0] := ⟨⟨_, _, Tryd.underlying69, (show zinf Tryd.prog 69 = some (.agg #[.slice none 0 0, .int .i64 0, .int .u64 0]) by kernel_rfl), rfl, by kernel_rfl⟩⟩
theorem si_79 : SInf Tryd.prog 79 [.int .i64 0, .int .i64 0, .slice none 0 0, .int .i64 0, .slice none 0 0, .slice none 0 0] := ⟨⟨_, _, Tryd.underlying79, (show zinf Tryd.prog 79 = some (.agg #[.int .i64 0, .int .i64 0, .slice none 0 0, .int .i64 0, .slice none 0 0, .slice none 0 0]) by kernel_rfl), rfl, by kernel_rfl⟩⟩
theorem si_82 : SInf Tryd.prog 82 [.int .i64 0, .int .i64 0, .int .i64 0] := ⟨⟨_, _, Tryd.underlying82, (show zinf Tryd.prog 82 = some (.agg #[.int .i64 0, .int .i64 0, .int .i64 0]) by kernel_rfl), rfl, by kernel_rfl⟩⟩
theorem ti_2 : tinf Tryd.prog 2 = some (1, false) := by kernel_rfl
theorem ti_22 : tinf Tryd.prog 22 = some (1, false) := by kernel_rfl
theorem ti_24 : tinf Tryd.prog 24 = some (1, false) := by kernel_rfl
theorem ti_26 : tinf Tryd.prog 26 = some (3, true) := by kernel_rfl
theorem ti_28 : tinf Tryd.prog 28 = some (1, false) := by kernel_rfl
theorem ti_29 : tinf Tryd.prog 29 = some (1, false) := by kernel_rfl
theorem ti_3 : tinf Tryd.prog 3 = some (1, false) := by kernel_rfl
theorem ti_31 : tinf Tryd.prog 31 = some (3, true) := by kernel_rfl
theorem ti_35 : tinf Tryd.prog 35 = some (3, true) := by kernel_rfl
theorem ti_4 : tinf Tryd.prog 4 = some (1, false) := by kernel_rfl
theorem ti_47 : tinf Tryd.prog 47 = some (1, false) := by kernel_rfl
theorem ti_49 : tinf Tryd.prog 49 = some (1, false) := by kernel_rfl
theorem ti_5 : tinf Tryd.prog 5 = some (1, false) := by kernel_rfl
theorem ti_67 : tinf Tryd.prog 67 = some (1, false) := by kernel_rfl
theorem ti_82 : tinf Tryd.prog 82 = some (3, true) := by kernel_rfl
theorem ti_9 : tinf Tryd.prog 9 = some (1, false) := by kernel_rfl
theorem ti_94 : tinf Tryd.prog 94 = some (1, false) := by kernel_rfl
theorem ti_96 : tinf Tryd.prog 96 = some (2, true) := by kernel_rfl
theorem zi_127 : zinf Tryd.prog 127 = some (.agg #[.int .u8 0, .int .u8 0, .int .u8 0, .int .u8 0, .int .u8 0, .int .u8 0, .int .u8 0, .int .u8 0, .int .u8 0, .int .u8 0, .int .u8 0, .int .u8 0, .int .u8 0, .int .u8 0, .int .u8 0, .int .u8 0, .int .u8 0, .int .u8 0, .int .u8 0, .int .u8 0, .int .u8 0, .int .u8 0, .int .u8 0, .int .u8 0]) := by kernel_rfl
theorem zi_2 : zinf Tryd.prog 2 = some (.int .i64 0) := by kernel_rfl
theorem zi_26 : zinf Tryd.prog 26 = some (.agg #[.int .i64 0, .int .i64 0, .slice none 0 0]) := by kernel_rfl
theorem zi_31 : zinf Tryd.prog 31 = some (.agg #[.int .i64 0, .slice none 0 0, .slice none 0 0]) := by kernel_rfl
theorem zi_35 : zinf Tryd.prog 35 = some (.agg #[.int .i64 0, .slice none 0 0, .slice none 0 0]) := by kernel_rfl
theorem zi_4 : zinf Tryd.prog 4 = some (.bool false) := by kernel_rfl
theorem zi_47 : zinf Tryd.prog 47 = some (.pointer none) := by kernel_rfl
theorem zi_49 : zinf Tryd.prog 49 = some (.map none) := by kernel_rfl
theorem zi_5 : zinf Tryd.prog 5 = some (.int .u8 0) := by kernel_rfl
theorem zi_82 : zinf Tryd.prog 82 = some (.agg #[.int .i64 0, .int .i64 0, .int .i64 0]) := by kernel_rfl
theorem zi_9 : zinf Tryd.prog 9 = some (.string ⟨#[]⟩) := by kernel_rfl
theorem zi_96 : zinf Tryd.prog 96 = some (.agg #[.pointer none, .slice none 0 0]) := by kernel_rfl

end Go.Proofs.YtfinlgodcokmpaaDoor
