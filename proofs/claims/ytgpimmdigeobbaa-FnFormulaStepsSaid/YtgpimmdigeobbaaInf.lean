/-
  Facts on the types of the program. No condition.
-/
import Derived.Test.YtgpimmdigeobbaaProg
import Derived.Test.YtgpimmdigeobbaaTy
import Derived.KernelRfl
namespace Go.Proofs.Ytgpimmdigeobbaa
open Go Go.Tc Go.Fn
theorem bi_2 : binf Try.prog 2 = some 8 := by kernel_rfl
theorem bi_29 : binf Try.prog 29 = some 24 := by kernel_rfl
theorem bi_88 : binf Try.prog 88 = some 24 := by kernel_rfl
theorem bi_9 : binf Try.prog 9 = some 16 := by kernel_rfl
theorem fi_26_0 : finf Try.prog 26 0 = some (0, 1) := by kernel_rfl
theorem fi_26_1 : finf Try.prog 26 1 = some (1, 1) := by kernel_rfl
theorem fi_26_2 : finf Try.prog 26 2 = some (2, 1) := by kernel_rfl
theorem fi_31_0 : finf Try.prog 31 0 = some (0, 1) := by kernel_rfl
theorem fi_31_1 : finf Try.prog 31 1 = some (1, 1) := by kernel_rfl
theorem fi_31_2 : finf Try.prog 31 2 = some (2, 1) := by kernel_rfl
theorem fi_31_3 : finf Try.prog 31 3 = some (3, 1) := by kernel_rfl
theorem fi_31_4 : finf Try.prog 31 4 = some (4, 1) := by kernel_rfl
theorem fi_31_5 : finf Try.prog 31 5 = some (5, 1) := by kernel_rfl
theorem fi_35_0 : finf Try.prog 35 0 = some (0, 1) := by kernel_rfl
theorem fi_35_1 : finf Try.prog 35 1 = some (1, 1) := by kernel_rfl
theorem fi_35_2 : finf Try.prog 35 2 = some (2, 1) := by kernel_rfl
theorem fi_71_0 : finf Try.prog 71 0 = some (0, 1) := by kernel_rfl
theorem fi_71_1 : finf Try.prog 71 1 = some (1, 1) := by kernel_rfl
theorem fi_71_2 : finf Try.prog 71 2 = some (2, 1) := by kernel_rfl
theorem fi_88_0 : finf Try.prog 88 0 = some (0, 1) := by kernel_rfl
theorem fi_88_1 : finf Try.prog 88 1 = some (1, 1) := by kernel_rfl
theorem fi_88_2 : finf Try.prog 88 2 = some (2, 1) := by kernel_rfl
theorem fi_95_0 : finf Try.prog 95 0 = some (0, 3) := by kernel_rfl
theorem fi_95_1 : finf Try.prog 95 1 = some (3, 1) := by kernel_rfl
theorem fi_95_2 : finf Try.prog 95 2 = some (4, 1) := by kernel_rfl
theorem fi_95_3 : finf Try.prog 95 3 = some (5, 1) := by kernel_rfl
theorem ex_eql_seq_88 {n : Fr} {A : Nat → Prop} {w0 : World} {ρ : Env} {Γ : Ctx} {d : Option Nat} {ty : TypeId} {pos : String} {after : Array Edge} {g : Option (Nat × Bool)} {x y : Operand} {u : TypeId} {a0 a1 a2 b0 b1 b2 : Int} (hx : ev ρ x = some (.agg #[.int .i64 a0, .int .i64 a1, .int .i64 a2])) (hy : ev ρ y = some (.agg #[.int .i64 b0, .int .i64 b1, .int .i64 b2])) :
  Ex Try.prog n A w0 ρ Γ ⟨d, .binOp .eql 88 x y u, ty, pos, after, g⟩ (.bool (decide ((⟨a0, a1, a2⟩ : GRule) = ⟨b0, b1, b2⟩))) := by
 intro a w hs hh
 simp only [execOp, hs.eval hx, hs.eval hy]
 simp [eqGuard, go_sem, Program.fieldsOf]
 by_cases e0 : a0 = b0 <;> simp [e0]
 all_goals (repeat (split <;> simp_all))
theorem ex_neq_seq_88 {n : Fr} {A : Nat → Prop} {w0 : World} {ρ : Env} {Γ : Ctx} {d : Option Nat} {ty : TypeId} {pos : String} {after : Array Edge} {g : Option (Nat × Bool)} {x y : Operand} {u : TypeId} {a0 a1 a2 b0 b1 b2 : Int} (hx : ev ρ x = some (.agg #[.int .i64 a0, .int .i64 a1, .int .i64 a2])) (hy : ev ρ y = some (.agg #[.int .i64 b0, .int .i64 b1, .int .i64 b2])) :
  Ex Try.prog n A w0 ρ Γ ⟨d, .binOp .neq 88 x y u, ty, pos, after, g⟩ (.bool (!(decide ((⟨a0, a1, a2⟩ : GRule) = ⟨b0, b1, b2⟩)))) := by
 intro a w hs hh
 simp only [execOp, hs.eval hx, hs.eval hy]
 simp [eqGuard, go_sem, Program.fieldsOf]
 by_cases e0 : a0 = b0 <;> simp [e0]
 all_goals (repeat (split <;> simp_all))
theorem si_26 : SInf Try.prog 26 [.int .i64 0, .int .i64 0, .slice none 0 0] := ⟨⟨_, _, Try.underlying26, (show zinf Try.prog 26 = some (.agg #[.int .i64 0, .int .i64 0, .slice none 0 0]) by kernel_rfl), rfl, by kernel_rfl⟩⟩
theorem si_31 : SInf Try.prog 31 [.int .i64 0, .int .i64 0, .int .i64 0, .slice none 0 0, .slice none 0 0, .slice none 0 0] := ⟨⟨_, _, Try.underlying31, (show zinf Try.prog 31 = some (.agg #[.int .i64 0, .int .i64 0, .int .i64 0, .slice none 0 0, .slice none 0 0, .slice none 0 0]) by kernel_rfl), rfl, by kernel_rfl⟩⟩
theorem si_35 : SInf Try.prog 35 [.int .i64 0, .slice none 0 0, .slice none 0 0] := ⟨⟨_, _, Try.underlying35, (show zinf Try.prog 35 = some (.agg #[.int .i64 0, .slice none 0 0, .slice none 0 0]) by kernel_rfl), rfl, by kernel_rfl⟩⟩
theorem si_71 : SInf Try.prog 71 [.slice none 0 0, .int .i64 0, .int .u64 0] := ⟨⟨_, _, Try.underlying71, (show zinf Try.prog 71 = some (.agg #[.slice none 0 0, .int .i64 0, .int .u64 0]) by kernel_rfl), rfl, by kernel_rfl⟩⟩
theorem si_88 : SInf Try.prog 88 [.int .i64 0, .int .i64 0, .int .i64 0] := ⟨⟨_, _, Try.underlying88, (show zinf Try.prog 88 = some (.agg #[.int .i64 0, .int .i64 0, .int .i64 0]) by kernel_rfl), rfl, by kernel_rfl⟩⟩
theorem si_95 : SInf Try.prog 95 [.int .i64 0, .int .i64 0, .slice none 0 0, .int .i64 0, .slice none 0 0, .slice none 0 0] := ⟨⟨_, _, Try.underlying95, (show zinf Try.prog 95 = some (.agg #[.int .i64 0, .int .i64 0, .slice none 0 0, .int .i64 0, .slice none 0 0, .slice none 0 0]) by kernel_rfl), rfl, by kernel_rfl⟩⟩
theorem ti_2 : tinf Try.prog 2 = some (1, false) := by kernel_rfl
theorem ti_22 : tinf Try.prog 22 = some (1, false) := by kernel_rfl
theorem ti_24 : tinf Try.prog 24 = some (1, false) := by kernel_rfl
theorem ti_26 : tinf Try.prog 26 = some (3, true) := by kernel_rfl
theorem ti_28 : tinf Try.prog 28 = some (1, false) := by kernel_rfl
theorem ti_29 : tinf Try.prog 29 = some (1, false) := by kernel_rfl
theorem ti_3 : tinf Try.prog 3 = some (1, false) := by kernel_rfl
theorem ti_31 : tinf Try.prog 31 = some (6, true) := by kernel_rfl
theorem ti_35 : tinf Try.prog 35 = some (3, true) := by kernel_rfl
theorem ti_4 : tinf Try.prog 4 = some (1, false) := by kernel_rfl
theorem ti_5 : tinf Try.prog 5 = some (1, false) := by kernel_rfl
theorem ti_60 : tinf Try.prog 60 = some (1, false) := by kernel_rfl
theorem ti_69 : tinf Try.prog 69 = some (1, false) := by kernel_rfl
theorem ti_88 : tinf Try.prog 88 = some (3, true) := by kernel_rfl
theorem ti_9 : tinf Try.prog 9 = some (1, false) := by kernel_rfl
theorem zi_2 : zinf Try.prog 2 = some (.int .i64 0) := by kernel_rfl
theorem zi_26 : zinf Try.prog 26 = some (.agg #[.int .i64 0, .int .i64 0, .slice none 0 0]) := by kernel_rfl
theorem zi_29 : zinf Try.prog 29 = some (.slice none 0 0) := by kernel_rfl
theorem zi_31 : zinf Try.prog 31 = some (.agg #[.int .i64 0, .int .i64 0, .int .i64 0, .slice none 0 0, .slice none 0 0, .slice none 0 0]) := by kernel_rfl
theorem zi_35 : zinf Try.prog 35 = some (.agg #[.int .i64 0, .slice none 0 0, .slice none 0 0]) := by kernel_rfl
theorem zi_4 : zinf Try.prog 4 = some (.bool false) := by kernel_rfl
theorem zi_88 : zinf Try.prog 88 = some (.agg #[.int .i64 0, .int .i64 0, .int .i64 0]) := by kernel_rfl
theorem zi_9 : zinf Try.prog 9 = some (.string ⟨#[]⟩) := by kernel_rfl
end Go.Proofs.Ytgpimmdigeobbaa
