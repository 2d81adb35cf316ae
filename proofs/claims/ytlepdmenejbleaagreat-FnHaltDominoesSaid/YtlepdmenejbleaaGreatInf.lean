/-
  Facts on the types of the program. No condition.
-/
import Derived.Test.YtlepdmenejbleaaGreatProg
import Derived.Test.YtlepdmenejbleaaGreatTy
import Derived.KernelRfl
namespace Go.Proofs.YtlepdmenejbleaaGreat
open Go Go.Tc Go.Fn
theorem bi_105 : binf Tryz.prog 105 = some 24 := by kernel_rfl
theorem bi_2 : binf Tryz.prog 2 = some 8 := by kernel_rfl
theorem bi_27 : binf Tryz.prog 27 = some 24 := by kernel_rfl
theorem bi_88 : binf Tryz.prog 88 = some 48 := by kernel_rfl
theorem bi_95 : binf Tryz.prog 95 = some 48 := by kernel_rfl
theorem fi_103_0 : finf Tryz.prog 103 0 = some (0, 1) := by kernel_rfl
theorem fi_103_1 : finf Tryz.prog 103 1 = some (1, 1) := by kernel_rfl
theorem fi_103_2 : finf Tryz.prog 103 2 = some (2, 1) := by kernel_rfl
theorem fi_105_0 : finf Tryz.prog 105 0 = some (0, 1) := by kernel_rfl
theorem fi_105_1 : finf Tryz.prog 105 1 = some (1, 1) := by kernel_rfl
theorem fi_105_2 : finf Tryz.prog 105 2 = some (2, 1) := by kernel_rfl
theorem fi_110_0 : finf Tryz.prog 110 0 = some (0, 3) := by kernel_rfl
theorem fi_110_1 : finf Tryz.prog 110 1 = some (3, 1) := by kernel_rfl
theorem fi_110_2 : finf Tryz.prog 110 2 = some (4, 1) := by kernel_rfl
theorem fi_110_3 : finf Tryz.prog 110 3 = some (5, 1) := by kernel_rfl
theorem fi_26_0 : finf Tryz.prog 26 0 = some (0, 1) := by kernel_rfl
theorem fi_26_1 : finf Tryz.prog 26 1 = some (1, 1) := by kernel_rfl
theorem fi_26_2 : finf Tryz.prog 26 2 = some (2, 1) := by kernel_rfl
theorem fi_29_0 : finf Tryz.prog 29 0 = some (0, 1) := by kernel_rfl
theorem fi_29_1 : finf Tryz.prog 29 1 = some (1, 1) := by kernel_rfl
theorem fi_29_2 : finf Tryz.prog 29 2 = some (2, 1) := by kernel_rfl
theorem fi_70_0 : finf Tryz.prog 70 0 = some (0, 1) := by kernel_rfl
theorem fi_70_1 : finf Tryz.prog 70 1 = some (1, 1) := by kernel_rfl
theorem fi_74_0 : finf Tryz.prog 74 0 = some (0, 1) := by kernel_rfl
theorem fi_74_1 : finf Tryz.prog 74 1 = some (1, 1) := by kernel_rfl
theorem fi_74_2 : finf Tryz.prog 74 2 = some (2, 1) := by kernel_rfl
theorem fi_88_0 : finf Tryz.prog 88 0 = some (0, 1) := by kernel_rfl
theorem fi_88_1 : finf Tryz.prog 88 1 = some (1, 1) := by kernel_rfl
theorem fi_95_0 : finf Tryz.prog 95 0 = some (0, 1) := by kernel_rfl
theorem fi_95_1 : finf Tryz.prog 95 1 = some (1, 1) := by kernel_rfl
theorem ex_neq_seq_105 {n : Fr} {A : Nat → Prop} {w0 : World} {ρ : Env} {Γ : Ctx} {d : Option Nat} {ty : TypeId} {pos : String} {after : Array Edge} {g : Option (Nat × Bool)} {x y : Operand} {u : TypeId} {a0 a1 a2 b0 b1 b2 : Int} (hx : ev ρ x = some (.agg #[.int .i64 a0, .int .i64 a1, .int .i64 a2])) (hy : ev ρ y = some (.agg #[.int .i64 b0, .int .i64 b1, .int .i64 b2])) :
  Ex Tryz.prog n A w0 ρ Γ ⟨d, .binOp .neq 105 x y u, ty, pos, after, g⟩ (.bool (!(decide ((⟨a0, a1, a2⟩ : GRule) = ⟨b0, b1, b2⟩)))) := by
 intro a w hs hh
 simp only [execOp, hs.eval hx, hs.eval hy]
 simp [eqGuard, go_sem, Program.fieldsOf]
 by_cases e0 : a0 = b0 <;> simp [e0]
 all_goals (repeat (split <;> simp_all))
theorem si_103 : SInf Tryz.prog 103 [.slice none 0 0, .int .i64 0, .int .u64 0] := ⟨⟨_, _, Tryz.underlying103, (show zinf Tryz.prog 103 = some (.agg #[.slice none 0 0, .int .i64 0, .int .u64 0]) by kernel_rfl), rfl, by kernel_rfl⟩⟩
theorem si_105 : SInf Tryz.prog 105 [.int .i64 0, .int .i64 0, .int .i64 0] := ⟨⟨_, _, Tryz.underlying105, (show zinf Tryz.prog 105 = some (.agg #[.int .i64 0, .int .i64 0, .int .i64 0]) by kernel_rfl), rfl, by kernel_rfl⟩⟩
theorem si_110 : SInf Tryz.prog 110 [.int .i64 0, .int .i64 0, .slice none 0 0, .int .i64 0, .slice none 0 0, .slice none 0 0] := ⟨⟨_, _, Tryz.underlying110, (show zinf Tryz.prog 110 = some (.agg #[.int .i64 0, .int .i64 0, .slice none 0 0, .int .i64 0, .slice none 0 0, .slice none 0 0]) by kernel_rfl), rfl, by kernel_rfl⟩⟩
theorem si_26 : SInf Tryz.prog 26 [.int .i64 0, .int .i64 0, .slice none 0 0] := ⟨⟨_, _, Tryz.underlying26, (show zinf Tryz.prog 26 = some (.agg #[.int .i64 0, .int .i64 0, .slice none 0 0]) by kernel_rfl), rfl, by kernel_rfl⟩⟩
theorem si_29 : SInf Tryz.prog 29 [.int .i64 0, .slice none 0 0, .slice none 0 0] := ⟨⟨_, _, Tryz.underlying29, (show zinf Tryz.prog 29 = some (.agg #[.int .i64 0, .slice none 0 0, .slice none 0 0]) by kernel_rfl), rfl, by kernel_rfl⟩⟩
theorem si_70 : SInf Tryz.prog 70 [.int .i64 0, .int .i64 0] := ⟨⟨_, _, Tryz.underlying70, (show zinf Tryz.prog 70 = some (.agg #[.int .i64 0, .int .i64 0]) by kernel_rfl), rfl, by kernel_rfl⟩⟩
theorem si_74 : SInf Tryz.prog 74 [.int .i64 0, .int .i64 0, .slice none 0 0] := ⟨⟨_, _, Tryz.underlying74, (show zinf Tryz.prog 74 = some (.agg #[.int .i64 0, .int .i64 0, .slice none 0 0]) by kernel_rfl), rfl, by kernel_rfl⟩⟩
theorem si_88 : SInf Tryz.prog 88 [.slice none 0 0, .slice none 0 0] := ⟨⟨_, _, Tryz.underlying88, (show zinf Tryz.prog 88 = some (.agg #[.slice none 0 0, .slice none 0 0]) by kernel_rfl), rfl, by kernel_rfl⟩⟩
theorem si_95 : SInf Tryz.prog 95 [.slice none 0 0, .slice none 0 0] := ⟨⟨_, _, Tryz.underlying95, (show zinf Tryz.prog 95 = some (.agg #[.slice none 0 0, .slice none 0 0]) by kernel_rfl), rfl, by kernel_rfl⟩⟩
theorem ti_101 : tinf Tryz.prog 101 = some (1, false) := by kernel_rfl
theorem ti_105 : tinf Tryz.prog 105 = some (3, true) := by kernel_rfl
theorem ti_2 : tinf Tryz.prog 2 = some (1, false) := by kernel_rfl
theorem ti_22 : tinf Tryz.prog 22 = some (1, false) := by kernel_rfl
theorem ti_24 : tinf Tryz.prog 24 = some (1, false) := by kernel_rfl
theorem ti_26 : tinf Tryz.prog 26 = some (3, true) := by kernel_rfl
theorem ti_27 : tinf Tryz.prog 27 = some (1, false) := by kernel_rfl
theorem ti_29 : tinf Tryz.prog 29 = some (3, true) := by kernel_rfl
theorem ti_3 : tinf Tryz.prog 3 = some (1, false) := by kernel_rfl
theorem ti_34 : tinf Tryz.prog 34 = some (1, false) := by kernel_rfl
theorem ti_39 : tinf Tryz.prog 39 = some (1, false) := by kernel_rfl
theorem ti_4 : tinf Tryz.prog 4 = some (1, false) := by kernel_rfl
theorem ti_5 : tinf Tryz.prog 5 = some (1, false) := by kernel_rfl
theorem ti_60 : tinf Tryz.prog 60 = some (1, false) := by kernel_rfl
theorem ti_70 : tinf Tryz.prog 70 = some (2, true) := by kernel_rfl
theorem ti_74 : tinf Tryz.prog 74 = some (3, true) := by kernel_rfl
theorem ti_88 : tinf Tryz.prog 88 = some (2, true) := by kernel_rfl
theorem ti_95 : tinf Tryz.prog 95 = some (2, true) := by kernel_rfl
theorem zi_105 : zinf Tryz.prog 105 = some (.agg #[.int .i64 0, .int .i64 0, .int .i64 0]) := by kernel_rfl
theorem zi_2 : zinf Tryz.prog 2 = some (.int .i64 0) := by kernel_rfl
theorem zi_26 : zinf Tryz.prog 26 = some (.agg #[.int .i64 0, .int .i64 0, .slice none 0 0]) := by kernel_rfl
theorem zi_27 : zinf Tryz.prog 27 = some (.slice none 0 0) := by kernel_rfl
theorem zi_29 : zinf Tryz.prog 29 = some (.agg #[.int .i64 0, .slice none 0 0, .slice none 0 0]) := by kernel_rfl
theorem zi_34 : zinf Tryz.prog 34 = some (.slice none 0 0) := by kernel_rfl
theorem zi_39 : zinf Tryz.prog 39 = some (.slice none 0 0) := by kernel_rfl
theorem zi_4 : zinf Tryz.prog 4 = some (.bool false) := by kernel_rfl
theorem zi_70 : zinf Tryz.prog 70 = some (.agg #[.int .i64 0, .int .i64 0]) := by kernel_rfl
theorem zi_74 : zinf Tryz.prog 74 = some (.agg #[.int .i64 0, .int .i64 0, .slice none 0 0]) := by kernel_rfl
theorem zi_88 : zinf Tryz.prog 88 = some (.agg #[.slice none 0 0, .slice none 0 0]) := by kernel_rfl
theorem zi_95 : zinf Tryz.prog 95 = some (.agg #[.slice none 0 0, .slice none 0 0]) := by kernel_rfl
end Go.Proofs.YtlepdmenejbleaaGreat
