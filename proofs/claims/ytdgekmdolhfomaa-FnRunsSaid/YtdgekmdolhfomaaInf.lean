/-
  Facts on the types of the program. No condition.
-/
import Derived.Test.YtdgekmdolhfomaaProg
import Derived.Test.YtdgekmdolhfomaaTy
import Derived.KernelRfl
namespace Go.Proofs.Ytdgekmdolhfomaa
open Go Go.Tc Go.Fn
theorem bi_179 : binf Try.prog 179 = some 24 := by kernel_rfl
theorem bi_2 : binf Try.prog 2 = some 8 := by kernel_rfl
theorem bi_23 : binf Try.prog 23 = some 24 := by kernel_rfl
theorem bi_44 : binf Try.prog 44 = some 56 := by kernel_rfl
theorem bi_79 : binf Try.prog 79 = some 32 := by kernel_rfl
theorem bi_9 : binf Try.prog 9 = some 16 := by kernel_rfl
theorem fi_144_0 : finf Try.prog 144 0 = some (0, 1) := by kernel_rfl
theorem fi_144_1 : finf Try.prog 144 1 = some (1, 1) := by kernel_rfl
theorem fi_144_2 : finf Try.prog 144 2 = some (2, 1) := by kernel_rfl
theorem fi_152_0 : finf Try.prog 152 0 = some (0, 3) := by kernel_rfl
theorem fi_152_1 : finf Try.prog 152 1 = some (3, 1) := by kernel_rfl
theorem fi_152_2 : finf Try.prog 152 2 = some (4, 1) := by kernel_rfl
theorem fi_152_3 : finf Try.prog 152 3 = some (5, 1) := by kernel_rfl
theorem fi_179_0 : finf Try.prog 179 0 = some (0, 1) := by kernel_rfl
theorem fi_179_1 : finf Try.prog 179 1 = some (1, 1) := by kernel_rfl
theorem fi_179_2 : finf Try.prog 179 2 = some (2, 1) := by kernel_rfl
theorem fi_42_0 : finf Try.prog 42 0 = some (0, 1) := by kernel_rfl
theorem fi_42_1 : finf Try.prog 42 1 = some (1, 1) := by kernel_rfl
theorem fi_42_2 : finf Try.prog 42 2 = some (2, 1) := by kernel_rfl
theorem fi_44_0 : finf Try.prog 44 0 = some (0, 1) := by kernel_rfl
theorem fi_44_1 : finf Try.prog 44 1 = some (1, 1) := by kernel_rfl
theorem fi_44_2 : finf Try.prog 44 2 = some (2, 1) := by kernel_rfl
theorem fi_76_0 : finf Try.prog 76 0 = some (0, 1) := by kernel_rfl
theorem fi_76_1 : finf Try.prog 76 1 = some (1, 1) := by kernel_rfl
theorem fi_76_2 : finf Try.prog 76 2 = some (2, 1) := by kernel_rfl
theorem fi_76_3 : finf Try.prog 76 3 = some (3, 1) := by kernel_rfl
theorem fi_76_4 : finf Try.prog 76 4 = some (4, 1) := by kernel_rfl
theorem fi_76_5 : finf Try.prog 76 5 = some (5, 1) := by kernel_rfl
theorem fi_76_6 : finf Try.prog 76 6 = some (6, 1) := by kernel_rfl
theorem fi_76_7 : finf Try.prog 76 7 = some (7, 1) := by kernel_rfl
theorem fi_76_8 : finf Try.prog 76 8 = some (8, 1) := by kernel_rfl
theorem fi_79_0 : finf Try.prog 79 0 = some (0, 1) := by kernel_rfl
theorem fi_79_1 : finf Try.prog 79 1 = some (1, 1) := by kernel_rfl
theorem fi_79_2 : finf Try.prog 79 2 = some (2, 1) := by kernel_rfl
theorem fi_79_3 : finf Try.prog 79 3 = some (3, 1) := by kernel_rfl
theorem fi_81_0 : finf Try.prog 81 0 = some (0, 1) := by kernel_rfl
theorem fi_81_1 : finf Try.prog 81 1 = some (1, 1) := by kernel_rfl
theorem fi_81_2 : finf Try.prog 81 2 = some (2, 1) := by kernel_rfl
theorem fi_81_3 : finf Try.prog 81 3 = some (3, 1) := by kernel_rfl
theorem fi_91_0 : finf Try.prog 91 0 = some (0, 1) := by kernel_rfl
theorem fi_91_1 : finf Try.prog 91 1 = some (1, 1) := by kernel_rfl
theorem fi_91_2 : finf Try.prog 91 2 = some (2, 1) := by kernel_rfl
theorem fi_91_3 : finf Try.prog 91 3 = some (3, 1) := by kernel_rfl
theorem ex_eql_seq_179 {n : Fr} {A : Nat → Prop} {w0 : World} {ρ : Env} {Γ : Ctx} {d : Option Nat} {ty : TypeId} {pos : String} {after : Array Edge} {g : Option (Nat × Bool)} {x y : Operand} {u : TypeId} {a0 a1 a2 b0 b1 b2 : Int} (hx : ev ρ x = some (.agg #[.int .i64 a0, .int .i64 a1, .int .i64 a2])) (hy : ev ρ y = some (.agg #[.int .i64 b0, .int .i64 b1, .int .i64 b2])) :
    Ex Try.prog n A w0 ρ Γ ⟨d, .binOp .eql 179 x y u, ty, pos, after, g⟩ (.bool (decide ((⟨a0, a1, a2⟩ : GRule) = ⟨b0, b1, b2⟩))) := by
  intro a w hs hh
  simp only [execOp, hs.eval hx, hs.eval hy]
  simp [eqGuard, go_sem, Program.fieldsOf]
  by_cases e0 : a0 = b0 <;> simp [e0]
  all_goals (repeat (split <;> simp_all))
theorem ex_neq_seq_179 {n : Fr} {A : Nat → Prop} {w0 : World} {ρ : Env} {Γ : Ctx} {d : Option Nat} {ty : TypeId} {pos : String} {after : Array Edge} {g : Option (Nat × Bool)} {x y : Operand} {u : TypeId} {a0 a1 a2 b0 b1 b2 : Int} (hx : ev ρ x = some (.agg #[.int .i64 a0, .int .i64 a1, .int .i64 a2])) (hy : ev ρ y = some (.agg #[.int .i64 b0, .int .i64 b1, .int .i64 b2])) :
    Ex Try.prog n A w0 ρ Γ ⟨d, .binOp .neq 179 x y u, ty, pos, after, g⟩ (.bool (!(decide ((⟨a0, a1, a2⟩ : GRule) = ⟨b0, b1, b2⟩)))) := by
  intro a w hs hh
  simp only [execOp, hs.eval hx, hs.eval hy]
  simp [eqGuard, go_sem, Program.fieldsOf]
  by_cases e0 : a0 = b0 <;> simp [e0]
  all_goals (repeat (split <;> simp_all))
theorem ex_eql_seq_79 {n : Fr} {A : Nat → Prop} {w0 : World} {ρ : Env} {Γ : Ctx} {d : Option Nat} {ty : TypeId} {pos : String} {after : Array Edge} {g : Option (Nat × Bool)} {x y : Operand} {u : TypeId} {a0 a1 a2 a3 b0 b1 b2 b3 : Int} (hx : ev ρ x = some (.agg #[.int .i64 a0, .int .i64 a1, .int .i64 a2, .int .i64 a3])) (hy : ev ρ y = some (.agg #[.int .i64 b0, .int .i64 b1, .int .i64 b2, .int .i64 b3])) :
    Ex Try.prog n A w0 ρ Γ ⟨d, .binOp .eql 79 x y u, ty, pos, after, g⟩ (.bool (decide ((⟨a0, a1, a2, a3⟩ : GTile) = ⟨b0, b1, b2, b3⟩))) := by
  intro a w hs hh
  simp only [execOp, hs.eval hx, hs.eval hy]
  simp [eqGuard, go_sem, Program.fieldsOf]
  by_cases e0 : a0 = b0 <;> simp [e0]
  all_goals (repeat (split <;> simp_all))
theorem ex_neq_seq_79 {n : Fr} {A : Nat → Prop} {w0 : World} {ρ : Env} {Γ : Ctx} {d : Option Nat} {ty : TypeId} {pos : String} {after : Array Edge} {g : Option (Nat × Bool)} {x y : Operand} {u : TypeId} {a0 a1 a2 a3 b0 b1 b2 b3 : Int} (hx : ev ρ x = some (.agg #[.int .i64 a0, .int .i64 a1, .int .i64 a2, .int .i64 a3])) (hy : ev ρ y = some (.agg #[.int .i64 b0, .int .i64 b1, .int .i64 b2, .int .i64 b3])) :
    Ex Try.prog n A w0 ρ Γ ⟨d, .binOp .neq 79 x y u, ty, pos, after, g⟩ (.bool (!(decide ((⟨a0, a1, a2, a3⟩ : GTile) = ⟨b0, b1, b2, b3⟩)))) := by
  intro a w hs hh
  simp only [execOp, hs.eval hx, hs.eval hy]
  simp [eqGuard, go_sem, Program.fieldsOf]
  by_cases e0 : a0 = b0 <;> simp [e0]
  all_goals (repeat (split <;> simp_all))
theorem si_144 : SInf Try.prog 144 [.slice none 0 0, .int .i64 0, .int .u64 0] := ⟨⟨_, _, Try.underlying144, (show zinf Try.prog 144 = some (.agg #[.slice none 0 0, .int .i64 0, .int .u64 0]) by kernel_rfl), rfl, by kernel_rfl⟩⟩
theorem si_152 : SInf Try.prog 152 [.int .i64 0, .int .i64 0, .slice none 0 0, .int .i64 0, .slice none 0 0, .slice none 0 0] := ⟨⟨_, _, Try.underlying152, (show zinf Try.prog 152 = some (.agg #[.int .i64 0, .int .i64 0, .slice none 0 0, .int .i64 0, .slice none 0 0, .slice none 0 0]) by kernel_rfl), rfl, by kernel_rfl⟩⟩
theorem si_179 : SInf Try.prog 179 [.int .i64 0, .int .i64 0, .int .i64 0] := ⟨⟨_, _, Try.underlying179, (show zinf Try.prog 179 = some (.agg #[.int .i64 0, .int .i64 0, .int .i64 0]) by kernel_rfl), rfl, by kernel_rfl⟩⟩
theorem si_42 : SInf Try.prog 42 [.int .i64 0, .int .i64 0, .slice none 0 0] := ⟨⟨_, _, Try.underlying42, (show zinf Try.prog 42 = some (.agg #[.int .i64 0, .int .i64 0, .slice none 0 0]) by kernel_rfl), rfl, by kernel_rfl⟩⟩
theorem si_44 : SInf Try.prog 44 [.int .i64 0, .slice none 0 0, .slice none 0 0] := ⟨⟨_, _, Try.underlying44, (show zinf Try.prog 44 = some (.agg #[.int .i64 0, .slice none 0 0, .slice none 0 0]) by kernel_rfl), rfl, by kernel_rfl⟩⟩
theorem si_76 : SInf Try.prog 76 [.slice none 0 0, .slice none 0 0, .int .i64 0, .int .i64 0, .bool false, .int .i64 0, .int .i64 0, .bool false, .slice none 0 0] := ⟨⟨_, _, Try.underlying76, (show zinf Try.prog 76 = some (.agg #[.slice none 0 0, .slice none 0 0, .int .i64 0, .int .i64 0, .bool false, .int .i64 0, .int .i64 0, .bool false, .slice none 0 0]) by kernel_rfl), rfl, by kernel_rfl⟩⟩
theorem si_91 : SInf Try.prog 91 [.slice none 0 0, .slice none 0 0, .slice none 0 0, .int .i64 0] := ⟨⟨_, _, Try.underlying91, (show zinf Try.prog 91 = some (.agg #[.slice none 0 0, .slice none 0 0, .slice none 0 0, .int .i64 0]) by kernel_rfl), rfl, by kernel_rfl⟩⟩
theorem ti_103 : tinf Try.prog 103 = some (1, false) := by kernel_rfl
theorem ti_142 : tinf Try.prog 142 = some (1, false) := by kernel_rfl
theorem ti_179 : tinf Try.prog 179 = some (3, true) := by kernel_rfl
theorem ti_2 : tinf Try.prog 2 = some (1, false) := by kernel_rfl
theorem ti_23 : tinf Try.prog 23 = some (1, false) := by kernel_rfl
theorem ti_25 : tinf Try.prog 25 = some (1, false) := by kernel_rfl
theorem ti_28 : tinf Try.prog 28 = some (1, false) := by kernel_rfl
theorem ti_3 : tinf Try.prog 3 = some (1, false) := by kernel_rfl
theorem ti_38 : tinf Try.prog 38 = some (1, false) := by kernel_rfl
theorem ti_4 : tinf Try.prog 4 = some (1, false) := by kernel_rfl
theorem ti_40 : tinf Try.prog 40 = some (1, false) := by kernel_rfl
theorem ti_42 : tinf Try.prog 42 = some (3, true) := by kernel_rfl
theorem ti_44 : tinf Try.prog 44 = some (3, true) := by kernel_rfl
theorem ti_48 : tinf Try.prog 48 = some (1, false) := by kernel_rfl
theorem ti_5 : tinf Try.prog 5 = some (1, false) := by kernel_rfl
theorem ti_79 : tinf Try.prog 79 = some (4, true) := by kernel_rfl
theorem ti_81 : tinf Try.prog 81 = some (4, true) := by kernel_rfl
theorem ti_9 : tinf Try.prog 9 = some (1, false) := by kernel_rfl
theorem zi_103 : zinf Try.prog 103 = some (.pointer none) := by kernel_rfl
theorem zi_179 : zinf Try.prog 179 = some (.agg #[.int .i64 0, .int .i64 0, .int .i64 0]) := by kernel_rfl
theorem zi_2 : zinf Try.prog 2 = some (.int .i64 0) := by kernel_rfl
theorem zi_23 : zinf Try.prog 23 = some (.slice none 0 0) := by kernel_rfl
theorem zi_25 : zinf Try.prog 25 = some (.slice none 0 0) := by kernel_rfl
theorem zi_4 : zinf Try.prog 4 = some (.bool false) := by kernel_rfl
theorem zi_42 : zinf Try.prog 42 = some (.agg #[.int .i64 0, .int .i64 0, .slice none 0 0]) := by kernel_rfl
theorem zi_44 : zinf Try.prog 44 = some (.agg #[.int .i64 0, .slice none 0 0, .slice none 0 0]) := by kernel_rfl
theorem zi_48 : zinf Try.prog 48 = some (.slice none 0 0) := by kernel_rfl
theorem zi_79 : zinf Try.prog 79 = some (.agg #[.int .i64 0, .int .i64 0, .int .i64 0, .int .i64 0]) := by kernel_rfl
theorem zi_9 : zinf Try.prog 9 = some (.string ⟨#[]⟩) := by kernel_rfl

end Go.Proofs.Ytdgekmdolhfomaa
