/-
  Facts on the types of the program. No condition.
-/
import Derived.Test.YthmompdfapcgkaaProg
import Derived.Test.YthmompdfapcgkaaTy
import Derived.KernelRfl
namespace Go.Proofs.Ythmompdfapcgkaa
open Go Go.Tc Go.Fn
theorem bi_100 : binf Try.prog 100 = some 40 := by kernel_rfl
theorem bi_102 : binf Try.prog 102 = some 48 := by kernel_rfl
theorem bi_2 : binf Try.prog 2 = some 8 := by kernel_rfl
theorem bi_23 : binf Try.prog 23 = some 24 := by kernel_rfl
theorem bi_5 : binf Try.prog 5 = some 1 := by kernel_rfl
theorem bi_71 : binf Try.prog 71 = some 32 := by kernel_rfl
theorem bi_91 : binf Try.prog 91 = some 48 := by kernel_rfl
theorem fi_100_0 : finf Try.prog 100 0 = some (0, 1) := by kernel_rfl
theorem fi_100_1 : finf Try.prog 100 1 = some (1, 1) := by kernel_rfl
theorem fi_100_2 : finf Try.prog 100 2 = some (2, 1) := by kernel_rfl
theorem fi_102_0 : finf Try.prog 102 0 = some (0, 3) := by kernel_rfl
theorem fi_102_1 : finf Try.prog 102 1 = some (3, 1) := by kernel_rfl
theorem fi_131_0 : finf Try.prog 131 0 = some (0, 1) := by kernel_rfl
theorem fi_131_1 : finf Try.prog 131 1 = some (1, 1) := by kernel_rfl
theorem fi_131_2 : finf Try.prog 131 2 = some (2, 1) := by kernel_rfl
theorem fi_68_0 : finf Try.prog 68 0 = some (0, 1) := by kernel_rfl
theorem fi_68_1 : finf Try.prog 68 1 = some (1, 1) := by kernel_rfl
theorem fi_68_2 : finf Try.prog 68 2 = some (2, 1) := by kernel_rfl
theorem fi_68_3 : finf Try.prog 68 3 = some (3, 1) := by kernel_rfl
theorem fi_68_4 : finf Try.prog 68 4 = some (4, 1) := by kernel_rfl
theorem fi_68_5 : finf Try.prog 68 5 = some (5, 1) := by kernel_rfl
theorem fi_68_6 : finf Try.prog 68 6 = some (6, 1) := by kernel_rfl
theorem fi_68_7 : finf Try.prog 68 7 = some (7, 1) := by kernel_rfl
theorem fi_68_8 : finf Try.prog 68 8 = some (8, 1) := by kernel_rfl
theorem fi_71_0 : finf Try.prog 71 0 = some (0, 1) := by kernel_rfl
theorem fi_71_1 : finf Try.prog 71 1 = some (1, 1) := by kernel_rfl
theorem fi_71_2 : finf Try.prog 71 2 = some (2, 1) := by kernel_rfl
theorem fi_71_3 : finf Try.prog 71 3 = some (3, 1) := by kernel_rfl
theorem fi_73_0 : finf Try.prog 73 0 = some (0, 1) := by kernel_rfl
theorem fi_73_1 : finf Try.prog 73 1 = some (1, 1) := by kernel_rfl
theorem fi_73_2 : finf Try.prog 73 2 = some (2, 1) := by kernel_rfl
theorem fi_73_3 : finf Try.prog 73 3 = some (3, 1) := by kernel_rfl
theorem fi_84_0 : finf Try.prog 84 0 = some (0, 1) := by kernel_rfl
theorem fi_84_1 : finf Try.prog 84 1 = some (1, 1) := by kernel_rfl
theorem fi_84_2 : finf Try.prog 84 2 = some (2, 1) := by kernel_rfl
theorem fi_84_3 : finf Try.prog 84 3 = some (3, 1) := by kernel_rfl
theorem fi_91_0 : finf Try.prog 91 0 = some (0, 1) := by kernel_rfl
theorem fi_91_1 : finf Try.prog 91 1 = some (1, 1) := by kernel_rfl
theorem fi_98_0 : finf Try.prog 98 0 = some (0, 1) := by kernel_rfl
theorem fi_98_1 : finf Try.prog 98 1 = some (1, 1) := by kernel_rfl
theorem fi_98_2 : finf Try.prog 98 2 = some (2, 1) := by kernel_rfl
theorem key_9 : KeyOk Try.prog 9 Value.string := keyok_str Try.underlying9
theorem ex_eql_seq_71 {n : Nat} {A : Nat → Prop} {w0 : World} {ρ : Env} {Γ : Ctx} {d : Option Nat} {ty : TypeId} {pos : String} {after : Array Edge} {g : Option (Nat × Bool)} {x y : Operand} {u : TypeId} {a0 a1 a2 a3 b0 b1 b2 b3 : Int} (hx : ev ρ x = some (.agg #[.int .i64 a0, .int .i64 a1, .int .i64 a2, .int .i64 a3])) (hy : ev ρ y = some (.agg #[.int .i64 b0, .int .i64 b1, .int .i64 b2, .int .i64 b3])) :
    Ex Try.prog n A w0 ρ Γ ⟨d, .binOp .eql 71 x y u, ty, pos, after, g⟩ (.bool (decide ((⟨a0, a1, a2, a3⟩ : GTile) = ⟨b0, b1, b2, b3⟩))) := by
  intro a w hs hh
  simp only [execOp, hs.eval hx, hs.eval hy]
  simp [eqGuard, go_sem, Program.fieldsOf]
  by_cases e0 : a0 = b0 <;> simp [e0]
  all_goals (repeat (split <;> simp_all))
theorem ex_neq_seq_71 {n : Nat} {A : Nat → Prop} {w0 : World} {ρ : Env} {Γ : Ctx} {d : Option Nat} {ty : TypeId} {pos : String} {after : Array Edge} {g : Option (Nat × Bool)} {x y : Operand} {u : TypeId} {a0 a1 a2 a3 b0 b1 b2 b3 : Int} (hx : ev ρ x = some (.agg #[.int .i64 a0, .int .i64 a1, .int .i64 a2, .int .i64 a3])) (hy : ev ρ y = some (.agg #[.int .i64 b0, .int .i64 b1, .int .i64 b2, .int .i64 b3])) :
    Ex Try.prog n A w0 ρ Γ ⟨d, .binOp .neq 71 x y u, ty, pos, after, g⟩ (.bool (!(decide ((⟨a0, a1, a2, a3⟩ : GTile) = ⟨b0, b1, b2, b3⟩)))) := by
  intro a w hs hh
  simp only [execOp, hs.eval hx, hs.eval hy]
  simp [eqGuard, go_sem, Program.fieldsOf]
  by_cases e0 : a0 = b0 <;> simp [e0]
  all_goals (repeat (split <;> simp_all))
theorem si_100 : SInf Try.prog 100 [.int .i64 0, .int .i64 0, .slice none 0 0] := ⟨⟨_, _, Try.underlying100, (show zinf Try.prog 100 = some (.agg #[.int .i64 0, .int .i64 0, .slice none 0 0]) by kernel_rfl), rfl, by kernel_rfl⟩⟩
theorem si_102 : SInf Try.prog 102 [.int .i64 0, .int .i64 0, .slice none 0 0, .int .i64 0] := ⟨⟨_, _, Try.underlying102, (show zinf Try.prog 102 = some (.agg #[.int .i64 0, .int .i64 0, .slice none 0 0, .int .i64 0]) by kernel_rfl), rfl, by kernel_rfl⟩⟩
theorem si_131 : SInf Try.prog 131 [.slice none 0 0, .int .i64 0, .int .u64 0] := ⟨⟨_, _, Try.underlying131, (show zinf Try.prog 131 = some (.agg #[.slice none 0 0, .int .i64 0, .int .u64 0]) by kernel_rfl), rfl, by kernel_rfl⟩⟩
theorem si_68 : SInf Try.prog 68 [.slice none 0 0, .slice none 0 0, .int .i64 0, .int .i64 0, .bool false, .int .i64 0, .int .i64 0, .bool false, .slice none 0 0] := ⟨⟨_, _, Try.underlying68, (show zinf Try.prog 68 = some (.agg #[.slice none 0 0, .slice none 0 0, .int .i64 0, .int .i64 0, .bool false, .int .i64 0, .int .i64 0, .bool false, .slice none 0 0]) by kernel_rfl), rfl, by kernel_rfl⟩⟩
theorem si_84 : SInf Try.prog 84 [.slice none 0 0, .slice none 0 0, .slice none 0 0, .int .i64 0] := ⟨⟨_, _, Try.underlying84, (show zinf Try.prog 84 = some (.agg #[.slice none 0 0, .slice none 0 0, .slice none 0 0, .int .i64 0]) by kernel_rfl), rfl, by kernel_rfl⟩⟩
theorem si_91 : SInf Try.prog 91 [.slice none 0 0, .slice none 0 0] := ⟨⟨_, _, Try.underlying91, (show zinf Try.prog 91 = some (.agg #[.slice none 0 0, .slice none 0 0]) by kernel_rfl), rfl, by kernel_rfl⟩⟩
theorem si_98 : SInf Try.prog 98 [.slice none 0 0, .map none, .bool false] := ⟨⟨_, _, Try.underlying98, (show zinf Try.prog 98 = some (.agg #[.slice none 0 0, .map none, .bool false]) by kernel_rfl), rfl, by kernel_rfl⟩⟩
theorem ti_100 : tinf Try.prog 100 = some (3, true) := by kernel_rfl
theorem ti_102 : tinf Try.prog 102 = some (4, true) := by kernel_rfl
theorem ti_129 : tinf Try.prog 129 = some (1, false) := by kernel_rfl
theorem ti_2 : tinf Try.prog 2 = some (1, false) := by kernel_rfl
theorem ti_23 : tinf Try.prog 23 = some (1, false) := by kernel_rfl
theorem ti_27 : tinf Try.prog 27 = some (1, false) := by kernel_rfl
theorem ti_3 : tinf Try.prog 3 = some (1, false) := by kernel_rfl
theorem ti_4 : tinf Try.prog 4 = some (1, false) := by kernel_rfl
theorem ti_40 : tinf Try.prog 40 = some (1, false) := by kernel_rfl
theorem ti_5 : tinf Try.prog 5 = some (1, false) := by kernel_rfl
theorem ti_71 : tinf Try.prog 71 = some (4, true) := by kernel_rfl
theorem ti_73 : tinf Try.prog 73 = some (4, true) := by kernel_rfl
theorem ti_91 : tinf Try.prog 91 = some (2, true) := by kernel_rfl
theorem ti_95 : tinf Try.prog 95 = some (1, false) := by kernel_rfl
theorem ti_96 : tinf Try.prog 96 = some (1, false) := by kernel_rfl
theorem zi_100 : zinf Try.prog 100 = some (.agg #[.int .i64 0, .int .i64 0, .slice none 0 0]) := by kernel_rfl
theorem zi_102 : zinf Try.prog 102 = some (.agg #[.int .i64 0, .int .i64 0, .slice none 0 0, .int .i64 0]) := by kernel_rfl
theorem zi_2 : zinf Try.prog 2 = some (.int .i64 0) := by kernel_rfl
theorem zi_23 : zinf Try.prog 23 = some (.slice none 0 0) := by kernel_rfl
theorem zi_3 : zinf Try.prog 3 = some (.int .i64 0) := by kernel_rfl
theorem zi_4 : zinf Try.prog 4 = some (.bool false) := by kernel_rfl
theorem zi_5 : zinf Try.prog 5 = some (.int .u8 0) := by kernel_rfl
theorem zi_71 : zinf Try.prog 71 = some (.agg #[.int .i64 0, .int .i64 0, .int .i64 0, .int .i64 0]) := by kernel_rfl
theorem zi_91 : zinf Try.prog 91 = some (.agg #[.slice none 0 0, .slice none 0 0]) := by kernel_rfl

end Go.Proofs.Ythmompdfapcgkaa
