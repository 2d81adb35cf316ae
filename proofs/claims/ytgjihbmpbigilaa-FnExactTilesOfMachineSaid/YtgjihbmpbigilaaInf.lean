/-
  Facts on the types of the program. No condition.
-/
import Derived.Test.YtgjihbmpbigilaaProg
import Derived.Test.YtgjihbmpbigilaaTy
import Derived.KernelRfl
namespace Go.Proofs.Ytgjihbmpbigilaa
open Go Go.Tc Go.Fn
theorem bi_117 : binf Try.prog 117 = some 48 := by kernel_rfl
theorem bi_139 : binf Try.prog 139 = some 48 := by kernel_rfl
theorem bi_170 : binf Try.prog 170 = some 24 := by kernel_rfl
theorem bi_2 : binf Try.prog 2 = some 8 := by kernel_rfl
theorem bi_34 : binf Try.prog 34 = some 24 := by kernel_rfl
theorem bi_89 : binf Try.prog 89 = some 32 := by kernel_rfl
theorem fi_115_0 : finf Try.prog 115 0 = some (0, 1) := by kernel_rfl
theorem fi_115_1 : finf Try.prog 115 1 = some (1, 1) := by kernel_rfl
theorem fi_117_0 : finf Try.prog 117 0 = some (0, 1) := by kernel_rfl
theorem fi_117_1 : finf Try.prog 117 1 = some (1, 1) := by kernel_rfl
theorem fi_137_0 : finf Try.prog 137 0 = some (0, 1) := by kernel_rfl
theorem fi_137_1 : finf Try.prog 137 1 = some (1, 1) := by kernel_rfl
theorem fi_139_0 : finf Try.prog 139 0 = some (0, 1) := by kernel_rfl
theorem fi_139_1 : finf Try.prog 139 1 = some (1, 1) := by kernel_rfl
theorem fi_170_0 : finf Try.prog 170 0 = some (0, 1) := by kernel_rfl
theorem fi_170_1 : finf Try.prog 170 1 = some (1, 1) := by kernel_rfl
theorem fi_170_2 : finf Try.prog 170 2 = some (2, 1) := by kernel_rfl
theorem fi_174_0 : finf Try.prog 174 0 = some (0, 1) := by kernel_rfl
theorem fi_174_1 : finf Try.prog 174 1 = some (1, 1) := by kernel_rfl
theorem fi_174_2 : finf Try.prog 174 2 = some (2, 1) := by kernel_rfl
theorem fi_60_0 : finf Try.prog 60 0 = some (0, 1) := by kernel_rfl
theorem fi_60_1 : finf Try.prog 60 1 = some (1, 1) := by kernel_rfl
theorem fi_60_2 : finf Try.prog 60 2 = some (2, 1) := by kernel_rfl
theorem fi_66_0 : finf Try.prog 66 0 = some (0, 1) := by kernel_rfl
theorem fi_66_1 : finf Try.prog 66 1 = some (1, 1) := by kernel_rfl
theorem fi_66_2 : finf Try.prog 66 2 = some (2, 1) := by kernel_rfl
theorem fi_74_0 : finf Try.prog 74 0 = some (0, 1) := by kernel_rfl
theorem fi_74_1 : finf Try.prog 74 1 = some (1, 1) := by kernel_rfl
theorem fi_74_2 : finf Try.prog 74 2 = some (2, 1) := by kernel_rfl
theorem fi_89_0 : finf Try.prog 89 0 = some (0, 1) := by kernel_rfl
theorem fi_89_1 : finf Try.prog 89 1 = some (1, 1) := by kernel_rfl
theorem fi_89_2 : finf Try.prog 89 2 = some (2, 1) := by kernel_rfl
theorem fi_89_3 : finf Try.prog 89 3 = some (3, 1) := by kernel_rfl
theorem fi_91_0 : finf Try.prog 91 0 = some (0, 1) := by kernel_rfl
theorem fi_91_1 : finf Try.prog 91 1 = some (1, 1) := by kernel_rfl
theorem fi_91_2 : finf Try.prog 91 2 = some (2, 1) := by kernel_rfl
theorem fi_91_3 : finf Try.prog 91 3 = some (3, 1) := by kernel_rfl
theorem ex_eql_seq_170 {n : Nat} {A : Nat → Prop} {w0 : World} {ρ : Env} {Γ : Ctx} {d : Option Nat} {ty : TypeId} {pos : String} {after : Array Edge} {g : Option (Nat × Bool)} {x y : Operand} {u : TypeId} {a0 a1 a2 b0 b1 b2 : Int} (hx : ev ρ x = some (.agg #[.int .i64 a0, .int .i64 a1, .int .i64 a2])) (hy : ev ρ y = some (.agg #[.int .i64 b0, .int .i64 b1, .int .i64 b2])) :
    Ex Try.prog n A w0 ρ Γ ⟨d, .binOp .eql 170 x y u, ty, pos, after, g⟩ (.bool (decide ((⟨a0, a1, a2⟩ : GRule) = ⟨b0, b1, b2⟩))) := by
  intro a w hs hh
  simp only [execOp, hs.eval hx, hs.eval hy]
  simp [eqGuard, go_sem, Program.fieldsOf]
  by_cases e0 : a0 = b0 <;> simp [e0]
  all_goals (repeat (split <;> simp_all))
theorem ex_neq_seq_170 {n : Nat} {A : Nat → Prop} {w0 : World} {ρ : Env} {Γ : Ctx} {d : Option Nat} {ty : TypeId} {pos : String} {after : Array Edge} {g : Option (Nat × Bool)} {x y : Operand} {u : TypeId} {a0 a1 a2 b0 b1 b2 : Int} (hx : ev ρ x = some (.agg #[.int .i64 a0, .int .i64 a1, .int .i64 a2])) (hy : ev ρ y = some (.agg #[.int .i64 b0, .int .i64 b1, .int .i64 b2])) :
    Ex Try.prog n A w0 ρ Γ ⟨d, .binOp .neq 170 x y u, ty, pos, after, g⟩ (.bool (!(decide ((⟨a0, a1, a2⟩ : GRule) = ⟨b0, b1, b2⟩)))) := by
  intro a w hs hh
  simp only [execOp, hs.eval hx, hs.eval hy]
  simp [eqGuard, go_sem, Program.fieldsOf]
  by_cases e0 : a0 = b0 <;> simp [e0]
  all_goals (repeat (split <;> simp_all))
theorem ex_eql_seq_89 {n : Nat} {A : Nat → Prop} {w0 : World} {ρ : Env} {Γ : Ctx} {d : Option Nat} {ty : TypeId} {pos : String} {after : Array Edge} {g : Option (Nat × Bool)} {x y : Operand} {u : TypeId} {a0 a1 a2 a3 b0 b1 b2 b3 : Int} (hx : ev ρ x = some (.agg #[.int .i64 a0, .int .i64 a1, .int .i64 a2, .int .i64 a3])) (hy : ev ρ y = some (.agg #[.int .i64 b0, .int .i64 b1, .int .i64 b2, .int .i64 b3])) :
    Ex Try.prog n A w0 ρ Γ ⟨d, .binOp .eql 89 x y u, ty, pos, after, g⟩ (.bool (decide ((⟨a0, a1, a2, a3⟩ : GTile) = ⟨b0, b1, b2, b3⟩))) := by
  intro a w hs hh
  simp only [execOp, hs.eval hx, hs.eval hy]
  simp [eqGuard, go_sem, Program.fieldsOf]
  by_cases e0 : a0 = b0 <;> simp [e0]
  all_goals (repeat (split <;> simp_all))
theorem ex_neq_seq_89 {n : Nat} {A : Nat → Prop} {w0 : World} {ρ : Env} {Γ : Ctx} {d : Option Nat} {ty : TypeId} {pos : String} {after : Array Edge} {g : Option (Nat × Bool)} {x y : Operand} {u : TypeId} {a0 a1 a2 a3 b0 b1 b2 b3 : Int} (hx : ev ρ x = some (.agg #[.int .i64 a0, .int .i64 a1, .int .i64 a2, .int .i64 a3])) (hy : ev ρ y = some (.agg #[.int .i64 b0, .int .i64 b1, .int .i64 b2, .int .i64 b3])) :
    Ex Try.prog n A w0 ρ Γ ⟨d, .binOp .neq 89 x y u, ty, pos, after, g⟩ (.bool (!(decide ((⟨a0, a1, a2, a3⟩ : GTile) = ⟨b0, b1, b2, b3⟩)))) := by
  intro a w hs hh
  simp only [execOp, hs.eval hx, hs.eval hy]
  simp [eqGuard, go_sem, Program.fieldsOf]
  by_cases e0 : a0 = b0 <;> simp [e0]
  all_goals (repeat (split <;> simp_all))
theorem si_117 : SInf Try.prog 117 [.slice none 0 0, .slice none 0 0] := ⟨⟨_, _, Try.underlying117, (show zinf Try.prog 117 = some (.agg #[.slice none 0 0, .slice none 0 0]) by kernel_rfl), rfl, by kernel_rfl⟩⟩
theorem si_170 : SInf Try.prog 170 [.int .i64 0, .int .i64 0, .int .i64 0] := ⟨⟨_, _, Try.underlying170, (show zinf Try.prog 170 = some (.agg #[.int .i64 0, .int .i64 0, .int .i64 0]) by kernel_rfl), rfl, by kernel_rfl⟩⟩
theorem si_74 : SInf Try.prog 74 [.int .i64 0, .slice none 0 0, .slice none 0 0] := ⟨⟨_, _, Try.underlying74, (show zinf Try.prog 74 = some (.agg #[.int .i64 0, .slice none 0 0, .slice none 0 0]) by kernel_rfl), rfl, by kernel_rfl⟩⟩
theorem si_89 : SInf Try.prog 89 [.int .i64 0, .int .i64 0, .int .i64 0, .int .i64 0] := ⟨⟨_, _, Try.underlying89, (show zinf Try.prog 89 = some (.agg #[.int .i64 0, .int .i64 0, .int .i64 0, .int .i64 0]) by kernel_rfl), rfl, by kernel_rfl⟩⟩
theorem ti_115 : tinf Try.prog 115 = some (2, true) := by kernel_rfl
theorem ti_117 : tinf Try.prog 117 = some (2, true) := by kernel_rfl
theorem ti_137 : tinf Try.prog 137 = some (2, true) := by kernel_rfl
theorem ti_139 : tinf Try.prog 139 = some (2, true) := by kernel_rfl
theorem ti_170 : tinf Try.prog 170 = some (3, true) := by kernel_rfl
theorem ti_174 : tinf Try.prog 174 = some (3, true) := by kernel_rfl
theorem ti_2 : tinf Try.prog 2 = some (1, false) := by kernel_rfl
theorem ti_34 : tinf Try.prog 34 = some (1, false) := by kernel_rfl
theorem ti_58 : tinf Try.prog 58 = some (1, false) := by kernel_rfl
theorem ti_60 : tinf Try.prog 60 = some (3, true) := by kernel_rfl
theorem ti_64 : tinf Try.prog 64 = some (1, false) := by kernel_rfl
theorem ti_66 : tinf Try.prog 66 = some (3, true) := by kernel_rfl
theorem ti_74 : tinf Try.prog 74 = some (3, true) := by kernel_rfl
theorem ti_89 : tinf Try.prog 89 = some (4, true) := by kernel_rfl
theorem ti_91 : tinf Try.prog 91 = some (4, true) := by kernel_rfl
theorem zi_117 : zinf Try.prog 117 = some (.agg #[.slice none 0 0, .slice none 0 0]) := by kernel_rfl
theorem zi_139 : zinf Try.prog 139 = some (.agg #[.slice none 0 0, .slice none 0 0]) := by kernel_rfl
theorem zi_170 : zinf Try.prog 170 = some (.agg #[.int .i64 0, .int .i64 0, .int .i64 0]) := by kernel_rfl
theorem zi_2 : zinf Try.prog 2 = some (.int .i64 0) := by kernel_rfl
theorem zi_34 : zinf Try.prog 34 = some (.slice none 0 0) := by kernel_rfl
theorem zi_66 : zinf Try.prog 66 = some (.agg #[.int .i64 0, .int .i64 0, .slice none 0 0]) := by kernel_rfl
theorem zi_74 : zinf Try.prog 74 = some (.agg #[.int .i64 0, .slice none 0 0, .slice none 0 0]) := by kernel_rfl
theorem zi_89 : zinf Try.prog 89 = some (.agg #[.int .i64 0, .int .i64 0, .int .i64 0, .int .i64 0]) := by kernel_rfl

end Go.Proofs.Ytgjihbmpbigilaa
