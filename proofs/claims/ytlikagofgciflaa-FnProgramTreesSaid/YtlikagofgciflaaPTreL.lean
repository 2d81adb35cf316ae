/-
  The law FnProgramTrees. No program in sight. No condition.
-/
import Derived.Test.YtlikagofgciflaaPTreG
import Derived.Test.YtlikagofgciflaaPR8
namespace Go.Fn
open Go Go.Tc
theorem law_ProgramTrees (c d : List (Ik .u8)) (w0 : Wf.wf c) (_ : Wf.wf d) : F_laws_FnProgramTrees c d = some true := by
 unfold F_laws_FnProgramTrees
 rw [r8_long, bnd_some_eq]
 by_cases hl : 1048576 < c.length
 ·rw [decide_eq_true hl, Bool.true_or, cond_true]
 rw [decide_eq_false hl, Bool.false_or]
 by_cases hl2 : 1048576 < d.length
 ·rw [decide_eq_true hl2, cond_true]
 rw [decide_eq_false hl2, cond_false]
 have hc := bytes_of w0 (by omega)
 obtain ⟨p, x, e1, hp, hx⟩ := src_while hc
 have hz := code_w p
 have hw := hp.w
 have hs := hp.sz
 have hok := hp.ok
 have hcw : F_impl_codedWhile p.flat = some (p.code.tr, 0) := by
  unfold F_impl_codedWhile
  rw [vw_prog p hs hok, bnd_some_eq, Bool.not_true, cond_false, zc_prog p (by omega) hok, bnd_some_eq, decide_eq_false (by decide), cond_false, cw_prog p hs hok, bnd_some_eq, tr_nodes, bnd_some_eq, decide_eq_false (by omega), cond_false]
 have hcode : F_impl_CodeWhile p.flat = some (p.code.bits, 0) := by
  unfold F_impl_CodeWhile
  rw [hcw, bnd_some_eq]
  simp only
  rw [decide_eq_false (by decide), cond_false, tr_list _ (by omega), bnd_some_eq]
 have hdec : F_impl_DecodeWhile p.code.bits = some (p.flat, 0) := by
  unfold F_impl_DecodeWhile
  rw [tr_is _ (by omega), bnd_some_eq, Bool.not_true, cond_false, tr_of _ (by omega), bnd_some_eq]
  unfold F_impl_programOfTree
  rw [dw_prog p (by omega) hok, bnd_some_eq]
  simp only
  rw [Bool.not_true, cond_false, vw_prog p hs hok, bnd_some_eq, Bool.not_true, cond_false, bnd_some_eq]
 have huni : F_impl_UniversalInput p.flat x.bits = some ((Sh.nd p.code x).bits, 0) := by
  unfold F_impl_UniversalInput F_impl_universalInput
  rw [vw_prog p hs hok, bnd_some_eq, Bool.not_true, cond_false, tr_is _ (by omega), bnd_some_eq, Bool.not_true, cond_false, bnd_some_eq]
  simp only [Out.elim]
  rw [hcw, bnd_some_eq]
  simp only
  rw [decide_eq_false (by decide), cond_false, tr_of _ (by omega), bnd_some_eq, tr_pair _ _ (by omega), bnd_some_eq, tr_node, tr_cells, bnd_some_eq]
  simp only
  rw [decide_eq_false (by omega), cond_false, bnd_some_eq]
  simp only
  rw [decide_eq_false (by decide), cond_false, tr_list _ (by simp only [Sh.sz]; omega), bnd_some_eq]
 have hhead : F_impl_HeadOf (Sh.nd p.code x).bits = some (p.code.bits, 0) := by
  unfold F_impl_HeadOf
  rw [tr_is _ (by simp only [Sh.sz]; omega), bnd_some_eq, Bool.not_true, cond_false, tr_of _ (by simp only [Sh.sz]; omega), bnd_some_eq, tr_isNil_nd, cond_false, tr_cells, bnd_some_eq]
  simp only
  rw [tr_checked _ (by omega), bnd_some_eq]
 have his : F_impl_IsProgramTree p.code.bits = some true := by
  unfold F_impl_IsProgramTree
  rw [hdec, bnd_some_eq]
  rfl
 rw [e1, bnd_some_eq]
 simp only
 rw [hcode, bnd_some_eq]
 simp only
 rw [hdec, bnd_some_eq, huni, bnd_some_eq]
 simp only
 rw [hhead, bnd_some_eq]
 simp only [decide_true, cond_true]
 rw [his, bnd_some_eq, cond_true, sw_same p (by omega) hok, bnd_some_eq, cond_true, rt_same _ (by rw [Sh.len]; omega), bnd_some_eq]
end Go.Fn
