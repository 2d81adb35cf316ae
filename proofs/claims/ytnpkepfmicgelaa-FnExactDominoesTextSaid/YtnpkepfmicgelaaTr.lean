/-
  The readings of the form, as readings of plain data. No condition.
-/
import Derived.Test.YtnpkepfmicgelaaProg
import Derived.Test.YtnpkepfmicgelaaWf
import Derived.KernelRfl
namespace Go.Proofs.Ytnpkepfmicgelaa
open Go Go.Tc Go.Fn
set_option linter.unusedVariables false
theorem tr_2 : Tr Try.prog 2 Int := tr_int Try.underlying2
theorem shp_2 : Shp Try.prog 2 Int := shp_int Try.underlying2
theorem tr_30 : Tr Try.prog 30 (List Int) := tr_slice Try.underlying30 (by kernel_rfl) tr_2
theorem shp_30 : Shp Try.prog 30 (List Int) := shp_slice Try.underlying30
theorem tr_32 : Tr Try.prog 32 GDomino := by
  intro H enc w base spare held fuel cs x h
  obtain ⟨xs, n, _, _, hl, hlen, hf⟩ := DataW.trod_struct Try.underlying32 h
  have hl2 : cs.length = 2 := hl.trans (by kernel_rfl)
  obtain ⟨c0, c1, rfl⟩ := len2 hl2
  obtain ⟨y0, r0, w0⟩ := tr_field (c := c0) hlen hf 0 rfl tr_30 (by kernel_rfl) rfl
  obtain ⟨y1, r1, w1⟩ := tr_field (c := c1) hlen hf 1 rfl tr_30 (by kernel_rfl) rfl
  exact ⟨⟨y0, y1⟩, ⟨c0, c1, rfl, ⟨[c0], rfl, r0⟩, ⟨[c1], rfl, r1⟩⟩, ⟨w0, w1⟩⟩
theorem shp_32 : Shp Try.prog 32 GDomino := shp_struct Try.underlying32 rfl
theorem tr_22 : Tr Try.prog 22 (List GDomino) := tr_slice Try.underlying22 (by kernel_rfl) tr_32
theorem shp_22 : Shp Try.prog 22 (List GDomino) := shp_slice Try.underlying22

end Go.Proofs.Ytnpkepfmicgelaa
