/-
  The readings of the form, as readings of plain data. No condition.
-/
import Derived.Test.YtabpcmbohmodnaaDoorProg
import Derived.Test.YtabpcmbohmodnaaDoorWf
import Derived.KernelRfl
namespace Go.Proofs.YtabpcmbohmodnaaDoor
open Go Go.Tc Go.Fn
set_option linter.unusedVariables false
theorem tr_2 : Tr Tryd.prog 2 Int := tr_int Tryd.underlying2
theorem shp_2 : Shp Tryd.prog 2 Int := shp_int Tryd.underlying2
theorem tr_24 : Tr Tryd.prog 24 (List Int) := tr_slice Tryd.underlying24 (by kernel_rfl) tr_2
theorem shp_24 : Shp Tryd.prog 24 (List Int) := shp_slice Tryd.underlying24
theorem tr_36 : Tr Tryd.prog 36 GDomino := by
  intro H enc w base spare held fuel cs x h
  obtain ⟨xs, n, _, _, hl, hlen, hf⟩ := DataW.trod_struct Tryd.underlying36 h
  have hl2 : cs.length = 2 := hl.trans (by kernel_rfl)
  obtain ⟨c0, c1, rfl⟩ := len2 hl2
  obtain ⟨y0, r0, w0⟩ := tr_field (c := c0) hlen hf 0 rfl tr_24 (by kernel_rfl) rfl
  obtain ⟨y1, r1, w1⟩ := tr_field (c := c1) hlen hf 1 rfl tr_24 (by kernel_rfl) rfl
  exact ⟨⟨y0, y1⟩, ⟨c0, c1, rfl, ⟨[c0], rfl, r0⟩, ⟨[c1], rfl, r1⟩⟩, ⟨w0, w1⟩⟩
theorem shp_36 : Shp Tryd.prog 36 GDomino := shp_struct Tryd.underlying36 rfl
theorem tr_22 : Tr Tryd.prog 22 (List GDomino) := tr_slice Tryd.underlying22 (by kernel_rfl) tr_36
theorem shp_22 : Shp Tryd.prog 22 (List GDomino) := shp_slice Tryd.underlying22

end Go.Proofs.YtabpcmbohmodnaaDoor
