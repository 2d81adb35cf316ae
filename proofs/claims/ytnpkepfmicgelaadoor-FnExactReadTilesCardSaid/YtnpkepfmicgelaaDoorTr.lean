/-
  The readings of the form, as readings of plain data. No condition.
-/
import Derived.Test.YtnpkepfmicgelaaDoorProg
import Derived.Test.YtnpkepfmicgelaaDoorWf
import Derived.KernelRfl
namespace Go.Proofs.YtnpkepfmicgelaaDoor
open Go Go.Tc Go.Fn
set_option linter.unusedVariables false
theorem tr_9 : Tr Tryd.prog 9 ByteArray := tr_str Tryd.underlying9
theorem shp_9 : Shp Tryd.prog 9 ByteArray := shp_str Tryd.underlying9
theorem tr_2 : Tr Tryd.prog 2 Int := tr_int Tryd.underlying2
theorem shp_2 : Shp Tryd.prog 2 Int := shp_int Tryd.underlying2
theorem tr_42 : Tr Tryd.prog 42 GTile := by
  intro H enc w base spare held fuel cs x h
  obtain ⟨xs, n, _, _, hl, hlen, hf⟩ := DataW.trod_struct Tryd.underlying42 h
  have hl2 : cs.length = 4 := hl.trans (by kernel_rfl)
  obtain ⟨c0, c1, c2, c3, rfl⟩ := len4 hl2
  obtain ⟨y0, r0, w0⟩ := tr_field (c := c0) hlen hf 0 rfl tr_2 (by kernel_rfl) rfl
  obtain rfl := (List.cons.inj r0).1
  obtain ⟨y1, r1, w1⟩ := tr_field (c := c1) hlen hf 1 rfl tr_2 (by kernel_rfl) rfl
  obtain rfl := (List.cons.inj r1).1
  obtain ⟨y2, r2, w2⟩ := tr_field (c := c2) hlen hf 2 rfl tr_2 (by kernel_rfl) rfl
  obtain rfl := (List.cons.inj r2).1
  obtain ⟨y3, r3, w3⟩ := tr_field (c := c3) hlen hf 3 rfl tr_2 (by kernel_rfl) rfl
  obtain rfl := (List.cons.inj r3).1
  exact ⟨⟨y0, y1, y2, y3⟩, rfl, ⟨w0, w1, w2, w3⟩⟩
theorem shp_42 : Shp Tryd.prog 42 GTile := shp_struct Tryd.underlying42 rfl
theorem tr_22 : Tr Tryd.prog 22 (List GTile) := tr_slice Tryd.underlying22 (by kernel_rfl) tr_42
theorem shp_22 : Shp Tryd.prog 22 (List GTile) := shp_slice Tryd.underlying22

end Go.Proofs.YtnpkepfmicgelaaDoor
