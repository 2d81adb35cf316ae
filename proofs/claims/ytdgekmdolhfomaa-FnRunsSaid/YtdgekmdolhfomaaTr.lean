/-
  The readings of the form, as readings of plain data. No condition.
-/
import Derived.Test.YtdgekmdolhfomaaProg
import Derived.Test.YtdgekmdolhfomaaWf
import Derived.KernelRfl
namespace Go.Proofs.Ytdgekmdolhfomaa
open Go Go.Tc Go.Fn
set_option linter.unusedVariables false
theorem tr_2 : Tr Try.prog 2 Int := tr_int Try.underlying2
theorem shp_2 : Shp Try.prog 2 Int := shp_int Try.underlying2
theorem tr_81 : Tr Try.prog 81 GTile := by
  intro H enc w base spare held fuel cs x h
  obtain ⟨xs, n, _, _, hl, hlen, hf⟩ := DataW.trod_struct Try.underlying81 h
  have hl2 : cs.length = 4 := hl.trans (by kernel_rfl)
  obtain ⟨c0, c1, c2, c3, rfl⟩ := len4 hl2
  obtain ⟨y0, r0, w0⟩ := tr_field (c := c0) hlen hf 0 rfl tr_2 (by kernel_rfl) rfl
  obtain rfl := (List.cons.inj r0).1
  obtain ⟨y1, r1, w1⟩ := tr_field (c := c1) hlen hf 1 rfl tr_2 (by kernel_rfl) rfl
  obtain rfl := (List.cons.inj r1).1
  obtain ⟨y2, r2, w2⟩ := tr_field (c := c2) hlen hf 2 rfl tr_2 (by kernel_rfl) rfl
  obtain rfl := (List.cons.inj r2).1
  obtain ⟨y3, r3, w3⟩ := tr_field (c := c3) hlen hf 3 rfl tr_2 (by kernel_rfl) rfl
  obtain rfl := (List.cons.inj r3).1
  exact ⟨⟨y0, y1, y2, y3⟩, rfl, ⟨w0, w1, w2, w3⟩⟩
theorem shp_81 : Shp Try.prog 81 GTile := shp_struct Try.underlying81 rfl
theorem tr_22 : Tr Try.prog 22 (List GTile) := tr_slice Try.underlying22 (by kernel_rfl) tr_81
theorem shp_22 : Shp Try.prog 22 (List GTile) := shp_slice Try.underlying22
theorem tr_23 : Tr Try.prog 23 (List Int) := tr_slice Try.underlying23 (by kernel_rfl) tr_2
theorem shp_23 : Shp Try.prog 23 (List Int) := shp_slice Try.underlying23
theorem tr_5 : Tr Try.prog 5 (Ik .u8) := tr_ik Try.underlying5
theorem shp_5 : Shp Try.prog 5 (Ik .u8) := shp_ik Try.underlying5
theorem tr_38 : Tr Try.prog 38 (List (Ik .u8)) := tr_slice Try.underlying38 (by kernel_rfl) tr_5
theorem shp_38 : Shp Try.prog 38 (List (Ik .u8)) := shp_slice Try.underlying38
theorem tr_136 : Tr Try.prog 136 GRewrite := by
  intro H enc w base spare held fuel cs x h
  obtain ⟨xs, n, _, _, hl, hlen, hf⟩ := DataW.trod_struct Try.underlying136 h
  have hl2 : cs.length = 2 := hl.trans (by kernel_rfl)
  obtain ⟨c0, c1, rfl⟩ := len2 hl2
  obtain ⟨y0, r0, w0⟩ := tr_field (c := c0) hlen hf 0 rfl tr_23 (by kernel_rfl) rfl
  obtain ⟨y1, r1, w1⟩ := tr_field (c := c1) hlen hf 1 rfl tr_23 (by kernel_rfl) rfl
  exact ⟨⟨y0, y1⟩, ⟨c0, c1, rfl, ⟨[c0], rfl, r0⟩, ⟨[c1], rfl, r1⟩⟩, ⟨w0, w1⟩⟩
theorem shp_136 : Shp Try.prog 136 GRewrite := shp_struct Try.underlying136 rfl
theorem tr_67 : Tr Try.prog 67 (List GRewrite) := tr_slice Try.underlying67 (by kernel_rfl) tr_136
theorem shp_67 : Shp Try.prog 67 (List GRewrite) := shp_slice Try.underlying67

end Go.Proofs.Ytdgekmdolhfomaa
