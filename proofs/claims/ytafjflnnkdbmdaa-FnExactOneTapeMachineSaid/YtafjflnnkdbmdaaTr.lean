/-
  The readings of the form, as readings of plain data. No condition.
-/
import Derived.Test.YtafjflnnkdbmdaaProg
import Derived.Test.YtafjflnnkdbmdaaWf
import Derived.KernelRfl
namespace Go.Proofs.Ytafjflnnkdbmdaa
open Go Go.Tc Go.Fn
set_option linter.unusedVariables false
theorem tr_2 : Tr Try.prog 2 Int := tr_int Try.underlying2
theorem shp_2 : Shp Try.prog 2 Int := shp_int Try.underlying2
theorem tr_64 : Tr Try.prog 64 (List Int) := tr_slice Try.underlying64 (by kernel_rfl) tr_2
theorem shp_64 : Shp Try.prog 64 (List Int) := shp_slice Try.underlying64
theorem tr_66 : Tr Try.prog 66 GMultiRule := by
  intro H enc w base spare held fuel cs x h
  obtain ⟨xs, n, _, _, hl, hlen, hf⟩ := DataW.trod_struct Try.underlying66 h
  have hl2 : cs.length = 5 := hl.trans (by kernel_rfl)
  obtain ⟨c0, c1, c2, c3, c4, rfl⟩ := len5 hl2
  obtain ⟨y0, r0, w0⟩ := tr_field (c := c0) hlen hf 0 rfl tr_2 (by kernel_rfl) rfl
  obtain rfl := (List.cons.inj r0).1
  obtain ⟨y1, r1, w1⟩ := tr_field (c := c1) hlen hf 1 rfl tr_64 (by kernel_rfl) rfl
  obtain ⟨y2, r2, w2⟩ := tr_field (c := c2) hlen hf 2 rfl tr_64 (by kernel_rfl) rfl
  obtain ⟨y3, r3, w3⟩ := tr_field (c := c3) hlen hf 3 rfl tr_64 (by kernel_rfl) rfl
  obtain ⟨y4, r4, w4⟩ := tr_field (c := c4) hlen hf 4 rfl tr_2 (by kernel_rfl) rfl
  obtain rfl := (List.cons.inj r4).1
  exact ⟨⟨y0, y1, y2, y3, y4⟩, ⟨c1, c2, c3, rfl, ⟨[c1], rfl, r1⟩, ⟨[c2], rfl, r2⟩, ⟨[c3], rfl, r3⟩⟩, ⟨w0, w1, w2, w3, w4⟩⟩
theorem shp_66 : Shp Try.prog 66 GMultiRule := shp_struct Try.underlying66 rfl
theorem tr_22 : Tr Try.prog 22 (List GMultiRule) := tr_slice Try.underlying22 (by kernel_rfl) tr_66
theorem shp_22 : Shp Try.prog 22 (List GMultiRule) := shp_slice Try.underlying22
theorem tr_24 : Tr Try.prog 24 GMulti := by
  intro H enc w base spare held fuel cs x h
  obtain ⟨xs, n, _, _, hl, hlen, hf⟩ := DataW.trod_struct Try.underlying24 h
  have hl2 : cs.length = 4 := hl.trans (by kernel_rfl)
  obtain ⟨c0, c1, c2, c3, rfl⟩ := len4 hl2
  obtain ⟨y0, r0, w0⟩ := tr_field (c := c0) hlen hf 0 rfl tr_2 (by kernel_rfl) rfl
  obtain rfl := (List.cons.inj r0).1
  obtain ⟨y1, r1, w1⟩ := tr_field (c := c1) hlen hf 1 rfl tr_2 (by kernel_rfl) rfl
  obtain rfl := (List.cons.inj r1).1
  obtain ⟨y2, r2, w2⟩ := tr_field (c := c2) hlen hf 2 rfl tr_2 (by kernel_rfl) rfl
  obtain rfl := (List.cons.inj r2).1
  obtain ⟨y3, r3, w3⟩ := tr_field (c := c3) hlen hf 3 rfl tr_22 (by kernel_rfl) rfl
  exact ⟨⟨y0, y1, y2, y3⟩, ⟨c3, rfl, ⟨[c3], rfl, r3⟩⟩, ⟨w0, w1, w2, w3⟩⟩
theorem shp_24 : Shp Try.prog 24 GMulti := shp_struct Try.underlying24 rfl

end Go.Proofs.Ytafjflnnkdbmdaa
