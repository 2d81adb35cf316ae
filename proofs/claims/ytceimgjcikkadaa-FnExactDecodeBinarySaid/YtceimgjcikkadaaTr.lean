/-
  The readings of the form, as readings of plain data. No condition.
-/
import Derived.Test.YtceimgjcikkadaaProg
import Derived.Test.YtceimgjcikkadaaWf
import Derived.KernelRfl
namespace Go.Proofs.Ytceimgjcikkadaa
open Go Go.Tc Go.Fn
set_option linter.unusedVariables false
theorem tr_2 : Tr Try.prog 2 Int := tr_int Try.underlying2
theorem shp_2 : Shp Try.prog 2 Int := shp_int Try.underlying2
theorem tr_100 : Tr Try.prog 100 GRule := by
  intro H enc w base spare held fuel cs x h
  obtain ⟨xs, n, _, _, hl, hlen, hf⟩ := DataW.trod_struct Try.underlying100 h
  have hl2 : cs.length = 3 := hl.trans (by kernel_rfl)
  obtain ⟨c0, c1, c2, rfl⟩ := len3 hl2
  obtain ⟨y0, r0, w0⟩ := tr_field (c := c0) hlen hf 0 rfl tr_2 (by kernel_rfl) rfl
  obtain rfl := (List.cons.inj r0).1
  obtain ⟨y1, r1, w1⟩ := tr_field (c := c1) hlen hf 1 rfl tr_2 (by kernel_rfl) rfl
  obtain rfl := (List.cons.inj r1).1
  obtain ⟨y2, r2, w2⟩ := tr_field (c := c2) hlen hf 2 rfl tr_2 (by kernel_rfl) rfl
  obtain rfl := (List.cons.inj r2).1
  exact ⟨⟨y0, y1, y2⟩, rfl, ⟨w0, w1, w2⟩⟩
theorem shp_100 : Shp Try.prog 100 GRule := shp_struct Try.underlying100 rfl
theorem tr_22 : Tr Try.prog 22 (List GRule) := tr_slice Try.underlying22 (by kernel_rfl) tr_100
theorem shp_22 : Shp Try.prog 22 (List GRule) := shp_slice Try.underlying22
theorem tr_24 : Tr Try.prog 24 GMachine := by
  intro H enc w base spare held fuel cs x h
  obtain ⟨xs, n, _, _, hl, hlen, hf⟩ := DataW.trod_struct Try.underlying24 h
  have hl2 : cs.length = 3 := hl.trans (by kernel_rfl)
  obtain ⟨c0, c1, c2, rfl⟩ := len3 hl2
  obtain ⟨y0, r0, w0⟩ := tr_field (c := c0) hlen hf 0 rfl tr_2 (by kernel_rfl) rfl
  obtain rfl := (List.cons.inj r0).1
  obtain ⟨y1, r1, w1⟩ := tr_field (c := c1) hlen hf 1 rfl tr_2 (by kernel_rfl) rfl
  obtain rfl := (List.cons.inj r1).1
  obtain ⟨y2, r2, w2⟩ := tr_field (c := c2) hlen hf 2 rfl tr_22 (by kernel_rfl) rfl
  exact ⟨⟨y0, y1, y2⟩, ⟨c2, rfl, ⟨[c2], rfl, r2⟩⟩, ⟨w0, w1, w2⟩⟩
theorem shp_24 : Shp Try.prog 24 GMachine := shp_struct Try.underlying24 rfl
theorem tr_35 : Tr Try.prog 35 (List Int) := tr_slice Try.underlying35 (by kernel_rfl) tr_2
theorem shp_35 : Shp Try.prog 35 (List Int) := shp_slice Try.underlying35
theorem tr_37 : Tr Try.prog 37 GConfig := by
  intro H enc w base spare held fuel cs x h
  obtain ⟨xs, n, _, _, hl, hlen, hf⟩ := DataW.trod_struct Try.underlying37 h
  have hl2 : cs.length = 3 := hl.trans (by kernel_rfl)
  obtain ⟨c0, c1, c2, rfl⟩ := len3 hl2
  obtain ⟨y0, r0, w0⟩ := tr_field (c := c0) hlen hf 0 rfl tr_2 (by kernel_rfl) rfl
  obtain rfl := (List.cons.inj r0).1
  obtain ⟨y1, r1, w1⟩ := tr_field (c := c1) hlen hf 1 rfl tr_35 (by kernel_rfl) rfl
  obtain ⟨y2, r2, w2⟩ := tr_field (c := c2) hlen hf 2 rfl tr_35 (by kernel_rfl) rfl
  exact ⟨⟨y0, y1, y2⟩, ⟨c1, c2, rfl, ⟨[c1], rfl, r1⟩, ⟨[c2], rfl, r2⟩⟩, ⟨w0, w1, w2⟩⟩
theorem shp_37 : Shp Try.prog 37 GConfig := shp_struct Try.underlying37 rfl

end Go.Proofs.Ytceimgjcikkadaa
