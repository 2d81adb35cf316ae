/-
  The readings of the form, as readings of plain data. No condition.
-/
import Derived.Test.YtneglngdbcefgaaProg
import Derived.Test.YtneglngdbcefgaaWf
import Derived.KernelRfl
namespace Go.Proofs.Ytneglngdbcefgaa
open Go Go.Tc Go.Fn
set_option linter.unusedVariables false
theorem tr_2 : Tr Try.prog 2 Int := tr_int Try.underlying2
theorem shp_2 : Shp Try.prog 2 Int := shp_int Try.underlying2
theorem tr_23 : Tr Try.prog 23 (List Int) := tr_slice Try.underlying23 (by kernel_rfl) tr_2
theorem shp_23 : Shp Try.prog 23 (List Int) := shp_slice Try.underlying23
theorem tr_71 : Tr Try.prog 71 GRewrite := by
  intro H enc w base spare held fuel cs x h
  obtain ⟨xs, n, _, _, hl, hlen, hf⟩ := DataW.trod_struct Try.underlying71 h
  have hl2 : cs.length = 2 := hl.trans (by kernel_rfl)
  obtain ⟨c0, c1, rfl⟩ := len2 hl2
  obtain ⟨y0, r0, w0⟩ := tr_field (c := c0) hlen hf 0 rfl tr_23 (by kernel_rfl) rfl
  obtain ⟨y1, r1, w1⟩ := tr_field (c := c1) hlen hf 1 rfl tr_23 (by kernel_rfl) rfl
  exact ⟨⟨y0, y1⟩, ⟨c0, c1, rfl, ⟨[c0], rfl, r0⟩, ⟨[c1], rfl, r1⟩⟩, ⟨w0, w1⟩⟩
theorem shp_71 : Shp Try.prog 71 GRewrite := shp_struct Try.underlying71 rfl
theorem tr_22 : Tr Try.prog 22 (List GRewrite) := tr_slice Try.underlying22 (by kernel_rfl) tr_71
theorem shp_22 : Shp Try.prog 22 (List GRewrite) := shp_slice Try.underlying22
theorem tr_5 : Tr Try.prog 5 (Ik .u8) := tr_ik Try.underlying5
theorem shp_5 : Shp Try.prog 5 (Ik .u8) := shp_ik Try.underlying5
theorem tr_38 : Tr Try.prog 38 (List (Ik .u8)) := tr_slice Try.underlying38 (by kernel_rfl) tr_5
theorem shp_38 : Shp Try.prog 38 (List (Ik .u8)) := shp_slice Try.underlying38
theorem tr_173 : Tr Try.prog 173 GRule := by
  intro H enc w base spare held fuel cs x h
  obtain ⟨xs, n, _, _, hl, hlen, hf⟩ := DataW.trod_struct Try.underlying173 h
  have hl2 : cs.length = 3 := hl.trans (by kernel_rfl)
  obtain ⟨c0, c1, c2, rfl⟩ := len3 hl2
  obtain ⟨y0, r0, w0⟩ := tr_field (c := c0) hlen hf 0 rfl tr_2 (by kernel_rfl) rfl
  obtain rfl := (List.cons.inj r0).1
  obtain ⟨y1, r1, w1⟩ := tr_field (c := c1) hlen hf 1 rfl tr_2 (by kernel_rfl) rfl
  obtain rfl := (List.cons.inj r1).1
  obtain ⟨y2, r2, w2⟩ := tr_field (c := c2) hlen hf 2 rfl tr_2 (by kernel_rfl) rfl
  obtain rfl := (List.cons.inj r2).1
  exact ⟨⟨y0, y1, y2⟩, rfl, ⟨w0, w1, w2⟩⟩
theorem shp_173 : Shp Try.prog 173 GRule := shp_struct Try.underlying173 rfl
theorem tr_50 : Tr Try.prog 50 (List GRule) := tr_slice Try.underlying50 (by kernel_rfl) tr_173
theorem shp_50 : Shp Try.prog 50 (List GRule) := shp_slice Try.underlying50
theorem tr_52 : Tr Try.prog 52 GMachine := by
  intro H enc w base spare held fuel cs x h
  obtain ⟨xs, n, _, _, hl, hlen, hf⟩ := DataW.trod_struct Try.underlying52 h
  have hl2 : cs.length = 3 := hl.trans (by kernel_rfl)
  obtain ⟨c0, c1, c2, rfl⟩ := len3 hl2
  obtain ⟨y0, r0, w0⟩ := tr_field (c := c0) hlen hf 0 rfl tr_2 (by kernel_rfl) rfl
  obtain rfl := (List.cons.inj r0).1
  obtain ⟨y1, r1, w1⟩ := tr_field (c := c1) hlen hf 1 rfl tr_2 (by kernel_rfl) rfl
  obtain rfl := (List.cons.inj r1).1
  obtain ⟨y2, r2, w2⟩ := tr_field (c := c2) hlen hf 2 rfl tr_50 (by kernel_rfl) rfl
  exact ⟨⟨y0, y1, y2⟩, ⟨c2, rfl, ⟨[c2], rfl, r2⟩⟩, ⟨w0, w1, w2⟩⟩
theorem shp_52 : Shp Try.prog 52 GMachine := shp_struct Try.underlying52 rfl
theorem tr_54 : Tr Try.prog 54 GConfig := by
  intro H enc w base spare held fuel cs x h
  obtain ⟨xs, n, _, _, hl, hlen, hf⟩ := DataW.trod_struct Try.underlying54 h
  have hl2 : cs.length = 3 := hl.trans (by kernel_rfl)
  obtain ⟨c0, c1, c2, rfl⟩ := len3 hl2
  obtain ⟨y0, r0, w0⟩ := tr_field (c := c0) hlen hf 0 rfl tr_2 (by kernel_rfl) rfl
  obtain rfl := (List.cons.inj r0).1
  obtain ⟨y1, r1, w1⟩ := tr_field (c := c1) hlen hf 1 rfl tr_23 (by kernel_rfl) rfl
  obtain ⟨y2, r2, w2⟩ := tr_field (c := c2) hlen hf 2 rfl tr_23 (by kernel_rfl) rfl
  exact ⟨⟨y0, y1, y2⟩, ⟨c1, c2, rfl, ⟨[c1], rfl, r1⟩, ⟨[c2], rfl, r2⟩⟩, ⟨w0, w1, w2⟩⟩
theorem shp_54 : Shp Try.prog 54 GConfig := shp_struct Try.underlying54 rfl

end Go.Proofs.Ytneglngdbcefgaa
