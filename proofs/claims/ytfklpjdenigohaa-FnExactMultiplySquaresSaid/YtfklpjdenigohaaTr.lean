/-
  The readings of the form, as readings of plain data. No condition.
-/
import Derived.Test.YtfklpjdenigohaaProg
import Derived.Test.YtfklpjdenigohaaWf
import Derived.KernelRfl
namespace Go.Proofs.Ytfklpjdenigohaa
open Go Go.Tc Go.Fn
set_option linter.unusedVariables false
theorem tr_2 : Tr Try.prog 2 Int := tr_int Try.underlying2
theorem shp_2 : Shp Try.prog 2 Int := shp_int Try.underlying2
theorem tr_31 : Tr Try.prog 31 (List Int) := tr_slice Try.underlying31 (by kernel_rfl) tr_2
theorem shp_31 : Shp Try.prog 31 (List Int) := shp_slice Try.underlying31
theorem tr_22 : Tr Try.prog 22 (List (List Int)) := tr_slice Try.underlying22 (by kernel_rfl) tr_31
theorem shp_22 : Shp Try.prog 22 (List (List Int)) := shp_slice Try.underlying22
theorem tr_163 : Tr Try.prog 163 GRule := by
  intro H enc w base spare held fuel cs x h
  obtain ⟨xs, n, _, _, hl, hlen, hf⟩ := DataW.trod_struct Try.underlying163 h
  have hl2 : cs.length = 3 := hl.trans (by kernel_rfl)
  obtain ⟨c0, c1, c2, rfl⟩ := len3 hl2
  obtain ⟨y0, r0, w0⟩ := tr_field (c := c0) hlen hf 0 rfl tr_2 (by kernel_rfl) rfl
  obtain rfl := (List.cons.inj r0).1
  obtain ⟨y1, r1, w1⟩ := tr_field (c := c1) hlen hf 1 rfl tr_2 (by kernel_rfl) rfl
  obtain rfl := (List.cons.inj r1).1
  obtain ⟨y2, r2, w2⟩ := tr_field (c := c2) hlen hf 2 rfl tr_2 (by kernel_rfl) rfl
  obtain rfl := (List.cons.inj r2).1
  exact ⟨⟨y0, y1, y2⟩, rfl, ⟨w0, w1, w2⟩⟩
theorem shp_163 : Shp Try.prog 163 GRule := shp_struct Try.underlying163 rfl
theorem tr_28 : Tr Try.prog 28 (List GRule) := tr_slice Try.underlying28 (by kernel_rfl) tr_163
theorem shp_28 : Shp Try.prog 28 (List GRule) := shp_slice Try.underlying28
theorem tr_30 : Tr Try.prog 30 GMachine := by
  intro H enc w base spare held fuel cs x h
  obtain ⟨xs, n, _, _, hl, hlen, hf⟩ := DataW.trod_struct Try.underlying30 h
  have hl2 : cs.length = 3 := hl.trans (by kernel_rfl)
  obtain ⟨c0, c1, c2, rfl⟩ := len3 hl2
  obtain ⟨y0, r0, w0⟩ := tr_field (c := c0) hlen hf 0 rfl tr_2 (by kernel_rfl) rfl
  obtain rfl := (List.cons.inj r0).1
  obtain ⟨y1, r1, w1⟩ := tr_field (c := c1) hlen hf 1 rfl tr_2 (by kernel_rfl) rfl
  obtain rfl := (List.cons.inj r1).1
  obtain ⟨y2, r2, w2⟩ := tr_field (c := c2) hlen hf 2 rfl tr_28 (by kernel_rfl) rfl
  exact ⟨⟨y0, y1, y2⟩, ⟨c2, rfl, ⟨[c2], rfl, r2⟩⟩, ⟨w0, w1, w2⟩⟩
theorem shp_30 : Shp Try.prog 30 GMachine := shp_struct Try.underlying30 rfl
theorem tr_105 : Tr Try.prog 105 GRewrite := by
  intro H enc w base spare held fuel cs x h
  obtain ⟨xs, n, _, _, hl, hlen, hf⟩ := DataW.trod_struct Try.underlying105 h
  have hl2 : cs.length = 2 := hl.trans (by kernel_rfl)
  obtain ⟨c0, c1, rfl⟩ := len2 hl2
  obtain ⟨y0, r0, w0⟩ := tr_field (c := c0) hlen hf 0 rfl tr_31 (by kernel_rfl) rfl
  obtain ⟨y1, r1, w1⟩ := tr_field (c := c1) hlen hf 1 rfl tr_31 (by kernel_rfl) rfl
  exact ⟨⟨y0, y1⟩, ⟨c0, c1, rfl, ⟨[c0], rfl, r0⟩, ⟨[c1], rfl, r1⟩⟩, ⟨w0, w1⟩⟩
theorem shp_105 : Shp Try.prog 105 GRewrite := shp_struct Try.underlying105 rfl
theorem tr_49 : Tr Try.prog 49 (List GRewrite) := tr_slice Try.underlying49 (by kernel_rfl) tr_105
theorem shp_49 : Shp Try.prog 49 (List GRewrite) := shp_slice Try.underlying49
theorem tr_61 : Tr Try.prog 61 GConfig := by
  intro H enc w base spare held fuel cs x h
  obtain ⟨xs, n, _, _, hl, hlen, hf⟩ := DataW.trod_struct Try.underlying61 h
  have hl2 : cs.length = 3 := hl.trans (by kernel_rfl)
  obtain ⟨c0, c1, c2, rfl⟩ := len3 hl2
  obtain ⟨y0, r0, w0⟩ := tr_field (c := c0) hlen hf 0 rfl tr_2 (by kernel_rfl) rfl
  obtain rfl := (List.cons.inj r0).1
  obtain ⟨y1, r1, w1⟩ := tr_field (c := c1) hlen hf 1 rfl tr_31 (by kernel_rfl) rfl
  obtain ⟨y2, r2, w2⟩ := tr_field (c := c2) hlen hf 2 rfl tr_31 (by kernel_rfl) rfl
  exact ⟨⟨y0, y1, y2⟩, ⟨c1, c2, rfl, ⟨[c1], rfl, r1⟩, ⟨[c2], rfl, r2⟩⟩, ⟨w0, w1, w2⟩⟩
theorem shp_61 : Shp Try.prog 61 GConfig := shp_struct Try.underlying61 rfl
theorem tr_131 : Tr Try.prog 131 GDomino := by
  intro H enc w base spare held fuel cs x h
  obtain ⟨xs, n, _, _, hl, hlen, hf⟩ := DataW.trod_struct Try.underlying131 h
  have hl2 : cs.length = 2 := hl.trans (by kernel_rfl)
  obtain ⟨c0, c1, rfl⟩ := len2 hl2
  obtain ⟨y0, r0, w0⟩ := tr_field (c := c0) hlen hf 0 rfl tr_31 (by kernel_rfl) rfl
  obtain ⟨y1, r1, w1⟩ := tr_field (c := c1) hlen hf 1 rfl tr_31 (by kernel_rfl) rfl
  exact ⟨⟨y0, y1⟩, ⟨c0, c1, rfl, ⟨[c0], rfl, r0⟩, ⟨[c1], rfl, r1⟩⟩, ⟨w0, w1⟩⟩
theorem shp_131 : Shp Try.prog 131 GDomino := shp_struct Try.underlying131 rfl
theorem tr_73 : Tr Try.prog 73 (List GDomino) := tr_slice Try.underlying73 (by kernel_rfl) tr_131
theorem shp_73 : Shp Try.prog 73 (List GDomino) := shp_slice Try.underlying73

end Go.Proofs.Ytfklpjdenigohaa
