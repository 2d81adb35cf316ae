/-
  The readings of the form, as readings of plain data. No condition.
-/
import Derived.Test.YtgjihbmpbigilaaProg
import Derived.Test.YtgjihbmpbigilaaWf
import Derived.KernelRfl
namespace Go.Proofs.Ytgjihbmpbigilaa
open Go Go.Tc Go.Fn
set_option linter.unusedVariables false
theorem tr_2 : Tr Try.prog 2 Int := tr_int Try.underlying2
theorem shp_2 : Shp Try.prog 2 Int := shp_int Try.underlying2
theorem tr_91 : Tr Try.prog 91 GTile := by
  intro H enc w base spare held fuel cs x h
  obtain ⟨xs, n, _, _, hl, hlen, hf⟩ := DataW.trod_struct Try.underlying91 h
  have hl2 : cs.length = 4 := hl.trans (by kernel_rfl)
  obtain ⟨c0, c1, c2, c3, rfl⟩ := len4 hl2
  obtain ⟨y0, r0, w0⟩ := tr_field (c := c0) hlen hf 0 rfl tr_2 (by kernel_rfl) rfl
  obtain rfl := (List.cons.inj r0).1
  obtain ⟨y1, r1, w1⟩ := tr_field (c := c1) hlen hf 1 rfl tr_2 (by kernel_rfl) rfl
  obtain rfl := (List.cons.inj r1).1
  obtain ⟨y2, r2, w2⟩ := tr_field (c := c2) hlen hf 2 rfl tr_2 (by kernel_rfl) rfl
  obtain rfl := (List.cons.inj r2).1
  obtain ⟨y3, r3, w3⟩ := tr_field (c := c3) hlen hf 3 rfl tr_2 (by kernel_rfl) rfl
  obtain rfl := (List.cons.inj r3).1
  exact ⟨⟨y0, y1, y2, y3⟩, rfl, ⟨w0, w1, w2, w3⟩⟩
theorem shp_91 : Shp Try.prog 91 GTile := shp_struct Try.underlying91 rfl
theorem tr_22 : Tr Try.prog 22 (List GTile) := tr_slice Try.underlying22 (by kernel_rfl) tr_91
theorem shp_22 : Shp Try.prog 22 (List GTile) := shp_slice Try.underlying22
theorem tr_34 : Tr Try.prog 34 (List Int) := tr_slice Try.underlying34 (by kernel_rfl) tr_2
theorem shp_34 : Shp Try.prog 34 (List Int) := shp_slice Try.underlying34
theorem tr_29 : Tr Try.prog 29 (List (List Int)) := tr_slice Try.underlying29 (by kernel_rfl) tr_34
theorem shp_29 : Shp Try.prog 29 (List (List Int)) := shp_slice Try.underlying29
theorem tr_115 : Tr Try.prog 115 GDomino := by
  intro H enc w base spare held fuel cs x h
  obtain ⟨xs, n, _, _, hl, hlen, hf⟩ := DataW.trod_struct Try.underlying115 h
  have hl2 : cs.length = 2 := hl.trans (by kernel_rfl)
  obtain ⟨c0, c1, rfl⟩ := len2 hl2
  obtain ⟨y0, r0, w0⟩ := tr_field (c := c0) hlen hf 0 rfl tr_34 (by kernel_rfl) rfl
  obtain ⟨y1, r1, w1⟩ := tr_field (c := c1) hlen hf 1 rfl tr_34 (by kernel_rfl) rfl
  exact ⟨⟨y0, y1⟩, ⟨c0, c1, rfl, ⟨[c0], rfl, r0⟩, ⟨[c1], rfl, r1⟩⟩, ⟨w0, w1⟩⟩
theorem shp_115 : Shp Try.prog 115 GDomino := shp_struct Try.underlying115 rfl
theorem tr_42 : Tr Try.prog 42 (List GDomino) := tr_slice Try.underlying42 (by kernel_rfl) tr_115
theorem shp_42 : Shp Try.prog 42 (List GDomino) := shp_slice Try.underlying42
theorem tr_174 : Tr Try.prog 174 GRule := by
  intro H enc w base spare held fuel cs x h
  obtain ⟨xs, n, _, _, hl, hlen, hf⟩ := DataW.trod_struct Try.underlying174 h
  have hl2 : cs.length = 3 := hl.trans (by kernel_rfl)
  obtain ⟨c0, c1, c2, rfl⟩ := len3 hl2
  obtain ⟨y0, r0, w0⟩ := tr_field (c := c0) hlen hf 0 rfl tr_2 (by kernel_rfl) rfl
  obtain rfl := (List.cons.inj r0).1
  obtain ⟨y1, r1, w1⟩ := tr_field (c := c1) hlen hf 1 rfl tr_2 (by kernel_rfl) rfl
  obtain rfl := (List.cons.inj r1).1
  obtain ⟨y2, r2, w2⟩ := tr_field (c := c2) hlen hf 2 rfl tr_2 (by kernel_rfl) rfl
  obtain rfl := (List.cons.inj r2).1
  exact ⟨⟨y0, y1, y2⟩, rfl, ⟨w0, w1, w2⟩⟩
theorem shp_174 : Shp Try.prog 174 GRule := shp_struct Try.underlying174 rfl
theorem tr_58 : Tr Try.prog 58 (List GRule) := tr_slice Try.underlying58 (by kernel_rfl) tr_174
theorem shp_58 : Shp Try.prog 58 (List GRule) := shp_slice Try.underlying58
theorem tr_60 : Tr Try.prog 60 GMachine := by
  intro H enc w base spare held fuel cs x h
  obtain ⟨xs, n, _, _, hl, hlen, hf⟩ := DataW.trod_struct Try.underlying60 h
  have hl2 : cs.length = 3 := hl.trans (by kernel_rfl)
  obtain ⟨c0, c1, c2, rfl⟩ := len3 hl2
  obtain ⟨y0, r0, w0⟩ := tr_field (c := c0) hlen hf 0 rfl tr_2 (by kernel_rfl) rfl
  obtain rfl := (List.cons.inj r0).1
  obtain ⟨y1, r1, w1⟩ := tr_field (c := c1) hlen hf 1 rfl tr_2 (by kernel_rfl) rfl
  obtain rfl := (List.cons.inj r1).1
  obtain ⟨y2, r2, w2⟩ := tr_field (c := c2) hlen hf 2 rfl tr_58 (by kernel_rfl) rfl
  exact ⟨⟨y0, y1, y2⟩, ⟨c2, rfl, ⟨[c2], rfl, r2⟩⟩, ⟨w0, w1, w2⟩⟩
theorem shp_60 : Shp Try.prog 60 GMachine := shp_struct Try.underlying60 rfl
theorem tr_137 : Tr Try.prog 137 GRewrite := by
  intro H enc w base spare held fuel cs x h
  obtain ⟨xs, n, _, _, hl, hlen, hf⟩ := DataW.trod_struct Try.underlying137 h
  have hl2 : cs.length = 2 := hl.trans (by kernel_rfl)
  obtain ⟨c0, c1, rfl⟩ := len2 hl2
  obtain ⟨y0, r0, w0⟩ := tr_field (c := c0) hlen hf 0 rfl tr_34 (by kernel_rfl) rfl
  obtain ⟨y1, r1, w1⟩ := tr_field (c := c1) hlen hf 1 rfl tr_34 (by kernel_rfl) rfl
  exact ⟨⟨y0, y1⟩, ⟨c0, c1, rfl, ⟨[c0], rfl, r0⟩, ⟨[c1], rfl, r1⟩⟩, ⟨w0, w1⟩⟩
theorem shp_137 : Shp Try.prog 137 GRewrite := shp_struct Try.underlying137 rfl
theorem tr_80 : Tr Try.prog 80 (List GRewrite) := tr_slice Try.underlying80 (by kernel_rfl) tr_137
theorem shp_80 : Shp Try.prog 80 (List GRewrite) := shp_slice Try.underlying80

end Go.Proofs.Ytgjihbmpbigilaa
