/-
  No cell of these rows narrows 'for every input' (looked for: loops, veiled, ifaces, maps, wideKeys, modest, calm, conditions, laid).
  DERIVED. THE GIVEN ROWS OF THIS SEAT. 12 by the template 'for every input the law returns true; each argument reads behind the call as it read before'; 0 by the template 'total and deterministic' (their statements: YtgjihbmpbigilaaTotals.lean).
  GIVEN WITH THE SEED: the statements are not yours to turn. If you find one false, say at which input.
  Laid BY PROGRAM, IN A SANDBOX (cutbox-rows.mjs): the forced cells as the released guide's own fill.sh prints them over the translation d378242f033cd3b6… (all of the seat's roots in one cut). By AI agents, Wed Nov 11 2026. No macro, syntax, notation, axiom, sorry.
-/
import Derived.Test.YtgjihbmpbigilaaChecked
import GoSem.Claim
import GoSem.ClaimJoined
import GoSem.ClaimMapViews
import Derived.JoinedTies
import Derived.KernelRfl
namespace Go.Proofs.Ytgjihbmpbigilaa
/- THE CELL 'sum', in the pinned program and in every row, IS THE sha256 OF THE DUMP (.gsa) THAT YtgjihbmpbigilaaProg.lean LOADS. Nothing in Lean hashes anything: it is a label: what it is worth is what the hold of that sum in a sandbox is worth. -/
noncomputable def Try.pinned : Pinned := { name := "ytgjihbmpbigilaa", sum := "d378242f033cd3b6f121075f1f33d1f78ae4c4206c8e0766e6a83f996ad53401", checked := Try.checked }
namespace Rows
def none {H : Type} : Left H := { results := [], args := [] }

/-- 'laws.FnExactValidTiles': WHATEVER THE INPUT: true; the input reads as it did. -/
def fnExactValidTilesSpec : ChangeSpec := { name := "fnExactValidTiles", fn := fun _ => fun
  | [d] => { results := [.lit (.bool true)], args := [d] }
  | _ => none }
def fnExactValidTilesRow : OpenClaim := { program := "ytgjihbmpbigilaa", sum := "d378242f033cd3b6f121075f1f33d1f78ae4c4206c8e0766e6a83f996ad53401", func := "loop.example/g01079/laws.FnExactValidTiles", spec := "fnExactValidTiles", apart := false }
def FnExactValidTilesSaid : Prop := fnExactValidTilesRow.holds Try.pinned (OpenSpec.ofChange fnExactValidTilesSpec)

/-- ITS FALSE NEIGHBOUR: 'it returns false'. Refute it at one input. -/
def fnExactValidTilesWrong : ChangeSpec := { name := "fnExactValidTiles", fn := fun _ => fun
  | [d] => { results := [.lit (.bool false)], args := [d] }
  | _ => none }
def FnExactValidTilesWrongFalsely : Prop := fnExactValidTilesRow.holds Try.pinned (OpenSpec.ofChange fnExactValidTilesWrong)

/-- 'laws.FnExactIsBalanced': WHATEVER THE INPUT: true; the input reads as it did. -/
def fnExactIsBalancedSpec : ChangeSpec := { name := "fnExactIsBalanced", fn := fun _ => fun
  | [d] => { results := [.lit (.bool true)], args := [d] }
  | _ => none }
def fnExactIsBalancedRow : OpenClaim := { program := "ytgjihbmpbigilaa", sum := "d378242f033cd3b6f121075f1f33d1f78ae4c4206c8e0766e6a83f996ad53401", func := "loop.example/g01079/laws.FnExactIsBalanced", spec := "fnExactIsBalanced", unfollowed := true, recurses := true, apart := false }
def FnExactIsBalancedSaid : Prop := fnExactIsBalancedRow.holds Try.pinned (OpenSpec.ofChange fnExactIsBalancedSpec)

/-- ITS FALSE NEIGHBOUR: 'it returns false'. Refute it at one input. -/
def fnExactIsBalancedWrong : ChangeSpec := { name := "fnExactIsBalanced", fn := fun _ => fun
  | [d] => { results := [.lit (.bool false)], args := [d] }
  | _ => none }
def FnExactIsBalancedWrongFalsely : Prop := fnExactIsBalancedRow.holds Try.pinned (OpenSpec.ofChange fnExactIsBalancedWrong)

/-- 'laws.FnExactIsTiling': WHATEVER THE INPUT: true; the input reads as it did. -/
def fnExactIsTilingSpec : ChangeSpec := { name := "fnExactIsTiling", fn := fun _ => fun
  | [d1, d2, d3] => { results := [.lit (.bool true)], args := [d1, d2, d3] }
  | _ => none }
def fnExactIsTilingRow : OpenClaim := { program := "ytgjihbmpbigilaa", sum := "d378242f033cd3b6f121075f1f33d1f78ae4c4206c8e0766e6a83f996ad53401", func := "loop.example/g01079/laws.FnExactIsTiling", spec := "fnExactIsTiling", apart := false }
def FnExactIsTilingSaid : Prop := fnExactIsTilingRow.holds Try.pinned (OpenSpec.ofChange fnExactIsTilingSpec)

/-- ITS FALSE NEIGHBOUR: 'it returns false'. Refute it at one input. -/
def fnExactIsTilingWrong : ChangeSpec := { name := "fnExactIsTiling", fn := fun _ => fun
  | [d1, d2, d3] => { results := [.lit (.bool false)], args := [d1, d2, d3] }
  | _ => none }
def FnExactIsTilingWrongFalsely : Prop := fnExactIsTilingRow.holds Try.pinned (OpenSpec.ofChange fnExactIsTilingWrong)

/-- 'laws.FnExactCountTilings': WHATEVER THE INPUT: true; the input reads as it did. -/
def fnExactCountTilingsSpec : ChangeSpec := { name := "fnExactCountTilings", fn := fun _ => fun
  | [d1, d2, d3, d4] => { results := [.lit (.bool true)], args := [d1, d2, d3, d4] }
  | _ => none }
def fnExactCountTilingsRow : OpenClaim := { program := "ytgjihbmpbigilaa", sum := "d378242f033cd3b6f121075f1f33d1f78ae4c4206c8e0766e6a83f996ad53401", func := "loop.example/g01079/laws.FnExactCountTilings", spec := "fnExactCountTilings", unfollowed := true, recurses := true, apart := false }
def FnExactCountTilingsSaid : Prop := fnExactCountTilingsRow.holds Try.pinned (OpenSpec.ofChange fnExactCountTilingsSpec)

/-- ITS FALSE NEIGHBOUR: 'it returns false'. Refute it at one input. -/
def fnExactCountTilingsWrong : ChangeSpec := { name := "fnExactCountTilings", fn := fun _ => fun
  | [d1, d2, d3, d4] => { results := [.lit (.bool false)], args := [d1, d2, d3, d4] }
  | _ => none }
def FnExactCountTilingsWrongFalsely : Prop := fnExactCountTilingsRow.holds Try.pinned (OpenSpec.ofChange fnExactCountTilingsWrong)

/-- 'laws.FnExactMatchWord': WHATEVER THE INPUT: true; the input reads as it did. -/
def fnExactMatchWordSpec : ChangeSpec := { name := "fnExactMatchWord", fn := fun _ => fun
  | [d1, d2] => { results := [.lit (.bool true)], args := [d1, d2] }
  | _ => none }
def fnExactMatchWordRow : OpenClaim := { program := "ytgjihbmpbigilaa", sum := "d378242f033cd3b6f121075f1f33d1f78ae4c4206c8e0766e6a83f996ad53401", func := "loop.example/g01079/laws.FnExactMatchWord", spec := "fnExactMatchWord", unfollowed := true, recurses := true, apart := false }
def FnExactMatchWordSaid : Prop := fnExactMatchWordRow.holds Try.pinned (OpenSpec.ofChange fnExactMatchWordSpec)

/-- ITS FALSE NEIGHBOUR: 'it returns false'. Refute it at one input. -/
def fnExactMatchWordWrong : ChangeSpec := { name := "fnExactMatchWord", fn := fun _ => fun
  | [d1, d2] => { results := [.lit (.bool false)], args := [d1, d2] }
  | _ => none }
def FnExactMatchWordWrongFalsely : Prop := fnExactMatchWordRow.holds Try.pinned (OpenSpec.ofChange fnExactMatchWordWrong)

/-- 'laws.FnExactMultiplySquares': WHATEVER THE INPUT: true; the input reads as it did. -/
def fnExactMultiplySquaresSpec : ChangeSpec := { name := "fnExactMultiplySquares", fn := fun _ => fun
  | [d1, d2] => { results := [.lit (.bool true)], args := [d1, d2] }
  | _ => none }
def fnExactMultiplySquaresRow : OpenClaim := { program := "ytgjihbmpbigilaa", sum := "d378242f033cd3b6f121075f1f33d1f78ae4c4206c8e0766e6a83f996ad53401", func := "loop.example/g01079/laws.FnExactMultiplySquares", spec := "fnExactMultiplySquares", unfollowed := true, recurses := true, apart := false }
def FnExactMultiplySquaresSaid : Prop := fnExactMultiplySquaresRow.holds Try.pinned (OpenSpec.ofChange fnExactMultiplySquaresSpec)

/-- ITS FALSE NEIGHBOUR: 'it returns false'. Refute it at one input. -/
def fnExactMultiplySquaresWrong : ChangeSpec := { name := "fnExactMultiplySquares", fn := fun _ => fun
  | [d1, d2] => { results := [.lit (.bool false)], args := [d1, d2] }
  | _ => none }
def FnExactMultiplySquaresWrongFalsely : Prop := fnExactMultiplySquaresRow.holds Try.pinned (OpenSpec.ofChange fnExactMultiplySquaresWrong)

/-- 'laws.FnExactTopOf': WHATEVER THE INPUT: true; the input reads as it did. -/
def fnExactTopOfSpec : ChangeSpec := { name := "fnExactTopOf", fn := fun _ => fun
  | [d1, d2, d3] => { results := [.lit (.bool true)], args := [d1, d2, d3] }
  | _ => none }
def fnExactTopOfRow : OpenClaim := { program := "ytgjihbmpbigilaa", sum := "d378242f033cd3b6f121075f1f33d1f78ae4c4206c8e0766e6a83f996ad53401", func := "loop.example/g01079/laws.FnExactTopOf", spec := "fnExactTopOf", apart := false }
def FnExactTopOfSaid : Prop := fnExactTopOfRow.holds Try.pinned (OpenSpec.ofChange fnExactTopOfSpec)

/-- ITS FALSE NEIGHBOUR: 'it returns false'. Refute it at one input. -/
def fnExactTopOfWrong : ChangeSpec := { name := "fnExactTopOf", fn := fun _ => fun
  | [d1, d2, d3] => { results := [.lit (.bool false)], args := [d1, d2, d3] }
  | _ => none }
def FnExactTopOfWrongFalsely : Prop := fnExactTopOfRow.holds Try.pinned (OpenSpec.ofChange fnExactTopOfWrong)

/-- 'laws.FnExactDominoesText': WHATEVER THE INPUT: true; the input reads as it did. -/
def fnExactDominoesTextSpec : ChangeSpec := { name := "fnExactDominoesText", fn := fun _ => fun
  | [d] => { results := [.lit (.bool true)], args := [d] }
  | _ => none }
def fnExactDominoesTextRow : OpenClaim := { program := "ytgjihbmpbigilaa", sum := "d378242f033cd3b6f121075f1f33d1f78ae4c4206c8e0766e6a83f996ad53401", func := "loop.example/g01079/laws.FnExactDominoesText", spec := "fnExactDominoesText", inPlace := ["internal/abi.NoEscape", "internal/bytealg.MakeNoZero"], unfollowed := true, recurses := true, apart := false }
def FnExactDominoesTextSaid : Prop := fnExactDominoesTextRow.holds Try.pinned (OpenSpec.ofChange fnExactDominoesTextSpec)

/-- ITS FALSE NEIGHBOUR: 'it returns false'. Refute it at one input. -/
def fnExactDominoesTextWrong : ChangeSpec := { name := "fnExactDominoesText", fn := fun _ => fun
  | [d] => { results := [.lit (.bool false)], args := [d] }
  | _ => none }
def FnExactDominoesTextWrongFalsely : Prop := fnExactDominoesTextRow.holds Try.pinned (OpenSpec.ofChange fnExactDominoesTextWrong)

/-- 'laws.FnExactTilesOfMachine': WHATEVER THE INPUT: true; the input reads as it did. -/
def fnExactTilesOfMachineSpec : ChangeSpec := { name := "fnExactTilesOfMachine", fn := fun _ => fun
  | [d] => { results := [.lit (.bool true)], args := [d] }
  | _ => none }
def fnExactTilesOfMachineRow : OpenClaim := { program := "ytgjihbmpbigilaa", sum := "d378242f033cd3b6f121075f1f33d1f78ae4c4206c8e0766e6a83f996ad53401", func := "loop.example/g01079/laws.FnExactTilesOfMachine", spec := "fnExactTilesOfMachine", unfollowed := true, recurses := true, apart := false }
def FnExactTilesOfMachineSaid : Prop := fnExactTilesOfMachineRow.holds Try.pinned (OpenSpec.ofChange fnExactTilesOfMachineSpec)

/-- ITS FALSE NEIGHBOUR: 'it returns false'. Refute it at one input. -/
def fnExactTilesOfMachineWrong : ChangeSpec := { name := "fnExactTilesOfMachine", fn := fun _ => fun
  | [d] => { results := [.lit (.bool false)], args := [d] }
  | _ => none }
def FnExactTilesOfMachineWrongFalsely : Prop := fnExactTilesOfMachineRow.holds Try.pinned (OpenSpec.ofChange fnExactTilesOfMachineWrong)

/-- 'laws.FnExactPlainDominoes': WHATEVER THE INPUT: true; the input reads as it did. -/
def fnExactPlainDominoesSpec : ChangeSpec := { name := "fnExactPlainDominoes", fn := fun _ => fun
  | [d] => { results := [.lit (.bool true)], args := [d] }
  | _ => none }
def fnExactPlainDominoesRow : OpenClaim := { program := "ytgjihbmpbigilaa", sum := "d378242f033cd3b6f121075f1f33d1f78ae4c4206c8e0766e6a83f996ad53401", func := "loop.example/g01079/laws.FnExactPlainDominoes", spec := "fnExactPlainDominoes", unfollowed := true, recurses := true, apart := false }
def FnExactPlainDominoesSaid : Prop := fnExactPlainDominoesRow.holds Try.pinned (OpenSpec.ofChange fnExactPlainDominoesSpec)

/-- ITS FALSE NEIGHBOUR: 'it returns false'. Refute it at one input. -/
def fnExactPlainDominoesWrong : ChangeSpec := { name := "fnExactPlainDominoes", fn := fun _ => fun
  | [d] => { results := [.lit (.bool false)], args := [d] }
  | _ => none }
def FnExactPlainDominoesWrongFalsely : Prop := fnExactPlainDominoesRow.holds Try.pinned (OpenSpec.ofChange fnExactPlainDominoesWrong)

/-- 'laws.FnExactConfigOfRow': WHATEVER THE INPUT: true; the input reads as it did. -/
def fnExactConfigOfRowSpec : ChangeSpec := { name := "fnExactConfigOfRow", fn := fun _ => fun
  | [d1, d2] => { results := [.lit (.bool true)], args := [d1, d2] }
  | _ => none }
def fnExactConfigOfRowRow : OpenClaim := { program := "ytgjihbmpbigilaa", sum := "d378242f033cd3b6f121075f1f33d1f78ae4c4206c8e0766e6a83f996ad53401", func := "loop.example/g01079/laws.FnExactConfigOfRow", spec := "fnExactConfigOfRow", unfollowed := true, recurses := true, apart := false }
def FnExactConfigOfRowSaid : Prop := fnExactConfigOfRowRow.holds Try.pinned (OpenSpec.ofChange fnExactConfigOfRowSpec)

/-- ITS FALSE NEIGHBOUR: 'it returns false'. Refute it at one input. -/
def fnExactConfigOfRowWrong : ChangeSpec := { name := "fnExactConfigOfRow", fn := fun _ => fun
  | [d1, d2] => { results := [.lit (.bool false)], args := [d1, d2] }
  | _ => none }
def FnExactConfigOfRowWrongFalsely : Prop := fnExactConfigOfRowRow.holds Try.pinned (OpenSpec.ofChange fnExactConfigOfRowWrong)

/-- 'laws.FnExactRewritesToDominoes': WHATEVER THE INPUT: true; the input reads as it did. -/
def fnExactRewritesToDominoesSpec : ChangeSpec := { name := "fnExactRewritesToDominoes", fn := fun _ => fun
  | [d1, d2, d3] => { results := [.lit (.bool true)], args := [d1, d2, d3] }
  | _ => none }
def fnExactRewritesToDominoesRow : OpenClaim := { program := "ytgjihbmpbigilaa", sum := "d378242f033cd3b6f121075f1f33d1f78ae4c4206c8e0766e6a83f996ad53401", func := "loop.example/g01079/laws.FnExactRewritesToDominoes", spec := "fnExactRewritesToDominoes", unfollowed := true, recurses := true, apart := false }
def FnExactRewritesToDominoesSaid : Prop := fnExactRewritesToDominoesRow.holds Try.pinned (OpenSpec.ofChange fnExactRewritesToDominoesSpec)

/-- ITS FALSE NEIGHBOUR: 'it returns false'. Refute it at one input. -/
def fnExactRewritesToDominoesWrong : ChangeSpec := { name := "fnExactRewritesToDominoes", fn := fun _ => fun
  | [d1, d2, d3] => { results := [.lit (.bool false)], args := [d1, d2, d3] }
  | _ => none }
def FnExactRewritesToDominoesWrongFalsely : Prop := fnExactRewritesToDominoesRow.holds Try.pinned (OpenSpec.ofChange fnExactRewritesToDominoesWrong)

/- THE SECOND FORM. 'bulk': how many values and letters a reading holds, each counted each time it is reached (what is shared counts as often as it is met; a slice's spare places count too). A statement '..UptoSaid' is the law's where the arguments, and the package variables that the reading takes, are together of bulk at most 1048576: NARROWER than '..Said'. Prove '..Said' where nothing that the law and all that it calls make is longer than what came in: it says more and counts as full. Else prove '..UptoSaid'. A law counts once. -/
mutual
def uptoBulk {H : Type} : DataW H → Nat
  | .lit (.string bytes) => bytes.length + 1
  | .lit _ => 1
  | .nil => 1
  | .ptr d => uptoBulk d + 1
  | .slice elems spare => uptoBulkAll elems + uptoBulkAll spare + 1
  | .agg parts => uptoBulkAll parts + 1
  | .iface _ d => uptoBulk d + 1
  | .map entries => uptoBulkEntries entries + 1
  | .held _ => 1
def uptoBulkAll {H : Type} : List (DataW H) → Nat
  | [] => 0
  | d :: r => uptoBulk d + uptoBulkAll r
def uptoBulkEntries {H : Type} : List (Lit × DataW H) → Nat
  | [] => 0
  | x :: r => uptoBulkEntry x + uptoBulkEntries r
def uptoBulkEntry {H : Type} : Lit × DataW H → Nat
  | (.string bytes, d) => bytes.length + uptoBulk d + 1
  | (_, d) => uptoBulk d + 1
 end
def uptoSmall : (H : Type) → List (DataW H) → Bool := fun _ ds => decide (uptoBulkAll ds ≤ 1048576)
def OpenSpec.upto (s : _root_.Go.ChangeSpec) : _root_.Go.OpenSpec := { _root_.Go.OpenSpec.ofChange s with cond := some uptoSmall }

/-- 'laws.FnExactValidTiles', WHERE WHAT IT READS IS OF BULK AT MOST 1048576: true; the input reads as it did. -/
def fnExactValidTilesUptoRow : OpenClaim := { program := "ytgjihbmpbigilaa", sum := "d378242f033cd3b6f121075f1f33d1f78ae4c4206c8e0766e6a83f996ad53401", func := "loop.example/g01079/laws.FnExactValidTiles", spec := "fnExactValidTiles", apart := false, narrowed := true }
def FnExactValidTilesUptoSaid : Prop := fnExactValidTilesUptoRow.holds Try.pinned (OpenSpec.upto fnExactValidTilesSpec)

/-- 'laws.FnExactIsBalanced', WHERE WHAT IT READS IS OF BULK AT MOST 1048576: true; the input reads as it did. -/
def fnExactIsBalancedUptoRow : OpenClaim := { program := "ytgjihbmpbigilaa", sum := "d378242f033cd3b6f121075f1f33d1f78ae4c4206c8e0766e6a83f996ad53401", func := "loop.example/g01079/laws.FnExactIsBalanced", spec := "fnExactIsBalanced", unfollowed := true, recurses := true, apart := false, narrowed := true }
def FnExactIsBalancedUptoSaid : Prop := fnExactIsBalancedUptoRow.holds Try.pinned (OpenSpec.upto fnExactIsBalancedSpec)

/-- 'laws.FnExactIsTiling', WHERE WHAT IT READS IS OF BULK AT MOST 1048576: true; the input reads as it did. -/
def fnExactIsTilingUptoRow : OpenClaim := { program := "ytgjihbmpbigilaa", sum := "d378242f033cd3b6f121075f1f33d1f78ae4c4206c8e0766e6a83f996ad53401", func := "loop.example/g01079/laws.FnExactIsTiling", spec := "fnExactIsTiling", apart := false, narrowed := true }
def FnExactIsTilingUptoSaid : Prop := fnExactIsTilingUptoRow.holds Try.pinned (OpenSpec.upto fnExactIsTilingSpec)

/-- 'laws.FnExactCountTilings', WHERE WHAT IT READS IS OF BULK AT MOST 1048576: true; the input reads as it did. -/
def fnExactCountTilingsUptoRow : OpenClaim := { program := "ytgjihbmpbigilaa", sum := "d378242f033cd3b6f121075f1f33d1f78ae4c4206c8e0766e6a83f996ad53401", func := "loop.example/g01079/laws.FnExactCountTilings", spec := "fnExactCountTilings", unfollowed := true, recurses := true, apart := false, narrowed := true }
def FnExactCountTilingsUptoSaid : Prop := fnExactCountTilingsUptoRow.holds Try.pinned (OpenSpec.upto fnExactCountTilingsSpec)

/-- 'laws.FnExactMatchWord', WHERE WHAT IT READS IS OF BULK AT MOST 1048576: true; the input reads as it did. -/
def fnExactMatchWordUptoRow : OpenClaim := { program := "ytgjihbmpbigilaa", sum := "d378242f033cd3b6f121075f1f33d1f78ae4c4206c8e0766e6a83f996ad53401", func := "loop.example/g01079/laws.FnExactMatchWord", spec := "fnExactMatchWord", unfollowed := true, recurses := true, apart := false, narrowed := true }
def FnExactMatchWordUptoSaid : Prop := fnExactMatchWordUptoRow.holds Try.pinned (OpenSpec.upto fnExactMatchWordSpec)

/-- 'laws.FnExactMultiplySquares', WHERE WHAT IT READS IS OF BULK AT MOST 1048576: true; the input reads as it did. -/
def fnExactMultiplySquaresUptoRow : OpenClaim := { program := "ytgjihbmpbigilaa", sum := "d378242f033cd3b6f121075f1f33d1f78ae4c4206c8e0766e6a83f996ad53401", func := "loop.example/g01079/laws.FnExactMultiplySquares", spec := "fnExactMultiplySquares", unfollowed := true, recurses := true, apart := false, narrowed := true }
def FnExactMultiplySquaresUptoSaid : Prop := fnExactMultiplySquaresUptoRow.holds Try.pinned (OpenSpec.upto fnExactMultiplySquaresSpec)

/-- 'laws.FnExactTopOf', WHERE WHAT IT READS IS OF BULK AT MOST 1048576: true; the input reads as it did. -/
def fnExactTopOfUptoRow : OpenClaim := { program := "ytgjihbmpbigilaa", sum := "d378242f033cd3b6f121075f1f33d1f78ae4c4206c8e0766e6a83f996ad53401", func := "loop.example/g01079/laws.FnExactTopOf", spec := "fnExactTopOf", apart := false, narrowed := true }
def FnExactTopOfUptoSaid : Prop := fnExactTopOfUptoRow.holds Try.pinned (OpenSpec.upto fnExactTopOfSpec)

/-- 'laws.FnExactDominoesText', WHERE WHAT IT READS IS OF BULK AT MOST 1048576: true; the input reads as it did. -/
def fnExactDominoesTextUptoRow : OpenClaim := { program := "ytgjihbmpbigilaa", sum := "d378242f033cd3b6f121075f1f33d1f78ae4c4206c8e0766e6a83f996ad53401", func := "loop.example/g01079/laws.FnExactDominoesText", spec := "fnExactDominoesText", inPlace := ["internal/abi.NoEscape", "internal/bytealg.MakeNoZero"], unfollowed := true, recurses := true, apart := false, narrowed := true }
def FnExactDominoesTextUptoSaid : Prop := fnExactDominoesTextUptoRow.holds Try.pinned (OpenSpec.upto fnExactDominoesTextSpec)

/-- 'laws.FnExactTilesOfMachine', WHERE WHAT IT READS IS OF BULK AT MOST 1048576: true; the input reads as it did. -/
def fnExactTilesOfMachineUptoRow : OpenClaim := { program := "ytgjihbmpbigilaa", sum := "d378242f033cd3b6f121075f1f33d1f78ae4c4206c8e0766e6a83f996ad53401", func := "loop.example/g01079/laws.FnExactTilesOfMachine", spec := "fnExactTilesOfMachine", unfollowed := true, recurses := true, apart := false, narrowed := true }
def FnExactTilesOfMachineUptoSaid : Prop := fnExactTilesOfMachineUptoRow.holds Try.pinned (OpenSpec.upto fnExactTilesOfMachineSpec)

/-- 'laws.FnExactPlainDominoes', WHERE WHAT IT READS IS OF BULK AT MOST 1048576: true; the input reads as it did. -/
def fnExactPlainDominoesUptoRow : OpenClaim := { program := "ytgjihbmpbigilaa", sum := "d378242f033cd3b6f121075f1f33d1f78ae4c4206c8e0766e6a83f996ad53401", func := "loop.example/g01079/laws.FnExactPlainDominoes", spec := "fnExactPlainDominoes", unfollowed := true, recurses := true, apart := false, narrowed := true }
def FnExactPlainDominoesUptoSaid : Prop := fnExactPlainDominoesUptoRow.holds Try.pinned (OpenSpec.upto fnExactPlainDominoesSpec)

/-- 'laws.FnExactConfigOfRow', WHERE WHAT IT READS IS OF BULK AT MOST 1048576: true; the input reads as it did. -/
def fnExactConfigOfRowUptoRow : OpenClaim := { program := "ytgjihbmpbigilaa", sum := "d378242f033cd3b6f121075f1f33d1f78ae4c4206c8e0766e6a83f996ad53401", func := "loop.example/g01079/laws.FnExactConfigOfRow", spec := "fnExactConfigOfRow", unfollowed := true, recurses := true, apart := false, narrowed := true }
def FnExactConfigOfRowUptoSaid : Prop := fnExactConfigOfRowUptoRow.holds Try.pinned (OpenSpec.upto fnExactConfigOfRowSpec)

/-- 'laws.FnExactRewritesToDominoes', WHERE WHAT IT READS IS OF BULK AT MOST 1048576: true; the input reads as it did. -/
def fnExactRewritesToDominoesUptoRow : OpenClaim := { program := "ytgjihbmpbigilaa", sum := "d378242f033cd3b6f121075f1f33d1f78ae4c4206c8e0766e6a83f996ad53401", func := "loop.example/g01079/laws.FnExactRewritesToDominoes", spec := "fnExactRewritesToDominoes", unfollowed := true, recurses := true, apart := false, narrowed := true }
def FnExactRewritesToDominoesUptoSaid : Prop := fnExactRewritesToDominoesUptoRow.holds Try.pinned (OpenSpec.upto fnExactRewritesToDominoesSpec)

end Rows
end Go.Proofs.Ytgjihbmpbigilaa
