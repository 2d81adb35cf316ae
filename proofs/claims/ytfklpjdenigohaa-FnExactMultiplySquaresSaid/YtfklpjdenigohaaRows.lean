/-
  No cell of these rows narrows 'for every input' (looked for: loops, veiled, ifaces, maps, wideKeys, modest, calm, conditions, laid).
  DERIVED. THE GIVEN ROWS OF THIS SEAT. 12 by the template 'for every input the law returns true; each argument reads behind the call as it read before'; 0 by the template 'total and deterministic' (their statements: YtfklpjdenigohaaTotals.lean).
  GIVEN WITH THE SEED: the statements are not yours to turn. If you find one false, say at which input.
  Laid BY PROGRAM, IN A SANDBOX (cutbox-rows.mjs): the forced cells as the released guide's own fill.sh prints them over the translation 7635a28305f8ac54… (all of the seat's roots in one cut). By AI agents, Wed Nov 11 2026. No macro, syntax, notation, axiom, sorry.
-/
import Derived.Test.YtfklpjdenigohaaChecked
import GoSem.Claim
import GoSem.ClaimJoined
import GoSem.ClaimMapViews
import Derived.JoinedTies
import Derived.KernelRfl
namespace Go.Proofs.Ytfklpjdenigohaa
/- THE CELL 'sum', in the pinned program and in every row, IS THE sha256 OF THE DUMP (.gsa) THAT YtfklpjdenigohaaProg.lean LOADS. Nothing in Lean hashes anything: it is a label: what it is worth is what the hold of that sum in a sandbox is worth. -/
noncomputable def Try.pinned : Pinned := { name := "ytfklpjdenigohaa", sum := "7635a28305f8ac54b7628d60f377b0c7ee04de90b26a066df06bee04e1f3c491", checked := Try.checked }
namespace Rows
def none {H : Type} : Left H := { results := [], args := [] }

/-- 'laws.FnExactMultiplySquares': WHATEVER THE INPUT: true; the input reads as it did. -/
def fnExactMultiplySquaresSpec : ChangeSpec := { name := "fnExactMultiplySquares", fn := fun _ => fun
  | [d1, d2] => { results := [.lit (.bool true)], args := [d1, d2] }
  | _ => none }
def fnExactMultiplySquaresRow : OpenClaim := { program := "ytfklpjdenigohaa", sum := "7635a28305f8ac54b7628d60f377b0c7ee04de90b26a066df06bee04e1f3c491", func := "loop.example/g01079/laws.FnExactMultiplySquares", spec := "fnExactMultiplySquares", unfollowed := true, recurses := true, apart := false }
def FnExactMultiplySquaresSaid : Prop := fnExactMultiplySquaresRow.holds Try.pinned (OpenSpec.ofChange fnExactMultiplySquaresSpec)

/-- ITS FALSE NEIGHBOUR: 'it returns false'. Refute it at one input. -/
def fnExactMultiplySquaresWrong : ChangeSpec := { name := "fnExactMultiplySquares", fn := fun _ => fun
  | [d1, d2] => { results := [.lit (.bool false)], args := [d1, d2] }
  | _ => none }
def FnExactMultiplySquaresWrongFalsely : Prop := fnExactMultiplySquaresRow.holds Try.pinned (OpenSpec.ofChange fnExactMultiplySquaresWrong)

/-- 'laws.FnExactConfigOfRow': WHATEVER THE INPUT: true; the input reads as it did. -/
def fnExactConfigOfRowSpec : ChangeSpec := { name := "fnExactConfigOfRow", fn := fun _ => fun
  | [d1, d2] => { results := [.lit (.bool true)], args := [d1, d2] }
  | _ => none }
def fnExactConfigOfRowRow : OpenClaim := { program := "ytfklpjdenigohaa", sum := "7635a28305f8ac54b7628d60f377b0c7ee04de90b26a066df06bee04e1f3c491", func := "loop.example/g01079/laws.FnExactConfigOfRow", spec := "fnExactConfigOfRow", unfollowed := true, recurses := true, apart := false }
def FnExactConfigOfRowSaid : Prop := fnExactConfigOfRowRow.holds Try.pinned (OpenSpec.ofChange fnExactConfigOfRowSpec)

/-- ITS FALSE NEIGHBOUR: 'it returns false'. Refute it at one input. -/
def fnExactConfigOfRowWrong : ChangeSpec := { name := "fnExactConfigOfRow", fn := fun _ => fun
  | [d1, d2] => { results := [.lit (.bool false)], args := [d1, d2] }
  | _ => none }
def FnExactConfigOfRowWrongFalsely : Prop := fnExactConfigOfRowRow.holds Try.pinned (OpenSpec.ofChange fnExactConfigOfRowWrong)

/-- 'laws.FnExactRewritesToDominoes': WHATEVER THE INPUT: true; the input reads as it did. -/
def fnExactRewritesToDominoesSpec : ChangeSpec := { name := "fnExactRewritesToDominoes", fn := fun _ => fun
  | [d1, d2, d3] => { results := [.lit (.bool true)], args := [d1, d2, d3] }
  | _ => none }
def fnExactRewritesToDominoesRow : OpenClaim := { program := "ytfklpjdenigohaa", sum := "7635a28305f8ac54b7628d60f377b0c7ee04de90b26a066df06bee04e1f3c491", func := "loop.example/g01079/laws.FnExactRewritesToDominoes", spec := "fnExactRewritesToDominoes", unfollowed := true, recurses := true, apart := false }
def FnExactRewritesToDominoesSaid : Prop := fnExactRewritesToDominoesRow.holds Try.pinned (OpenSpec.ofChange fnExactRewritesToDominoesSpec)

/-- ITS FALSE NEIGHBOUR: 'it returns false'. Refute it at one input. -/
def fnExactRewritesToDominoesWrong : ChangeSpec := { name := "fnExactRewritesToDominoes", fn := fun _ => fun
  | [d1, d2, d3] => { results := [.lit (.bool false)], args := [d1, d2, d3] }
  | _ => none }
def FnExactRewritesToDominoesWrongFalsely : Prop := fnExactRewritesToDominoesRow.holds Try.pinned (OpenSpec.ofChange fnExactRewritesToDominoesWrong)

/-- 'laws.FnExactHaltWords': WHATEVER THE INPUT: true; the input reads as it did. -/
def fnExactHaltWordsSpec : ChangeSpec := { name := "fnExactHaltWords", fn := fun _ => fun
  | [d1, d2] => { results := [.lit (.bool true)], args := [d1, d2] }
  | _ => none }
def fnExactHaltWordsRow : OpenClaim := { program := "ytfklpjdenigohaa", sum := "7635a28305f8ac54b7628d60f377b0c7ee04de90b26a066df06bee04e1f3c491", func := "loop.example/g01079/laws.FnExactHaltWords", spec := "fnExactHaltWords", unfollowed := true, recurses := true, apart := false }
def FnExactHaltWordsSaid : Prop := fnExactHaltWordsRow.holds Try.pinned (OpenSpec.ofChange fnExactHaltWordsSpec)

/-- ITS FALSE NEIGHBOUR: 'it returns false'. Refute it at one input. -/
def fnExactHaltWordsWrong : ChangeSpec := { name := "fnExactHaltWords", fn := fun _ => fun
  | [d1, d2] => { results := [.lit (.bool false)], args := [d1, d2] }
  | _ => none }
def FnExactHaltWordsWrongFalsely : Prop := fnExactHaltWordsRow.holds Try.pinned (OpenSpec.ofChange fnExactHaltWordsWrong)

/-- 'laws.FnExactHaltRewrites': WHATEVER THE INPUT: true; the input reads as it did. -/
def fnExactHaltRewritesSpec : ChangeSpec := { name := "fnExactHaltRewrites", fn := fun _ => fun
  | [d] => { results := [.lit (.bool true)], args := [d] }
  | _ => none }
def fnExactHaltRewritesRow : OpenClaim := { program := "ytfklpjdenigohaa", sum := "7635a28305f8ac54b7628d60f377b0c7ee04de90b26a066df06bee04e1f3c491", func := "loop.example/g01079/laws.FnExactHaltRewrites", spec := "fnExactHaltRewrites", unfollowed := true, recurses := true, apart := false }
def FnExactHaltRewritesSaid : Prop := fnExactHaltRewritesRow.holds Try.pinned (OpenSpec.ofChange fnExactHaltRewritesSpec)

/-- ITS FALSE NEIGHBOUR: 'it returns false'. Refute it at one input. -/
def fnExactHaltRewritesWrong : ChangeSpec := { name := "fnExactHaltRewrites", fn := fun _ => fun
  | [d] => { results := [.lit (.bool false)], args := [d] }
  | _ => none }
def FnExactHaltRewritesWrongFalsely : Prop := fnExactHaltRewritesRow.holds Try.pinned (OpenSpec.ofChange fnExactHaltRewritesWrong)

/-- 'laws.FnExactRowOfConfig': WHATEVER THE INPUT: true; the input reads as it did. -/
def fnExactRowOfConfigSpec : ChangeSpec := { name := "fnExactRowOfConfig", fn := fun _ => fun
  | [d1, d2, d3, d4] => { results := [.lit (.bool true)], args := [d1, d2, d3, d4] }
  | _ => none }
def fnExactRowOfConfigRow : OpenClaim := { program := "ytfklpjdenigohaa", sum := "7635a28305f8ac54b7628d60f377b0c7ee04de90b26a066df06bee04e1f3c491", func := "loop.example/g01079/laws.FnExactRowOfConfig", spec := "fnExactRowOfConfig", unfollowed := true, recurses := true, apart := false }
def FnExactRowOfConfigSaid : Prop := fnExactRowOfConfigRow.holds Try.pinned (OpenSpec.ofChange fnExactRowOfConfigSpec)

/-- ITS FALSE NEIGHBOUR: 'it returns false'. Refute it at one input. -/
def fnExactRowOfConfigWrong : ChangeSpec := { name := "fnExactRowOfConfig", fn := fun _ => fun
  | [d1, d2, d3, d4] => { results := [.lit (.bool false)], args := [d1, d2, d3, d4] }
  | _ => none }
def FnExactRowOfConfigWrongFalsely : Prop := fnExactRowOfConfigRow.holds Try.pinned (OpenSpec.ofChange fnExactRowOfConfigWrong)

/-- 'laws.FnExactModifiedMatch': WHATEVER THE INPUT: true; the input reads as it did. -/
def fnExactModifiedMatchSpec : ChangeSpec := { name := "fnExactModifiedMatch", fn := fun _ => fun
  | [d1, d2] => { results := [.lit (.bool true)], args := [d1, d2] }
  | _ => none }
def fnExactModifiedMatchRow : OpenClaim := { program := "ytfklpjdenigohaa", sum := "7635a28305f8ac54b7628d60f377b0c7ee04de90b26a066df06bee04e1f3c491", func := "loop.example/g01079/laws.FnExactModifiedMatch", spec := "fnExactModifiedMatch", unfollowed := true, recurses := true, apart := false }
def FnExactModifiedMatchSaid : Prop := fnExactModifiedMatchRow.holds Try.pinned (OpenSpec.ofChange fnExactModifiedMatchSpec)

/-- ITS FALSE NEIGHBOUR: 'it returns false'. Refute it at one input. -/
def fnExactModifiedMatchWrong : ChangeSpec := { name := "fnExactModifiedMatch", fn := fun _ => fun
  | [d1, d2] => { results := [.lit (.bool false)], args := [d1, d2] }
  | _ => none }
def FnExactModifiedMatchWrongFalsely : Prop := fnExactModifiedMatchRow.holds Try.pinned (OpenSpec.ofChange fnExactModifiedMatchWrong)

/-- 'laws.FnExactPlainMatch': WHATEVER THE INPUT: true; the input reads as it did. -/
def fnExactPlainMatchSpec : ChangeSpec := { name := "fnExactPlainMatch", fn := fun _ => fun
  | [d1, d2] => { results := [.lit (.bool true)], args := [d1, d2] }
  | _ => none }
def fnExactPlainMatchRow : OpenClaim := { program := "ytfklpjdenigohaa", sum := "7635a28305f8ac54b7628d60f377b0c7ee04de90b26a066df06bee04e1f3c491", func := "loop.example/g01079/laws.FnExactPlainMatch", spec := "fnExactPlainMatch", unfollowed := true, recurses := true, apart := false }
def FnExactPlainMatchSaid : Prop := fnExactPlainMatchRow.holds Try.pinned (OpenSpec.ofChange fnExactPlainMatchSpec)

/-- ITS FALSE NEIGHBOUR: 'it returns false'. Refute it at one input. -/
def fnExactPlainMatchWrong : ChangeSpec := { name := "fnExactPlainMatch", fn := fun _ => fun
  | [d1, d2] => { results := [.lit (.bool false)], args := [d1, d2] }
  | _ => none }
def FnExactPlainMatchWrongFalsely : Prop := fnExactPlainMatchRow.holds Try.pinned (OpenSpec.ofChange fnExactPlainMatchWrong)

/-- 'laws.FnExactDerivationOfMatch': WHATEVER THE INPUT: true; the input reads as it did. -/
def fnExactDerivationOfMatchSpec : ChangeSpec := { name := "fnExactDerivationOfMatch", fn := fun _ => fun
  | [d1, d2, d3, d4] => { results := [.lit (.bool true)], args := [d1, d2, d3, d4] }
  | _ => none }
def fnExactDerivationOfMatchRow : OpenClaim := { program := "ytfklpjdenigohaa", sum := "7635a28305f8ac54b7628d60f377b0c7ee04de90b26a066df06bee04e1f3c491", func := "loop.example/g01079/laws.FnExactDerivationOfMatch", spec := "fnExactDerivationOfMatch", unfollowed := true, recurses := true, apart := false }
def FnExactDerivationOfMatchSaid : Prop := fnExactDerivationOfMatchRow.holds Try.pinned (OpenSpec.ofChange fnExactDerivationOfMatchSpec)

/-- ITS FALSE NEIGHBOUR: 'it returns false'. Refute it at one input. -/
def fnExactDerivationOfMatchWrong : ChangeSpec := { name := "fnExactDerivationOfMatch", fn := fun _ => fun
  | [d1, d2, d3, d4] => { results := [.lit (.bool false)], args := [d1, d2, d3, d4] }
  | _ => none }
def FnExactDerivationOfMatchWrongFalsely : Prop := fnExactDerivationOfMatchRow.holds Try.pinned (OpenSpec.ofChange fnExactDerivationOfMatchWrong)

/-- 'laws.FnExactMatchOfDerivation': WHATEVER THE INPUT: true; the input reads as it did. -/
def fnExactMatchOfDerivationSpec : ChangeSpec := { name := "fnExactMatchOfDerivation", fn := fun _ => fun
  | [d1, d2, d3, d4] => { results := [.lit (.bool true)], args := [d1, d2, d3, d4] }
  | _ => none }
def fnExactMatchOfDerivationRow : OpenClaim := { program := "ytfklpjdenigohaa", sum := "7635a28305f8ac54b7628d60f377b0c7ee04de90b26a066df06bee04e1f3c491", func := "loop.example/g01079/laws.FnExactMatchOfDerivation", spec := "fnExactMatchOfDerivation", unfollowed := true, recurses := true, apart := false }
def FnExactMatchOfDerivationSaid : Prop := fnExactMatchOfDerivationRow.holds Try.pinned (OpenSpec.ofChange fnExactMatchOfDerivationSpec)

/-- ITS FALSE NEIGHBOUR: 'it returns false'. Refute it at one input. -/
def fnExactMatchOfDerivationWrong : ChangeSpec := { name := "fnExactMatchOfDerivation", fn := fun _ => fun
  | [d1, d2, d3, d4] => { results := [.lit (.bool false)], args := [d1, d2, d3, d4] }
  | _ => none }
def FnExactMatchOfDerivationWrongFalsely : Prop := fnExactMatchOfDerivationRow.holds Try.pinned (OpenSpec.ofChange fnExactMatchOfDerivationWrong)

/-- 'laws.FnExactRunOfTiling': WHATEVER THE INPUT: true; the input reads as it did. -/
def fnExactRunOfTilingSpec : ChangeSpec := { name := "fnExactRunOfTiling", fn := fun _ => fun
  | [d1, d2, d3] => { results := [.lit (.bool true)], args := [d1, d2, d3] }
  | _ => none }
def fnExactRunOfTilingRow : OpenClaim := { program := "ytfklpjdenigohaa", sum := "7635a28305f8ac54b7628d60f377b0c7ee04de90b26a066df06bee04e1f3c491", func := "loop.example/g01079/laws.FnExactRunOfTiling", spec := "fnExactRunOfTiling", unfollowed := true, recurses := true, apart := false }
def FnExactRunOfTilingSaid : Prop := fnExactRunOfTilingRow.holds Try.pinned (OpenSpec.ofChange fnExactRunOfTilingSpec)

/-- ITS FALSE NEIGHBOUR: 'it returns false'. Refute it at one input. -/
def fnExactRunOfTilingWrong : ChangeSpec := { name := "fnExactRunOfTiling", fn := fun _ => fun
  | [d1, d2, d3] => { results := [.lit (.bool false)], args := [d1, d2, d3] }
  | _ => none }
def FnExactRunOfTilingWrongFalsely : Prop := fnExactRunOfTilingRow.holds Try.pinned (OpenSpec.ofChange fnExactRunOfTilingWrong)

/-- 'laws.FnExactStepsOfDerivation': WHATEVER THE INPUT: true; the input reads as it did. -/
def fnExactStepsOfDerivationSpec : ChangeSpec := { name := "fnExactStepsOfDerivation", fn := fun _ => fun
  | [d1, d2, d3] => { results := [.lit (.bool true)], args := [d1, d2, d3] }
  | _ => none }
def fnExactStepsOfDerivationRow : OpenClaim := { program := "ytfklpjdenigohaa", sum := "7635a28305f8ac54b7628d60f377b0c7ee04de90b26a066df06bee04e1f3c491", func := "loop.example/g01079/laws.FnExactStepsOfDerivation", spec := "fnExactStepsOfDerivation", unfollowed := true, recurses := true, apart := false }
def FnExactStepsOfDerivationSaid : Prop := fnExactStepsOfDerivationRow.holds Try.pinned (OpenSpec.ofChange fnExactStepsOfDerivationSpec)

/-- ITS FALSE NEIGHBOUR: 'it returns false'. Refute it at one input. -/
def fnExactStepsOfDerivationWrong : ChangeSpec := { name := "fnExactStepsOfDerivation", fn := fun _ => fun
  | [d1, d2, d3] => { results := [.lit (.bool false)], args := [d1, d2, d3] }
  | _ => none }
def FnExactStepsOfDerivationWrongFalsely : Prop := fnExactStepsOfDerivationRow.holds Try.pinned (OpenSpec.ofChange fnExactStepsOfDerivationWrong)

/- THE SECOND FORM. 'bulk': how many values and letters a reading holds, each counted each time it is reached (what is shared counts as often as it is met; a slice's spare places count too). A statement '..UptoSaid' is the law's where the arguments, and the package variables that the reading takes, are together of bulk at most 1048576: NARROWER than '..Said'. Prove '..Said' where nothing that the law and all that it calls make is longer than what came in: it says more and counts as full. Else prove '..UptoSaid'. A law counts once. -/
mutual
def uptoBulk {H : Type} : DataW H → Nat
  | .lit (.string bytes) => bytes.length + 1
  | .lit _ => 1
  | .nil => 1
  | .ptr d => uptoBulk d + 1
  | .slice elems spare => uptoBulkAll elems + uptoBulkAll spare + 1
  | .agg parts => uptoBulkAll parts + 1
  | .iface _ d => uptoBulk d + 1
  | .map entries => uptoBulkEntries entries + 1
  | .held _ => 1
def uptoBulkAll {H : Type} : List (DataW H) → Nat
  | [] => 0
  | d :: r => uptoBulk d + uptoBulkAll r
def uptoBulkEntries {H : Type} : List (Lit × DataW H) → Nat
  | [] => 0
  | x :: r => uptoBulkEntry x + uptoBulkEntries r
def uptoBulkEntry {H : Type} : Lit × DataW H → Nat
  | (.string bytes, d) => bytes.length + uptoBulk d + 1
  | (_, d) => uptoBulk d + 1
 end
def uptoSmall : (H : Type) → List (DataW H) → Bool := fun _ ds => decide (uptoBulkAll ds ≤ 1048576)
def OpenSpec.upto (s : _root_.Go.ChangeSpec) : _root_.Go.OpenSpec := { _root_.Go.OpenSpec.ofChange s with cond := some uptoSmall }

/-- 'laws.FnExactMultiplySquares', WHERE WHAT IT READS IS OF BULK AT MOST 1048576: true; the input reads as it did. -/
def fnExactMultiplySquaresUptoRow : OpenClaim := { program := "ytfklpjdenigohaa", sum := "7635a28305f8ac54b7628d60f377b0c7ee04de90b26a066df06bee04e1f3c491", func := "loop.example/g01079/laws.FnExactMultiplySquares", spec := "fnExactMultiplySquares", unfollowed := true, recurses := true, apart := false, narrowed := true }
def FnExactMultiplySquaresUptoSaid : Prop := fnExactMultiplySquaresUptoRow.holds Try.pinned (OpenSpec.upto fnExactMultiplySquaresSpec)

/-- 'laws.FnExactConfigOfRow', WHERE WHAT IT READS IS OF BULK AT MOST 1048576: true; the input reads as it did. -/
def fnExactConfigOfRowUptoRow : OpenClaim := { program := "ytfklpjdenigohaa", sum := "7635a28305f8ac54b7628d60f377b0c7ee04de90b26a066df06bee04e1f3c491", func := "loop.example/g01079/laws.FnExactConfigOfRow", spec := "fnExactConfigOfRow", unfollowed := true, recurses := true, apart := false, narrowed := true }
def FnExactConfigOfRowUptoSaid : Prop := fnExactConfigOfRowUptoRow.holds Try.pinned (OpenSpec.upto fnExactConfigOfRowSpec)

/-- 'laws.FnExactRewritesToDominoes', WHERE WHAT IT READS IS OF BULK AT MOST 1048576: true; the input reads as it did. -/
def fnExactRewritesToDominoesUptoRow : OpenClaim := { program := "ytfklpjdenigohaa", sum := "7635a28305f8ac54b7628d60f377b0c7ee04de90b26a066df06bee04e1f3c491", func := "loop.example/g01079/laws.FnExactRewritesToDominoes", spec := "fnExactRewritesToDominoes", unfollowed := true, recurses := true, apart := false, narrowed := true }
def FnExactRewritesToDominoesUptoSaid : Prop := fnExactRewritesToDominoesUptoRow.holds Try.pinned (OpenSpec.upto fnExactRewritesToDominoesSpec)

/-- 'laws.FnExactHaltWords', WHERE WHAT IT READS IS OF BULK AT MOST 1048576: true; the input reads as it did. -/
def fnExactHaltWordsUptoRow : OpenClaim := { program := "ytfklpjdenigohaa", sum := "7635a28305f8ac54b7628d60f377b0c7ee04de90b26a066df06bee04e1f3c491", func := "loop.example/g01079/laws.FnExactHaltWords", spec := "fnExactHaltWords", unfollowed := true, recurses := true, apart := false, narrowed := true }
def FnExactHaltWordsUptoSaid : Prop := fnExactHaltWordsUptoRow.holds Try.pinned (OpenSpec.upto fnExactHaltWordsSpec)

/-- 'laws.FnExactHaltRewrites', WHERE WHAT IT READS IS OF BULK AT MOST 1048576: true; the input reads as it did. -/
def fnExactHaltRewritesUptoRow : OpenClaim := { program := "ytfklpjdenigohaa", sum := "7635a28305f8ac54b7628d60f377b0c7ee04de90b26a066df06bee04e1f3c491", func := "loop.example/g01079/laws.FnExactHaltRewrites", spec := "fnExactHaltRewrites", unfollowed := true, recurses := true, apart := false, narrowed := true }
def FnExactHaltRewritesUptoSaid : Prop := fnExactHaltRewritesUptoRow.holds Try.pinned (OpenSpec.upto fnExactHaltRewritesSpec)

/-- 'laws.FnExactRowOfConfig', WHERE WHAT IT READS IS OF BULK AT MOST 1048576: true; the input reads as it did. -/
def fnExactRowOfConfigUptoRow : OpenClaim := { program := "ytfklpjdenigohaa", sum := "7635a28305f8ac54b7628d60f377b0c7ee04de90b26a066df06bee04e1f3c491", func := "loop.example/g01079/laws.FnExactRowOfConfig", spec := "fnExactRowOfConfig", unfollowed := true, recurses := true, apart := false, narrowed := true }
def FnExactRowOfConfigUptoSaid : Prop := fnExactRowOfConfigUptoRow.holds Try.pinned (OpenSpec.upto fnExactRowOfConfigSpec)

/-- 'laws.FnExactModifiedMatch', WHERE WHAT IT READS IS OF BULK AT MOST 1048576: true; the input reads as it did. -/
def fnExactModifiedMatchUptoRow : OpenClaim := { program := "ytfklpjdenigohaa", sum := "7635a28305f8ac54b7628d60f377b0c7ee04de90b26a066df06bee04e1f3c491", func := "loop.example/g01079/laws.FnExactModifiedMatch", spec := "fnExactModifiedMatch", unfollowed := true, recurses := true, apart := false, narrowed := true }
def FnExactModifiedMatchUptoSaid : Prop := fnExactModifiedMatchUptoRow.holds Try.pinned (OpenSpec.upto fnExactModifiedMatchSpec)

/-- 'laws.FnExactPlainMatch', WHERE WHAT IT READS IS OF BULK AT MOST 1048576: true; the input reads as it did. -/
def fnExactPlainMatchUptoRow : OpenClaim := { program := "ytfklpjdenigohaa", sum := "7635a28305f8ac54b7628d60f377b0c7ee04de90b26a066df06bee04e1f3c491", func := "loop.example/g01079/laws.FnExactPlainMatch", spec := "fnExactPlainMatch", unfollowed := true, recurses := true, apart := false, narrowed := true }
def FnExactPlainMatchUptoSaid : Prop := fnExactPlainMatchUptoRow.holds Try.pinned (OpenSpec.upto fnExactPlainMatchSpec)

/-- 'laws.FnExactDerivationOfMatch', WHERE WHAT IT READS IS OF BULK AT MOST 1048576: true; the input reads as it did. -/
def fnExactDerivationOfMatchUptoRow : OpenClaim := { program := "ytfklpjdenigohaa", sum := "7635a28305f8ac54b7628d60f377b0c7ee04de90b26a066df06bee04e1f3c491", func := "loop.example/g01079/laws.FnExactDerivationOfMatch", spec := "fnExactDerivationOfMatch", unfollowed := true, recurses := true, apart := false, narrowed := true }
def FnExactDerivationOfMatchUptoSaid : Prop := fnExactDerivationOfMatchUptoRow.holds Try.pinned (OpenSpec.upto fnExactDerivationOfMatchSpec)

/-- 'laws.FnExactMatchOfDerivation', WHERE WHAT IT READS IS OF BULK AT MOST 1048576: true; the input reads as it did. -/
def fnExactMatchOfDerivationUptoRow : OpenClaim := { program := "ytfklpjdenigohaa", sum := "7635a28305f8ac54b7628d60f377b0c7ee04de90b26a066df06bee04e1f3c491", func := "loop.example/g01079/laws.FnExactMatchOfDerivation", spec := "fnExactMatchOfDerivation", unfollowed := true, recurses := true, apart := false, narrowed := true }
def FnExactMatchOfDerivationUptoSaid : Prop := fnExactMatchOfDerivationUptoRow.holds Try.pinned (OpenSpec.upto fnExactMatchOfDerivationSpec)

/-- 'laws.FnExactRunOfTiling', WHERE WHAT IT READS IS OF BULK AT MOST 1048576: true; the input reads as it did. -/
def fnExactRunOfTilingUptoRow : OpenClaim := { program := "ytfklpjdenigohaa", sum := "7635a28305f8ac54b7628d60f377b0c7ee04de90b26a066df06bee04e1f3c491", func := "loop.example/g01079/laws.FnExactRunOfTiling", spec := "fnExactRunOfTiling", unfollowed := true, recurses := true, apart := false, narrowed := true }
def FnExactRunOfTilingUptoSaid : Prop := fnExactRunOfTilingUptoRow.holds Try.pinned (OpenSpec.upto fnExactRunOfTilingSpec)

/-- 'laws.FnExactStepsOfDerivation', WHERE WHAT IT READS IS OF BULK AT MOST 1048576: true; the input reads as it did. -/
def fnExactStepsOfDerivationUptoRow : OpenClaim := { program := "ytfklpjdenigohaa", sum := "7635a28305f8ac54b7628d60f377b0c7ee04de90b26a066df06bee04e1f3c491", func := "loop.example/g01079/laws.FnExactStepsOfDerivation", spec := "fnExactStepsOfDerivation", unfollowed := true, recurses := true, apart := false, narrowed := true }
def FnExactStepsOfDerivationUptoSaid : Prop := fnExactStepsOfDerivationUptoRow.holds Try.pinned (OpenSpec.upto fnExactStepsOfDerivationSpec)

end Rows
end Go.Proofs.Ytfklpjdenigohaa
