/-
  DERIVED. GIVEN WITH THE SEED: THE CARDS: each row of YtnpkepfmicgelaaDoorRows.lean that lists a variable, with what it lists TIED to the program's text (the seventh form; the later family's looks); each row that meets fmt, with fmt's text TOLD by the authors' own Lean function (tested against real Go, not proved from fmt's source: count such statements apart). THE CARD IS WHAT COUNTS. Prove the row's statement (the work); the ties are given (YtnpkepfmicgelaaDoorTie.lean); close each card by the builder's one call (the guide's Derived/Test/ToyasCard.lean, 'card_holds'). Laid BY PROGRAM, IN A SANDBOX (cutbox-door.mjs). By AI agents, Wed Nov 11 2026. No macro, syntax, notation, axiom, sorry.
-/
import Derived.Test.YtnpkepfmicgelaaDoorRows
import GoSem.ClaimSeven
namespace Go.Proofs.YtnpkepfmicgelaaDoor
namespace Rows

/-- THE TIED CARD OF 'laws.FnExactTilesText'. -/
def fnExactTilesTextCard : Claim7 := { stood := { row := fnExactTilesTextRow, standIns := [], harness := (true, "14ff623d6de23f21fafe20b2efb482532228627d1f61b5357cac68641a5fde22"), looks := true }, kinds := [], alts := [], laidByText := true, laidKinds := [.data, .data, .data], laidTests := true, laidLooks := .later }
def FnExactTilesTextCardSaid : Prop := Claim7.holds Tryd.pinned (.plain (OpenSpec.ofChange fnExactTilesTextSpec)) fnExactTilesTextCard

/-- THE TIED CARD OF 'laws.FnExactReadDominoes'. -/
def fnExactReadDominoesCard : Claim7 := { stood := { row := fnExactReadDominoesRow, standIns := [], harness := (true, "14ff623d6de23f21fafe20b2efb482532228627d1f61b5357cac68641a5fde22"), looks := true }, kinds := [], alts := [], laidByText := true, laidKinds := [.data, .pinned], laidTests := true, laidLooks := .later }
def FnExactReadDominoesCardSaid : Prop := Claim7.holds Tryd.pinned (.plain (OpenSpec.ofChange fnExactReadDominoesSpec)) fnExactReadDominoesCard

/-- THE TIED CARD OF 'laws.FnExactReadTiles'. -/
def fnExactReadTilesCard : Claim7 := { stood := { row := fnExactReadTilesRow, standIns := [], harness := (true, "14ff623d6de23f21fafe20b2efb482532228627d1f61b5357cac68641a5fde22"), looks := true }, kinds := [], alts := [], laidByText := true, laidKinds := [.data, .data, .data, .data, .sentinel, .sentinel, .pinned], laidTests := true, laidLooks := .later }
def FnExactReadTilesCardSaid : Prop := Claim7.holds Tryd.pinned (.plain (OpenSpec.ofChange fnExactReadTilesSpec)) fnExactReadTilesCard

/-- THE SECOND FORM's CARD OF 'laws.FnExactTilesText'. -/
def fnExactTilesTextUptoCard : Claim7 := { stood := { row := fnExactTilesTextUptoRow, standIns := [], harness := (true, "14ff623d6de23f21fafe20b2efb482532228627d1f61b5357cac68641a5fde22"), looks := true }, kinds := [], alts := [], laidByText := true, laidKinds := [.data, .data, .data], laidTests := true, laidLooks := .later }
def FnExactTilesTextUptoCardSaid : Prop := Claim7.holds Tryd.pinned (.plain (OpenSpec.upto fnExactTilesTextSpec)) fnExactTilesTextUptoCard

/-- THE SECOND FORM's CARD OF 'laws.FnExactReadDominoes'. -/
def fnExactReadDominoesUptoCard : Claim7 := { stood := { row := fnExactReadDominoesUptoRow, standIns := [], harness := (true, "14ff623d6de23f21fafe20b2efb482532228627d1f61b5357cac68641a5fde22"), looks := true }, kinds := [], alts := [], laidByText := true, laidKinds := [.data, .pinned], laidTests := true, laidLooks := .later }
def FnExactReadDominoesUptoCardSaid : Prop := Claim7.holds Tryd.pinned (.plain (OpenSpec.upto fnExactReadDominoesSpec)) fnExactReadDominoesUptoCard

/-- THE SECOND FORM's CARD OF 'laws.FnExactReadTiles'. -/
def fnExactReadTilesUptoCard : Claim7 := { stood := { row := fnExactReadTilesUptoRow, standIns := [], harness := (true, "14ff623d6de23f21fafe20b2efb482532228627d1f61b5357cac68641a5fde22"), looks := true }, kinds := [], alts := [], laidByText := true, laidKinds := [.data, .data, .data, .data, .sentinel, .sentinel, .pinned], laidTests := true, laidLooks := .later }
def FnExactReadTilesUptoCardSaid : Prop := Claim7.holds Tryd.pinned (.plain (OpenSpec.upto fnExactReadTilesSpec)) fnExactReadTilesUptoCard
end Rows
end Go.Proofs.YtnpkepfmicgelaaDoor
