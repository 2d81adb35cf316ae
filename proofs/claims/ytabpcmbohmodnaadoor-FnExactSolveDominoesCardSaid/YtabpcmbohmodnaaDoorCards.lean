/-
  DERIVED. GIVEN WITH THE SEED: THE CARDS: each row of YtabpcmbohmodnaaDoorRows.lean that lists a variable, with what it lists TIED to the program's text (the seventh form; the later family's looks); each row that meets fmt, with fmt's text TOLD by the authors' own Lean function (tested against real Go, not proved from fmt's source: count such statements apart). THE CARD IS WHAT COUNTS. Prove the row's statement (the work); the ties are given (YtabpcmbohmodnaaDoorTie.lean); close each card by the builder's one call (the guide's Derived/Test/ToyasCard.lean, 'card_holds'). Laid BY PROGRAM, IN A SANDBOX (cutbox-door.mjs). By AI agents, Wed Nov 11 2026. No macro, syntax, notation, axiom, sorry.
-/
import Derived.Test.YtabpcmbohmodnaaDoorRows
import GoSem.ClaimSeven
namespace Go.Proofs.YtabpcmbohmodnaaDoor
namespace Rows

/-- THE TIED CARD OF 'laws.FnExactSolveDominoes'. -/
def fnExactSolveDominoesCard : Claim7 := { stood := { row := fnExactSolveDominoesRow, standIns := [], harness := (true, "c3ff16c3d0b4a5e17728c5e4522ba3dc9b77f5808a0e7e81de39abd13f53b940"), looks := true }, kinds := [], alts := [], laidByText := true, laidKinds := [.sentinel, .sentinel], laidTests := true, laidLooks := .later }
def FnExactSolveDominoesCardSaid : Prop := Claim7.holds Tryd.pinned (.plain (OpenSpec.ofChange fnExactSolveDominoesSpec)) fnExactSolveDominoesCard

/-- THE SECOND FORM's CARD OF 'laws.FnExactSolveDominoes'. -/
def fnExactSolveDominoesUptoCard : Claim7 := { stood := { row := fnExactSolveDominoesUptoRow, standIns := [], harness := (true, "c3ff16c3d0b4a5e17728c5e4522ba3dc9b77f5808a0e7e81de39abd13f53b940"), looks := true }, kinds := [], alts := [], laidByText := true, laidKinds := [.sentinel, .sentinel], laidTests := true, laidLooks := .later }
def FnExactSolveDominoesUptoCardSaid : Prop := Claim7.holds Tryd.pinned (.plain (OpenSpec.upto fnExactSolveDominoesSpec)) fnExactSolveDominoesUptoCard
end Rows
end Go.Proofs.YtabpcmbohmodnaaDoor
