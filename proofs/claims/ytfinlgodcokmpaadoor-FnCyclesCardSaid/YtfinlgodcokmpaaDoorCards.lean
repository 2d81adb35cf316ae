/-
  DERIVED. GIVEN WITH THE SEED: THE CARDS: each row of YtfinlgodcokmpaaDoorRows.lean that lists a variable, with what it lists TIED to the program's text (the seventh form; the later family's looks); each row that meets fmt, with fmt's text TOLD by the authors' own Lean function (tested against real Go, not proved from fmt's source: count such statements apart). THE CARD IS WHAT COUNTS. Prove the row's statement (the work); the ties are given (YtfinlgodcokmpaaDoorTie.lean); close each card by the builder's one call (the guide's Derived/Test/ToyasCard.lean, 'card_holds'). Laid BY PROGRAM, IN A SANDBOX (cutbox-door.mjs). By AI agents, Wed Nov 11 2026. No macro, syntax, notation, axiom, sorry.
-/
import Derived.Test.YtfinlgodcokmpaaDoorRows
import GoSem.ClaimSeven
namespace Go.Proofs.YtfinlgodcokmpaaDoor
namespace Rows

/-- THE TIED CARD OF 'laws.FnCycles'. -/
def fnCyclesCard : Claim7 := { stood := { row := fnCyclesRow, standIns := [], harness := (true, "92db26d6faff87dc38461eacc260718d98ae9c214a611a56f4557d736cf499af"), looks := false }, kinds := [], alts := [], laidByText := true, laidKinds := [.data, .data, .data], laidTests := true, laidLooks := .later }
def FnCyclesCardSaid : Prop := Claim7.holds Tryd.pinned (.plain (OpenSpec.ofChange fnCyclesSpec)) fnCyclesCard

/-- THE SECOND FORM's CARD OF 'laws.FnCycles'. -/
def fnCyclesUptoCard : Claim7 := { stood := { row := fnCyclesUptoRow, standIns := [], harness := (true, "92db26d6faff87dc38461eacc260718d98ae9c214a611a56f4557d736cf499af"), looks := false }, kinds := [], alts := [], laidByText := true, laidKinds := [.data, .data, .data], laidTests := true, laidLooks := .later }
def FnCyclesUptoCardSaid : Prop := Claim7.holds Tryd.pinned (.plain (OpenSpec.upto fnCyclesSpec)) fnCyclesUptoCard
end Rows
end Go.Proofs.YtfinlgodcokmpaaDoor
