/-
  DERIVED. GIVEN WITH THE SEED: THE CARDS: each row of YtapnabgdcndleaaGreatDoorRows.lean that lists a variable, with what it lists TIED to the program's text (the seventh form; the later family's looks); each row that meets fmt, with fmt's text TOLD by the authors' own Lean function (tested against real Go, not proved from fmt's source: count such statements apart). THE CARD IS WHAT COUNTS. Prove the row's statement (the work); the ties are given (YtapnabgdcndleaaGreatDoorTie.lean); close each card by the builder's one call (the guide's Derived/Test/ToyasCard.lean, 'card_holds'). Laid BY PROGRAM, IN A SANDBOX (cutbox-door.mjs). By AI agents, Wed Nov 11 2026. No macro, syntax, notation, axiom, sorry.
-/
import Derived.Test.YtapnabgdcndleaaGreatDoorRows
import GoSem.ClaimSeven
namespace Go.Proofs.YtapnabgdcndleaaGreatDoor
namespace Rows

/-- THE TIED CARD OF 'laws.FnAgreement'. -/
def fnAgreementCard : Claim7 := { stood := { row := fnAgreementRow, standIns := [], harness := (true, "fad4c4ae4fa2c0728801922f9093a37e7c4ffc354e281f758e61b56b063a6bcd"), looks := true }, kinds := [], alts := [], laidByText := true, laidKinds := [.data, .data, .data, .data, .sentinel, .sentinel, .pinned], laidTests := true, laidLooks := .later }
def FnAgreementCardSaid : Prop := Claim7.holds Tryz.pinned (.plain (OpenSpec.ofChange fnAgreementSpec)) fnAgreementCard

/-- THE SECOND FORM's CARD OF 'laws.FnAgreement'. -/
def fnAgreementUptoCard : Claim7 := { stood := { row := fnAgreementUptoRow, standIns := [], harness := (true, "fad4c4ae4fa2c0728801922f9093a37e7c4ffc354e281f758e61b56b063a6bcd"), looks := true }, kinds := [], alts := [], laidByText := true, laidKinds := [.data, .data, .data, .data, .sentinel, .sentinel, .pinned], laidTests := true, laidLooks := .later }
def FnAgreementUptoCardSaid : Prop := Claim7.holds Tryz.pinned (.plain (OpenSpec.upto fnAgreementSpec)) fnAgreementUptoCard
end Rows
end Go.Proofs.YtapnabgdcndleaaGreatDoor
