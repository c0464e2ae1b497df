/-
  DERIVED. GIVEN WITH THE SEED: THE CARDS: each row of YtllabdmmfohbaaaGreatDoorRows.lean that lists a variable, with what it lists TIED to the program's text (the seventh form; the later family's looks); each row that meets fmt, with fmt's text TOLD by the authors' own Lean function (tested against real Go, not proved from fmt's source: count such statements apart). THE CARD IS WHAT COUNTS. Prove the row's statement (the work); the ties are given (YtllabdmmfohbaaaGreatDoorTie.lean); close each card by the builder's one call (the guide's Derived/Test/ToyasCard.lean, 'card_holds'). Laid BY PROGRAM, IN A SANDBOX (cutbox-door.mjs). By AI agents, Wed Nov 11 2026. No macro, syntax, notation, axiom, sorry.
-/
import Derived.Test.YtllabdmmfohbaaaGreatDoorRows
import GoSem.ClaimSeven
namespace Go.Proofs.YtllabdmmfohbaaaGreatDoor
namespace Rows

/-- THE TIED CARD OF 'effigylaw08.PrimNumbers'. -/
def primNumbersCard : Claim7 := { stood := { row := primNumbersRow, standIns := [], harness := (true, "d42fe8f9f8a9e8ab507dc01b639e7dd93233dfef634b54392d7f33eae4433063"), looks := true }, kinds := [], alts := [], laidByText := true, laidKinds := [.data, .data, .data, .data, .sentinel, .sentinel, .data, .pinned], laidTests := true, laidLooks := .later }
def PrimNumbersCardSaid : Prop := Claim7.holds Tryz.pinned (.plain (OpenSpec.ofChange primNumbersSpec)) primNumbersCard

/-- THE SECOND FORM's CARD OF 'effigylaw08.PrimNumbers'. -/
def primNumbersUptoCard : Claim7 := { stood := { row := primNumbersUptoRow, standIns := [], harness := (true, "d42fe8f9f8a9e8ab507dc01b639e7dd93233dfef634b54392d7f33eae4433063"), looks := true }, kinds := [], alts := [], laidByText := true, laidKinds := [.data, .data, .data, .data, .sentinel, .sentinel, .data, .pinned], laidTests := true, laidLooks := .later }
def PrimNumbersUptoCardSaid : Prop := Claim7.holds Tryz.pinned (.plain (OpenSpec.upto primNumbersSpec)) primNumbersUptoCard
end Rows
end Go.Proofs.YtllabdmmfohbaaaGreatDoor
