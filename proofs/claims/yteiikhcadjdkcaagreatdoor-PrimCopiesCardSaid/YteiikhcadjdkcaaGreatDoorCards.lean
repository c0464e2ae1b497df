/-
  DERIVED. GIVEN WITH THE SEED: THE CARDS: each row of YteiikhcadjdkcaaGreatDoorRows.lean that lists a variable, with what it lists TIED to the program's text (the seventh form; the later family's looks); each row that meets fmt, with fmt's text TOLD by the authors' own Lean function (tested against real Go, not proved from fmt's source: count such statements apart). THE CARD IS WHAT COUNTS. Prove the row's statement (the work); the ties are given (YteiikhcadjdkcaaGreatDoorTie.lean); close each card by the builder's one call (the guide's Derived/Test/ToyasCard.lean, 'card_holds'). Laid BY PROGRAM, IN A SANDBOX (cutbox-door.mjs). By AI agents, Wed Nov 11 2026. No macro, syntax, notation, axiom, sorry.
-/
import Derived.Test.YteiikhcadjdkcaaGreatDoorRows
import GoSem.ClaimSeven
namespace Go.Proofs.YteiikhcadjdkcaaGreatDoor
namespace Rows

/-- THE TIED CARD OF 'effigylaw08.PrimCopies'. -/
def primCopiesCard : Claim7 := { stood := { row := primCopiesRow, standIns := [], harness := (true, "cd0872f0433b78f41fdd4bf3fcdfd5d5c2ac9ca9f6c7073cedac854c2aaa1fc1"), looks := true }, kinds := [], alts := [], laidByText := true, laidKinds := [.data, .data, .data, .data, .sentinel, .sentinel, .data, .pinned], laidTests := true, laidLooks := .later }
def PrimCopiesCardSaid : Prop := Claim7.holds Tryz.pinned (.plain (OpenSpec.ofChange primCopiesSpec)) primCopiesCard

/-- THE SECOND FORM's CARD OF 'effigylaw08.PrimCopies'. -/
def primCopiesUptoCard : Claim7 := { stood := { row := primCopiesUptoRow, standIns := [], harness := (true, "cd0872f0433b78f41fdd4bf3fcdfd5d5c2ac9ca9f6c7073cedac854c2aaa1fc1"), looks := true }, kinds := [], alts := [], laidByText := true, laidKinds := [.data, .data, .data, .data, .sentinel, .sentinel, .data, .pinned], laidTests := true, laidLooks := .later }
def PrimCopiesUptoCardSaid : Prop := Claim7.holds Tryz.pinned (.plain (OpenSpec.upto primCopiesSpec)) primCopiesUptoCard
end Rows
end Go.Proofs.YteiikhcadjdkcaaGreatDoor
