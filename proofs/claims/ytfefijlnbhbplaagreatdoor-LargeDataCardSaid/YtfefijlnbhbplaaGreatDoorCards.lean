/-
  DERIVED. GIVEN WITH THE SEED: THE CARDS: each row of YtfefijlnbhbplaaGreatDoorRows.lean that lists a variable, with what it lists TIED to the program's text (the seventh form; the later family's looks); each row that meets fmt, with fmt's text TOLD by the authors' own Lean function (tested against real Go, not proved from fmt's source: count such statements apart). THE CARD IS WHAT COUNTS. Prove the row's statement (the work); the ties are given (YtfefijlnbhbplaaGreatDoorTie.lean); close each card by the builder's one call (the guide's Derived/Test/ToyasCard.lean, 'card_holds'). Laid BY PROGRAM, IN A SANDBOX (cutbox-door.mjs). By AI agents, Wed Nov 11 2026. No macro, syntax, notation, axiom, sorry.
-/
import Derived.Test.YtfefijlnbhbplaaGreatDoorRows
import GoSem.ClaimSeven
namespace Go.Proofs.YtfefijlnbhbplaaGreatDoor
namespace Rows

/-- THE TIED CARD OF 'effigylaw09.LargeData'. -/
def largeDataCard : Claim7 := { stood := { row := largeDataRow, standIns := [], harness := (true, "fdccc74989986c30dd53fb5701a122e9a19dc1f5cd7537e908358413bd520d5f"), looks := false }, kinds := [], alts := [], laidByText := true, laidKinds := [.data, .data, .pinned, .pinned], laidTests := true, laidLooks := .later }
def LargeDataCardSaid : Prop := Claim7.holds Tryz.pinned (.plain (OpenSpec.ofChange largeDataSpec)) largeDataCard

/-- THE SECOND FORM's CARD OF 'effigylaw09.LargeData'. -/
def largeDataUptoCard : Claim7 := { stood := { row := largeDataUptoRow, standIns := [], harness := (true, "fdccc74989986c30dd53fb5701a122e9a19dc1f5cd7537e908358413bd520d5f"), looks := false }, kinds := [], alts := [], laidByText := true, laidKinds := [.data, .data, .pinned, .pinned], laidTests := true, laidLooks := .later }
def LargeDataUptoCardSaid : Prop := Claim7.holds Tryz.pinned (.plain (OpenSpec.upto largeDataSpec)) largeDataUptoCard
end Rows
end Go.Proofs.YtfefijlnbhbplaaGreatDoor
