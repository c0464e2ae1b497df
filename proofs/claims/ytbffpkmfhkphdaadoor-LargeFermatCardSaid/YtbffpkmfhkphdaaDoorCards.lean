/-
  DERIVED. GIVEN WITH THE SEED: THE CARDS: each row of YtbffpkmfhkphdaaDoorRows.lean that lists a variable, with what it lists TIED to the program's text (the seventh form; the later family's looks); each row that meets fmt, with fmt's text TOLD by the authors' own Lean function (tested against real Go, not proved from fmt's source: count such statements apart). THE CARD IS WHAT COUNTS. Prove the row's statement (the work); the ties are given (YtbffpkmfhkphdaaDoorTie.lean); close each card by the builder's one call (the guide's Derived/Test/ToyasCard.lean, 'card_holds'). Laid BY PROGRAM, IN A SANDBOX (cutbox-door.mjs). By AI agents, Wed Nov 11 2026. No macro, syntax, notation, axiom, sorry.
-/
import Derived.Test.YtbffpkmfhkphdaaDoorRows
import GoSem.ClaimSeven
namespace Go.Proofs.YtbffpkmfhkphdaaDoor
namespace Rows

/-- THE TIED CARD OF 'effigylaw09.LargeParts'. -/
def largePartsCard : Claim7 := { stood := { row := largePartsRow, standIns := [], harness := (true, "8a9d4224d9fe1eb6f105faecbd68db6a2bb1385fb3f46bdf2a94f08858b8a879"), looks := false }, kinds := [], alts := [], laidByText := true, laidKinds := [.data, .pinned, .pinned], laidTests := true, laidLooks := .later }
def LargePartsCardSaid : Prop := Claim7.holds Tryd.pinned (.plain (OpenSpec.ofChange largePartsSpec)) largePartsCard

/-- THE TIED CARD OF 'effigylaw09.LargeSums'. -/
def largeSumsCard : Claim7 := { stood := { row := largeSumsRow, standIns := [], harness := (true, "8a9d4224d9fe1eb6f105faecbd68db6a2bb1385fb3f46bdf2a94f08858b8a879"), looks := false }, kinds := [], alts := [], laidByText := true, laidKinds := [.data, .pinned, .pinned], laidTests := true, laidLooks := .later }
def LargeSumsCardSaid : Prop := Claim7.holds Tryd.pinned (.plain (OpenSpec.ofChange largeSumsSpec)) largeSumsCard

/-- THE TIED CARD OF 'effigylaw09.LargeRing'. -/
def largeRingCard : Claim7 := { stood := { row := largeRingRow, standIns := [], harness := (true, "8a9d4224d9fe1eb6f105faecbd68db6a2bb1385fb3f46bdf2a94f08858b8a879"), looks := false }, kinds := [], alts := [], laidByText := true, laidKinds := [.data, .pinned, .pinned], laidTests := true, laidLooks := .later }
def LargeRingCardSaid : Prop := Claim7.holds Tryd.pinned (.plain (OpenSpec.ofChange largeRingSpec)) largeRingCard

/-- THE TIED CARD OF 'effigylaw09.LargeFermat'. -/
def largeFermatCard : Claim7 := { stood := { row := largeFermatRow, standIns := [], harness := (true, "8a9d4224d9fe1eb6f105faecbd68db6a2bb1385fb3f46bdf2a94f08858b8a879"), looks := false }, kinds := [], alts := [], laidByText := true, laidKinds := [.data, .pinned, .pinned], laidTests := true, laidLooks := .later }
def LargeFermatCardSaid : Prop := Claim7.holds Tryd.pinned (.plain (OpenSpec.ofChange largeFermatSpec)) largeFermatCard

/-- THE SECOND FORM's CARD OF 'effigylaw09.LargeParts'. -/
def largePartsUptoCard : Claim7 := { stood := { row := largePartsUptoRow, standIns := [], harness := (true, "8a9d4224d9fe1eb6f105faecbd68db6a2bb1385fb3f46bdf2a94f08858b8a879"), looks := false }, kinds := [], alts := [], laidByText := true, laidKinds := [.data, .pinned, .pinned], laidTests := true, laidLooks := .later }
def LargePartsUptoCardSaid : Prop := Claim7.holds Tryd.pinned (.plain (OpenSpec.upto largePartsSpec)) largePartsUptoCard

/-- THE SECOND FORM's CARD OF 'effigylaw09.LargeSums'. -/
def largeSumsUptoCard : Claim7 := { stood := { row := largeSumsUptoRow, standIns := [], harness := (true, "8a9d4224d9fe1eb6f105faecbd68db6a2bb1385fb3f46bdf2a94f08858b8a879"), looks := false }, kinds := [], alts := [], laidByText := true, laidKinds := [.data, .pinned, .pinned], laidTests := true, laidLooks := .later }
def LargeSumsUptoCardSaid : Prop := Claim7.holds Tryd.pinned (.plain (OpenSpec.upto largeSumsSpec)) largeSumsUptoCard

/-- THE SECOND FORM's CARD OF 'effigylaw09.LargeRing'. -/
def largeRingUptoCard : Claim7 := { stood := { row := largeRingUptoRow, standIns := [], harness := (true, "8a9d4224d9fe1eb6f105faecbd68db6a2bb1385fb3f46bdf2a94f08858b8a879"), looks := false }, kinds := [], alts := [], laidByText := true, laidKinds := [.data, .pinned, .pinned], laidTests := true, laidLooks := .later }
def LargeRingUptoCardSaid : Prop := Claim7.holds Tryd.pinned (.plain (OpenSpec.upto largeRingSpec)) largeRingUptoCard

/-- THE SECOND FORM's CARD OF 'effigylaw09.LargeFermat'. -/
def largeFermatUptoCard : Claim7 := { stood := { row := largeFermatUptoRow, standIns := [], harness := (true, "8a9d4224d9fe1eb6f105faecbd68db6a2bb1385fb3f46bdf2a94f08858b8a879"), looks := false }, kinds := [], alts := [], laidByText := true, laidKinds := [.data, .pinned, .pinned], laidTests := true, laidLooks := .later }
def LargeFermatUptoCardSaid : Prop := Claim7.holds Tryd.pinned (.plain (OpenSpec.upto largeFermatSpec)) largeFermatUptoCard
end Rows
end Go.Proofs.YtbffpkmfhkphdaaDoor
