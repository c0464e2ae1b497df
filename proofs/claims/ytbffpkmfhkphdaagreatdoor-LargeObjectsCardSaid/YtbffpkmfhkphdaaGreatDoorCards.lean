/-
  DERIVED. GIVEN WITH THE SEED: THE CARDS: each row of YtbffpkmfhkphdaaGreatDoorRows.lean that lists a variable, with what it lists TIED to the program's text (the seventh form; the later family's looks); each row that meets fmt, with fmt's text TOLD by the authors' own Lean function (tested against real Go, not proved from fmt's source: count such statements apart). THE CARD IS WHAT COUNTS. Prove the row's statement (the work); the ties are given (YtbffpkmfhkphdaaGreatDoorTie.lean); close each card by the builder's one call (the guide's Derived/Test/ToyasCard.lean, 'card_holds'). Laid BY PROGRAM, IN A SANDBOX (cutbox-door.mjs). By AI agents, Wed Nov 11 2026. No macro, syntax, notation, axiom, sorry.
-/
import Derived.Test.YtbffpkmfhkphdaaGreatDoorRows
import GoSem.ClaimSeven
namespace Go.Proofs.YtbffpkmfhkphdaaGreatDoor
namespace Rows

/-- THE TIED CARD OF 'effigylaw09.LargeBits'. -/
def largeBitsCard : Claim7 := { stood := { row := largeBitsRow, standIns := [], harness := (true, "d75658f3a05a51a8c0f72b62056c445a3057e168c80e68b18251ceeb1a027bed"), looks := false }, kinds := [], alts := [], laidByText := true, laidKinds := [.data, .pinned, .pinned], laidTests := true, laidLooks := .later }
def LargeBitsCardSaid : Prop := Claim7.holds Tryz.pinned (.plain (OpenSpec.ofChange largeBitsSpec)) largeBitsCard

/-- THE TIED CARD OF 'effigylaw09.LargePowers'. -/
def largePowersCard : Claim7 := { stood := { row := largePowersRow, standIns := [], harness := (true, "d75658f3a05a51a8c0f72b62056c445a3057e168c80e68b18251ceeb1a027bed"), looks := false }, kinds := [], alts := [], laidByText := true, laidKinds := [.data, .pinned, .pinned], laidTests := true, laidLooks := .later }
def LargePowersCardSaid : Prop := Claim7.holds Tryz.pinned (.plain (OpenSpec.ofChange largePowersSpec)) largePowersCard

/-- THE TIED CARD OF 'effigylaw09.LargeTexts'. -/
def largeTextsCard : Claim7 := { stood := { row := largeTextsRow, standIns := [], harness := (true, "d75658f3a05a51a8c0f72b62056c445a3057e168c80e68b18251ceeb1a027bed"), looks := false }, kinds := [], alts := [], laidByText := true, laidKinds := [.data, .pinned, .pinned], laidTests := true, laidLooks := .later }
def LargeTextsCardSaid : Prop := Claim7.holds Tryz.pinned (.plain (OpenSpec.ofChange largeTextsSpec)) largeTextsCard

/-- THE TIED CARD OF 'effigylaw09.LargeRules'. -/
def largeRulesCard : Claim7 := { stood := { row := largeRulesRow, standIns := [], harness := (true, "d75658f3a05a51a8c0f72b62056c445a3057e168c80e68b18251ceeb1a027bed"), looks := false }, kinds := [], alts := [], laidByText := true, laidKinds := [.data, .pinned, .pinned], laidTests := true, laidLooks := .later }
def LargeRulesCardSaid : Prop := Claim7.holds Tryz.pinned (.plain (OpenSpec.ofChange largeRulesSpec)) largeRulesCard

/-- THE TIED CARD OF 'effigylaw09.LargeObjects'. -/
def largeObjectsCard : Claim7 := { stood := { row := largeObjectsRow, standIns := [], harness := (true, "d75658f3a05a51a8c0f72b62056c445a3057e168c80e68b18251ceeb1a027bed"), looks := false }, kinds := [], alts := [], laidByText := true, laidKinds := [.data, .data, .pinned, .pinned], laidTests := true, laidLooks := .later }
def LargeObjectsCardSaid : Prop := Claim7.holds Tryz.pinned (.plain (OpenSpec.ofChange largeObjectsSpec)) largeObjectsCard

/-- THE TIED CARD OF 'effigylaw09.LargeData'. -/
def largeDataCard : Claim7 := { stood := { row := largeDataRow, standIns := [], harness := (true, "d75658f3a05a51a8c0f72b62056c445a3057e168c80e68b18251ceeb1a027bed"), looks := false }, kinds := [], alts := [], laidByText := true, laidKinds := [.data, .data, .pinned, .pinned], laidTests := true, laidLooks := .later }
def LargeDataCardSaid : Prop := Claim7.holds Tryz.pinned (.plain (OpenSpec.ofChange largeDataSpec)) largeDataCard

/-- THE SECOND FORM's CARD OF 'effigylaw09.LargeBits'. -/
def largeBitsUptoCard : Claim7 := { stood := { row := largeBitsUptoRow, standIns := [], harness := (true, "d75658f3a05a51a8c0f72b62056c445a3057e168c80e68b18251ceeb1a027bed"), looks := false }, kinds := [], alts := [], laidByText := true, laidKinds := [.data, .pinned, .pinned], laidTests := true, laidLooks := .later }
def LargeBitsUptoCardSaid : Prop := Claim7.holds Tryz.pinned (.plain (OpenSpec.upto largeBitsSpec)) largeBitsUptoCard

/-- THE SECOND FORM's CARD OF 'effigylaw09.LargePowers'. -/
def largePowersUptoCard : Claim7 := { stood := { row := largePowersUptoRow, standIns := [], harness := (true, "d75658f3a05a51a8c0f72b62056c445a3057e168c80e68b18251ceeb1a027bed"), looks := false }, kinds := [], alts := [], laidByText := true, laidKinds := [.data, .pinned, .pinned], laidTests := true, laidLooks := .later }
def LargePowersUptoCardSaid : Prop := Claim7.holds Tryz.pinned (.plain (OpenSpec.upto largePowersSpec)) largePowersUptoCard

/-- THE SECOND FORM's CARD OF 'effigylaw09.LargeTexts'. -/
def largeTextsUptoCard : Claim7 := { stood := { row := largeTextsUptoRow, standIns := [], harness := (true, "d75658f3a05a51a8c0f72b62056c445a3057e168c80e68b18251ceeb1a027bed"), looks := false }, kinds := [], alts := [], laidByText := true, laidKinds := [.data, .pinned, .pinned], laidTests := true, laidLooks := .later }
def LargeTextsUptoCardSaid : Prop := Claim7.holds Tryz.pinned (.plain (OpenSpec.upto largeTextsSpec)) largeTextsUptoCard

/-- THE SECOND FORM's CARD OF 'effigylaw09.LargeRules'. -/
def largeRulesUptoCard : Claim7 := { stood := { row := largeRulesUptoRow, standIns := [], harness := (true, "d75658f3a05a51a8c0f72b62056c445a3057e168c80e68b18251ceeb1a027bed"), looks := false }, kinds := [], alts := [], laidByText := true, laidKinds := [.data, .pinned, .pinned], laidTests := true, laidLooks := .later }
def LargeRulesUptoCardSaid : Prop := Claim7.holds Tryz.pinned (.plain (OpenSpec.upto largeRulesSpec)) largeRulesUptoCard

/-- THE SECOND FORM's CARD OF 'effigylaw09.LargeObjects'. -/
def largeObjectsUptoCard : Claim7 := { stood := { row := largeObjectsUptoRow, standIns := [], harness := (true, "d75658f3a05a51a8c0f72b62056c445a3057e168c80e68b18251ceeb1a027bed"), looks := false }, kinds := [], alts := [], laidByText := true, laidKinds := [.data, .data, .pinned, .pinned], laidTests := true, laidLooks := .later }
def LargeObjectsUptoCardSaid : Prop := Claim7.holds Tryz.pinned (.plain (OpenSpec.upto largeObjectsSpec)) largeObjectsUptoCard

/-- THE SECOND FORM's CARD OF 'effigylaw09.LargeData'. -/
def largeDataUptoCard : Claim7 := { stood := { row := largeDataUptoRow, standIns := [], harness := (true, "d75658f3a05a51a8c0f72b62056c445a3057e168c80e68b18251ceeb1a027bed"), looks := false }, kinds := [], alts := [], laidByText := true, laidKinds := [.data, .data, .pinned, .pinned], laidTests := true, laidLooks := .later }
def LargeDataUptoCardSaid : Prop := Claim7.holds Tryz.pinned (.plain (OpenSpec.upto largeDataSpec)) largeDataUptoCard
end Rows
end Go.Proofs.YtbffpkmfhkphdaaGreatDoor
