/-
  NARROWER THAN 'FOR EVERY INPUT', by the rows' own cells (each row's printed sentence says how): LargeBits: laid · LargePowers: laid · LargeTexts: laid · LargeRules: laid · LargeObjects: laid · LargeData: laid.
  DERIVED. THE GIVEN ROWS OF THIS SEAT. 6 by the template 'for every input the law returns true; each argument reads behind the call as it read before'; 0 by the template 'total and deterministic' (their statements: YtbffpkmfhkphdaaGreatDoorTotals.lean).
  GIVEN WITH THE SEED: the statements are not yours to turn. If you find one false, say at which input.
  Laid BY PROGRAM, IN A SANDBOX (cutbox-rows.mjs): the forced cells as the released guide's own fill.sh prints them over the translation 2467b169d5254fa5… (all of the seat's roots in one cut). By AI agents, Wed Nov 11 2026. No macro, syntax, notation, axiom, sorry.
-/
import Derived.Test.YtbffpkmfhkphdaaGreatDoorChecked
import GoSem.PinnedTables
import GoSem.Claim
import GoSem.ClaimJoined
import GoSem.ClaimMapViews
import Derived.JoinedTies
import Derived.KernelRfl
namespace Go.Proofs.YtbffpkmfhkphdaaGreatDoor
/- THE CELL 'sum', in the pinned program and in every row, IS THE sha256 OF THE DUMP (.gsa) THAT YtbffpkmfhkphdaaGreatDoorProg.lean LOADS. Nothing in Lean hashes anything: it is a label: what it is worth is what the hold of that sum in a sandbox is worth. -/
noncomputable def Tryz.pinned : Pinned := { name := "ytbffpkmfhkphdaagreatdoor", sum := "2467b169d5254fa5057ed383f67d7d0a21a3c6d9322f50e7397991c89849cf0b", checked := Tryz.checked }
namespace Rows
def none {H : Type} : Left H := { results := [], args := [] }

/- WHAT THE LISTED PACKAGE-LEVEL VARIABLES READ AS WHEN THE CALL BEGINS. Each datum BY PROGRAM (the guide's laid-datum.mjs) off the statement by which the dump's own 'gosem.cut.vars' lays the variable. In a bare row this is a premise. The card (YtbffpkmfhkphdaaGreatDoorCards.lean) ties it to the program's text. -/
def laid_unicode_utf8_acceptRanges {H : Type} : DataW H := .agg [.agg [.lit (.int .u8 128), .lit (.int .u8 191)], .agg [.lit (.int .u8 160), .lit (.int .u8 191)], .agg [.lit (.int .u8 128), .lit (.int .u8 159)], .agg [.lit (.int .u8 144), .lit (.int .u8 191)], .agg [.lit (.int .u8 128), .lit (.int .u8 143)], .agg [.lit (.int .u8 0), .lit (.int .u8 0)], .agg [.lit (.int .u8 0), .lit (.int .u8 0)], .agg [.lit (.int .u8 0), .lit (.int .u8 0)], .agg [.lit (.int .u8 0), .lit (.int .u8 0)], .agg [.lit (.int .u8 0), .lit (.int .u8 0)], .agg [.lit (.int .u8 0), .lit (.int .u8 0)], .agg [.lit (.int .u8 0), .lit (.int .u8 0)], .agg [.lit (.int .u8 0), .lit (.int .u8 0)], .agg [.lit (.int .u8 0), .lit (.int .u8 0)], .agg [.lit (.int .u8 0), .lit (.int .u8 0)], .agg [.lit (.int .u8 0), .lit (.int .u8 0)]]
/-- One of Go's own tables, pinned by name: the form's constant. -/
def laid_unicode_CaseRanges : DataW Unit := Go.Pinned.caseRanges
/-- One of Go's own tables, pinned by name: the form's constant. -/
def laid_unicode_utf8_first : DataW Unit := Go.Pinned.utf8First
def laid_effigy_oop_spares {H : Type} : DataW H := .agg [.lit (.bool false), .lit (.bool false), .lit (.bool true), .lit (.bool false), .lit (.bool false)]

/-- 'effigylaw09.LargeBits': WHATEVER THE INPUT: true; the input reads as it did. -/
def largeBitsSpec : ChangeSpec := { name := "largeBits", fn := fun _ => fun
  | [d1, d2, d3, d4] => { results := [.lit (.bool true)], args := [d1, d2, d3, d4] }
  | _ => none }
def largeBitsRow : OpenClaim := { program := "ytbffpkmfhkphdaagreatdoor", sum := "2467b169d5254fa5057ed383f67d7d0a21a3c6d9322f50e7397991c89849cf0b", func := "effigy/effigylaw09.LargeBits", spec := "largeBits", inPlace := ["internal/abi.NoEscape", "internal/bytealg.MakeNoZero"], unfollowed := true, recurses := true, named := ["unicode/utf8.first", "unicode/utf8.acceptRanges", "unicode.CaseRanges"], apart := false, laid := [("unicode/utf8.acceptRanges", laid_unicode_utf8_acceptRanges), ("unicode.CaseRanges", laid_unicode_CaseRanges), ("unicode/utf8.first", laid_unicode_utf8_first)] }
def LargeBitsSaid : Prop := largeBitsRow.holds Tryz.pinned (OpenSpec.ofChange largeBitsSpec)

/-- ITS FALSE NEIGHBOUR: 'it returns false'. Refute it at one input. -/
def largeBitsWrong : ChangeSpec := { name := "largeBits", fn := fun _ => fun
  | [d1, d2, d3, d4] => { results := [.lit (.bool false)], args := [d1, d2, d3, d4] }
  | _ => none }
def LargeBitsWrongFalsely : Prop := largeBitsRow.holds Tryz.pinned (OpenSpec.ofChange largeBitsWrong)

/-- 'effigylaw09.LargePowers': WHATEVER THE INPUT: true; the input reads as it did. -/
def largePowersSpec : ChangeSpec := { name := "largePowers", fn := fun _ => fun
  | [d1, d2, d3, d4] => { results := [.lit (.bool true)], args := [d1, d2, d3, d4] }
  | _ => none }
def largePowersRow : OpenClaim := { program := "ytbffpkmfhkphdaagreatdoor", sum := "2467b169d5254fa5057ed383f67d7d0a21a3c6d9322f50e7397991c89849cf0b", func := "effigy/effigylaw09.LargePowers", spec := "largePowers", inPlace := ["internal/abi.NoEscape", "internal/bytealg.MakeNoZero"], unfollowed := true, recurses := true, named := ["unicode/utf8.first", "unicode/utf8.acceptRanges", "unicode.CaseRanges"], apart := false, laid := [("unicode/utf8.acceptRanges", laid_unicode_utf8_acceptRanges), ("unicode.CaseRanges", laid_unicode_CaseRanges), ("unicode/utf8.first", laid_unicode_utf8_first)] }
def LargePowersSaid : Prop := largePowersRow.holds Tryz.pinned (OpenSpec.ofChange largePowersSpec)

/-- ITS FALSE NEIGHBOUR: 'it returns false'. Refute it at one input. -/
def largePowersWrong : ChangeSpec := { name := "largePowers", fn := fun _ => fun
  | [d1, d2, d3, d4] => { results := [.lit (.bool false)], args := [d1, d2, d3, d4] }
  | _ => none }
def LargePowersWrongFalsely : Prop := largePowersRow.holds Tryz.pinned (OpenSpec.ofChange largePowersWrong)

/-- 'effigylaw09.LargeTexts': WHATEVER THE INPUT: true; the input reads as it did. -/
def largeTextsSpec : ChangeSpec := { name := "largeTexts", fn := fun _ => fun
  | [d1, d2, d3, d4] => { results := [.lit (.bool true)], args := [d1, d2, d3, d4] }
  | _ => none }
def largeTextsRow : OpenClaim := { program := "ytbffpkmfhkphdaagreatdoor", sum := "2467b169d5254fa5057ed383f67d7d0a21a3c6d9322f50e7397991c89849cf0b", func := "effigy/effigylaw09.LargeTexts", spec := "largeTexts", inPlace := ["internal/abi.NoEscape", "internal/bytealg.MakeNoZero", "internal/bytealg.IndexByteString", "internal/bytealg.IndexString"], unfollowed := true, recurses := true, named := ["unicode/utf8.first", "unicode/utf8.acceptRanges", "unicode.CaseRanges", "internal/bytealg.MaxLen"], apart := false, laid := [("unicode/utf8.acceptRanges", laid_unicode_utf8_acceptRanges), ("unicode.CaseRanges", laid_unicode_CaseRanges), ("unicode/utf8.first", laid_unicode_utf8_first)] }
def LargeTextsSaid : Prop := largeTextsRow.holds Tryz.pinned (OpenSpec.ofChange largeTextsSpec)

/-- ITS FALSE NEIGHBOUR: 'it returns false'. Refute it at one input. -/
def largeTextsWrong : ChangeSpec := { name := "largeTexts", fn := fun _ => fun
  | [d1, d2, d3, d4] => { results := [.lit (.bool false)], args := [d1, d2, d3, d4] }
  | _ => none }
def LargeTextsWrongFalsely : Prop := largeTextsRow.holds Tryz.pinned (OpenSpec.ofChange largeTextsWrong)

/-- 'effigylaw09.LargeRules': WHATEVER THE INPUT: true; the input reads as it did. -/
def largeRulesSpec : ChangeSpec := { name := "largeRules", fn := fun _ => fun
  | [d1, d2, d3, d4] => { results := [.lit (.bool true)], args := [d1, d2, d3, d4] }
  | _ => none }
def largeRulesRow : OpenClaim := { program := "ytbffpkmfhkphdaagreatdoor", sum := "2467b169d5254fa5057ed383f67d7d0a21a3c6d9322f50e7397991c89849cf0b", func := "effigy/effigylaw09.LargeRules", spec := "largeRules", inPlace := ["internal/abi.NoEscape", "internal/bytealg.MakeNoZero", "internal/bytealg.IndexByteString", "internal/bytealg.IndexString"], unfollowed := true, recurses := true, named := ["unicode/utf8.first", "unicode/utf8.acceptRanges", "unicode.CaseRanges", "internal/bytealg.MaxLen"], apart := false, laid := [("unicode/utf8.acceptRanges", laid_unicode_utf8_acceptRanges), ("unicode.CaseRanges", laid_unicode_CaseRanges), ("unicode/utf8.first", laid_unicode_utf8_first)] }
def LargeRulesSaid : Prop := largeRulesRow.holds Tryz.pinned (OpenSpec.ofChange largeRulesSpec)

/-- ITS FALSE NEIGHBOUR: 'it returns false'. Refute it at one input. -/
def largeRulesWrong : ChangeSpec := { name := "largeRules", fn := fun _ => fun
  | [d1, d2, d3, d4] => { results := [.lit (.bool false)], args := [d1, d2, d3, d4] }
  | _ => none }
def LargeRulesWrongFalsely : Prop := largeRulesRow.holds Tryz.pinned (OpenSpec.ofChange largeRulesWrong)

/-- 'effigylaw09.LargeObjects': WHATEVER THE INPUT: true; the input reads as it did. -/
def largeObjectsSpec : ChangeSpec := { name := "largeObjects", fn := fun _ => fun
  | [d1, d2, d3, d4] => { results := [.lit (.bool true)], args := [d1, d2, d3, d4] }
  | _ => none }
def largeObjectsRow : OpenClaim := { program := "ytbffpkmfhkphdaagreatdoor", sum := "2467b169d5254fa5057ed383f67d7d0a21a3c6d9322f50e7397991c89849cf0b", func := "effigy/effigylaw09.LargeObjects", spec := "largeObjects", inPlace := ["internal/abi.NoEscape", "internal/bytealg.MakeNoZero"], unfollowed := true, recurses := true, named := ["effigy/oop.spares", "unicode/utf8.first", "unicode/utf8.acceptRanges", "unicode.CaseRanges"], apart := false, laid := [("unicode/utf8.acceptRanges", laid_unicode_utf8_acceptRanges), ("effigy/oop.spares", laid_effigy_oop_spares), ("unicode.CaseRanges", laid_unicode_CaseRanges), ("unicode/utf8.first", laid_unicode_utf8_first)] }
def LargeObjectsSaid : Prop := largeObjectsRow.holds Tryz.pinned (OpenSpec.ofChange largeObjectsSpec)

/-- ITS FALSE NEIGHBOUR: 'it returns false'. Refute it at one input. -/
def largeObjectsWrong : ChangeSpec := { name := "largeObjects", fn := fun _ => fun
  | [d1, d2, d3, d4] => { results := [.lit (.bool false)], args := [d1, d2, d3, d4] }
  | _ => none }
def LargeObjectsWrongFalsely : Prop := largeObjectsRow.holds Tryz.pinned (OpenSpec.ofChange largeObjectsWrong)

/-- 'effigylaw09.LargeData': WHATEVER THE INPUT: true; the input reads as it did. -/
def largeDataSpec : ChangeSpec := { name := "largeData", fn := fun _ => fun
  | [d1, d2, d3, d4, d5, d6] => { results := [.lit (.bool true)], args := [d1, d2, d3, d4, d5, d6] }
  | _ => none }
def largeDataRow : OpenClaim := { program := "ytbffpkmfhkphdaagreatdoor", sum := "2467b169d5254fa5057ed383f67d7d0a21a3c6d9322f50e7397991c89849cf0b", func := "effigy/effigylaw09.LargeData", spec := "largeData", inPlace := ["internal/abi.NoEscape", "internal/bytealg.MakeNoZero"], unfollowed := true, recurses := true, named := ["effigy/oop.spares", "unicode/utf8.first", "unicode/utf8.acceptRanges", "unicode.CaseRanges"], apart := false, laid := [("unicode/utf8.acceptRanges", laid_unicode_utf8_acceptRanges), ("effigy/oop.spares", laid_effigy_oop_spares), ("unicode.CaseRanges", laid_unicode_CaseRanges), ("unicode/utf8.first", laid_unicode_utf8_first)] }
def LargeDataSaid : Prop := largeDataRow.holds Tryz.pinned (OpenSpec.ofChange largeDataSpec)

/-- ITS FALSE NEIGHBOUR: 'it returns false'. Refute it at one input. -/
def largeDataWrong : ChangeSpec := { name := "largeData", fn := fun _ => fun
  | [d1, d2, d3, d4, d5, d6] => { results := [.lit (.bool false)], args := [d1, d2, d3, d4, d5, d6] }
  | _ => none }
def LargeDataWrongFalsely : Prop := largeDataRow.holds Tryz.pinned (OpenSpec.ofChange largeDataWrong)

/- THE SECOND FORM. 'bulk': how many values and letters a reading holds, each counted each time it is reached (what is shared counts as often as it is met; a slice's spare places count too). A statement '..UptoSaid' is the law's where the arguments, and the package variables that the reading takes, are together of bulk at most 1048576: NARROWER than '..Said'. Prove '..Said' where nothing that the law and all that it calls make is longer than what came in: it says more and counts as full. Else prove '..UptoSaid'. A law counts once. -/
mutual
def uptoBulk {H : Type} : DataW H → Nat
  | .lit (.string bytes) => bytes.length + 1
  | .lit _ => 1
  | .nil => 1
  | .ptr d => uptoBulk d + 1
  | .slice elems spare => uptoBulkAll elems + uptoBulkAll spare + 1
  | .agg parts => uptoBulkAll parts + 1
  | .iface _ d => uptoBulk d + 1
  | .map entries => uptoBulkEntries entries + 1
  | .held _ => 1
def uptoBulkAll {H : Type} : List (DataW H) → Nat
  | [] => 0
  | d :: r => uptoBulk d + uptoBulkAll r
def uptoBulkEntries {H : Type} : List (Lit × DataW H) → Nat
  | [] => 0
  | x :: r => uptoBulkEntry x + uptoBulkEntries r
def uptoBulkEntry {H : Type} : Lit × DataW H → Nat
  | (.string bytes, d) => bytes.length + uptoBulk d + 1
  | (_, d) => uptoBulk d + 1
 end
def uptoSmall : (H : Type) → List (DataW H) → Bool := fun _ ds => decide (uptoBulkAll ds ≤ 1048576)
def OpenSpec.upto (s : _root_.Go.ChangeSpec) : _root_.Go.OpenSpec := { _root_.Go.OpenSpec.ofChange s with cond := some uptoSmall }

/-- 'effigylaw09.LargeBits', WHERE WHAT IT READS IS OF BULK AT MOST 1048576: true; the input reads as it did. -/
def largeBitsUptoRow : OpenClaim := { program := "ytbffpkmfhkphdaagreatdoor", sum := "2467b169d5254fa5057ed383f67d7d0a21a3c6d9322f50e7397991c89849cf0b", func := "effigy/effigylaw09.LargeBits", spec := "largeBits", inPlace := ["internal/abi.NoEscape", "internal/bytealg.MakeNoZero"], unfollowed := true, recurses := true, named := ["unicode/utf8.first", "unicode/utf8.acceptRanges", "unicode.CaseRanges"], apart := false, laid := [("unicode/utf8.acceptRanges", laid_unicode_utf8_acceptRanges), ("unicode.CaseRanges", laid_unicode_CaseRanges), ("unicode/utf8.first", laid_unicode_utf8_first)], narrowed := true }
def LargeBitsUptoSaid : Prop := largeBitsUptoRow.holds Tryz.pinned (OpenSpec.upto largeBitsSpec)

/-- 'effigylaw09.LargePowers', WHERE WHAT IT READS IS OF BULK AT MOST 1048576: true; the input reads as it did. -/
def largePowersUptoRow : OpenClaim := { program := "ytbffpkmfhkphdaagreatdoor", sum := "2467b169d5254fa5057ed383f67d7d0a21a3c6d9322f50e7397991c89849cf0b", func := "effigy/effigylaw09.LargePowers", spec := "largePowers", inPlace := ["internal/abi.NoEscape", "internal/bytealg.MakeNoZero"], unfollowed := true, recurses := true, named := ["unicode/utf8.first", "unicode/utf8.acceptRanges", "unicode.CaseRanges"], apart := false, laid := [("unicode/utf8.acceptRanges", laid_unicode_utf8_acceptRanges), ("unicode.CaseRanges", laid_unicode_CaseRanges), ("unicode/utf8.first", laid_unicode_utf8_first)], narrowed := true }
def LargePowersUptoSaid : Prop := largePowersUptoRow.holds Tryz.pinned (OpenSpec.upto largePowersSpec)

/-- 'effigylaw09.LargeTexts', WHERE WHAT IT READS IS OF BULK AT MOST 1048576: true; the input reads as it did. -/
def largeTextsUptoRow : OpenClaim := { program := "ytbffpkmfhkphdaagreatdoor", sum := "2467b169d5254fa5057ed383f67d7d0a21a3c6d9322f50e7397991c89849cf0b", func := "effigy/effigylaw09.LargeTexts", spec := "largeTexts", inPlace := ["internal/abi.NoEscape", "internal/bytealg.MakeNoZero", "internal/bytealg.IndexByteString", "internal/bytealg.IndexString"], unfollowed := true, recurses := true, named := ["unicode/utf8.first", "unicode/utf8.acceptRanges", "unicode.CaseRanges", "internal/bytealg.MaxLen"], apart := false, laid := [("unicode/utf8.acceptRanges", laid_unicode_utf8_acceptRanges), ("unicode.CaseRanges", laid_unicode_CaseRanges), ("unicode/utf8.first", laid_unicode_utf8_first)], narrowed := true }
def LargeTextsUptoSaid : Prop := largeTextsUptoRow.holds Tryz.pinned (OpenSpec.upto largeTextsSpec)

/-- 'effigylaw09.LargeRules', WHERE WHAT IT READS IS OF BULK AT MOST 1048576: true; the input reads as it did. -/
def largeRulesUptoRow : OpenClaim := { program := "ytbffpkmfhkphdaagreatdoor", sum := "2467b169d5254fa5057ed383f67d7d0a21a3c6d9322f50e7397991c89849cf0b", func := "effigy/effigylaw09.LargeRules", spec := "largeRules", inPlace := ["internal/abi.NoEscape", "internal/bytealg.MakeNoZero", "internal/bytealg.IndexByteString", "internal/bytealg.IndexString"], unfollowed := true, recurses := true, named := ["unicode/utf8.first", "unicode/utf8.acceptRanges", "unicode.CaseRanges", "internal/bytealg.MaxLen"], apart := false, laid := [("unicode/utf8.acceptRanges", laid_unicode_utf8_acceptRanges), ("unicode.CaseRanges", laid_unicode_CaseRanges), ("unicode/utf8.first", laid_unicode_utf8_first)], narrowed := true }
def LargeRulesUptoSaid : Prop := largeRulesUptoRow.holds Tryz.pinned (OpenSpec.upto largeRulesSpec)

/-- 'effigylaw09.LargeObjects', WHERE WHAT IT READS IS OF BULK AT MOST 1048576: true; the input reads as it did. -/
def largeObjectsUptoRow : OpenClaim := { program := "ytbffpkmfhkphdaagreatdoor", sum := "2467b169d5254fa5057ed383f67d7d0a21a3c6d9322f50e7397991c89849cf0b", func := "effigy/effigylaw09.LargeObjects", spec := "largeObjects", inPlace := ["internal/abi.NoEscape", "internal/bytealg.MakeNoZero"], unfollowed := true, recurses := true, named := ["effigy/oop.spares", "unicode/utf8.first", "unicode/utf8.acceptRanges", "unicode.CaseRanges"], apart := false, laid := [("unicode/utf8.acceptRanges", laid_unicode_utf8_acceptRanges), ("effigy/oop.spares", laid_effigy_oop_spares), ("unicode.CaseRanges", laid_unicode_CaseRanges), ("unicode/utf8.first", laid_unicode_utf8_first)], narrowed := true }
def LargeObjectsUptoSaid : Prop := largeObjectsUptoRow.holds Tryz.pinned (OpenSpec.upto largeObjectsSpec)

/-- 'effigylaw09.LargeData', WHERE WHAT IT READS IS OF BULK AT MOST 1048576: true; the input reads as it did. -/
def largeDataUptoRow : OpenClaim := { program := "ytbffpkmfhkphdaagreatdoor", sum := "2467b169d5254fa5057ed383f67d7d0a21a3c6d9322f50e7397991c89849cf0b", func := "effigy/effigylaw09.LargeData", spec := "largeData", inPlace := ["internal/abi.NoEscape", "internal/bytealg.MakeNoZero"], unfollowed := true, recurses := true, named := ["effigy/oop.spares", "unicode/utf8.first", "unicode/utf8.acceptRanges", "unicode.CaseRanges"], apart := false, laid := [("unicode/utf8.acceptRanges", laid_unicode_utf8_acceptRanges), ("effigy/oop.spares", laid_effigy_oop_spares), ("unicode.CaseRanges", laid_unicode_CaseRanges), ("unicode/utf8.first", laid_unicode_utf8_first)], narrowed := true }
def LargeDataUptoSaid : Prop := largeDataUptoRow.holds Tryz.pinned (OpenSpec.upto largeDataSpec)

end Rows
end Go.Proofs.YtbffpkmfhkphdaaGreatDoor
