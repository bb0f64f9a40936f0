/-
  DERIVED. GIVEN WITH THE SEED: THE CARDS: each row of YtiiedcmkmnfdiaaDoorRows.lean that lists a variable, with what it lists TIED to the program's text (the seventh form; the later family's looks); each row that meets fmt, with fmt's text TOLD by the authors' own Lean function (tested against real Go, not proved from fmt's source: count such statements apart). THE CARD IS WHAT COUNTS. Prove the row's statement (the work); the ties are given (YtiiedcmkmnfdiaaDoorTie.lean); close each card by the builder's one call (the guide's Derived/Test/ToyasCard.lean, 'card_holds'). Laid BY PROGRAM, IN A SANDBOX (cutbox-door.mjs). By AI agents, Wed Nov 11 2026. No macro, syntax, notation, axiom, sorry.
-/
import Derived.Test.YtiiedcmkmnfdiaaDoorRows
import GoSem.ClaimSeven
namespace Go.Proofs.YtiiedcmkmnfdiaaDoor
namespace Rows

/-- THE TIED CARD OF 'posthornlaw10.SheetReads'. -/
def sheetReadsCard : Claim7 := { stood := { row := sheetReadsRow, standIns := [], harness := (true, "1bf16f23d4602ecd1355fecaa9c6e0476abd993ea241ff593cc7509c4e2f45b4"), looks := false }, kinds := [], alts := [], laidByText := true, laidKinds := [.data, .pinned], laidTests := true, laidLooks := .later }
def SheetReadsCardSaid : Prop := Claim7.holds Tryd.pinned (.plain (OpenSpec.ofChange sheetReadsSpec)) sheetReadsCard

/-- THE TIED CARD OF 'posthornlaw10.SheetBack'. -/
def sheetBackCard : Claim7 := { stood := { row := sheetBackRow, standIns := [], harness := (true, "1bf16f23d4602ecd1355fecaa9c6e0476abd993ea241ff593cc7509c4e2f45b4"), looks := false }, kinds := [], alts := [], laidByText := true, laidKinds := [.data, .pinned], laidTests := true, laidLooks := .later }
def SheetBackCardSaid : Prop := Claim7.holds Tryd.pinned (.plain (OpenSpec.ofChange sheetBackSpec)) sheetBackCard

/-- THE TIED CARD OF 'posthornlaw10.SheetRight'. -/
def sheetRightCard : Claim7 := { stood := { row := sheetRightRow, standIns := [], harness := (true, "1bf16f23d4602ecd1355fecaa9c6e0476abd993ea241ff593cc7509c4e2f45b4"), looks := false }, kinds := [], alts := [], laidByText := true, laidKinds := [.data, .pinned], laidTests := true, laidLooks := .later }
def SheetRightCardSaid : Prop := Claim7.holds Tryd.pinned (.plain (OpenSpec.ofChange sheetRightSpec)) sheetRightCard

/-- THE SECOND FORM's CARD OF 'posthornlaw10.SheetReads'. -/
def sheetReadsUptoCard : Claim7 := { stood := { row := sheetReadsUptoRow, standIns := [], harness := (true, "1bf16f23d4602ecd1355fecaa9c6e0476abd993ea241ff593cc7509c4e2f45b4"), looks := false }, kinds := [], alts := [], laidByText := true, laidKinds := [.data, .pinned], laidTests := true, laidLooks := .later }
def SheetReadsUptoCardSaid : Prop := Claim7.holds Tryd.pinned (.plain (OpenSpec.upto sheetReadsSpec)) sheetReadsUptoCard

/-- THE SECOND FORM's CARD OF 'posthornlaw10.SheetBack'. -/
def sheetBackUptoCard : Claim7 := { stood := { row := sheetBackUptoRow, standIns := [], harness := (true, "1bf16f23d4602ecd1355fecaa9c6e0476abd993ea241ff593cc7509c4e2f45b4"), looks := false }, kinds := [], alts := [], laidByText := true, laidKinds := [.data, .pinned], laidTests := true, laidLooks := .later }
def SheetBackUptoCardSaid : Prop := Claim7.holds Tryd.pinned (.plain (OpenSpec.upto sheetBackSpec)) sheetBackUptoCard

/-- THE SECOND FORM's CARD OF 'posthornlaw10.SheetRight'. -/
def sheetRightUptoCard : Claim7 := { stood := { row := sheetRightUptoRow, standIns := [], harness := (true, "1bf16f23d4602ecd1355fecaa9c6e0476abd993ea241ff593cc7509c4e2f45b4"), looks := false }, kinds := [], alts := [], laidByText := true, laidKinds := [.data, .pinned], laidTests := true, laidLooks := .later }
def SheetRightUptoCardSaid : Prop := Claim7.holds Tryd.pinned (.plain (OpenSpec.upto sheetRightSpec)) sheetRightUptoCard
end Rows
end Go.Proofs.YtiiedcmkmnfdiaaDoor
