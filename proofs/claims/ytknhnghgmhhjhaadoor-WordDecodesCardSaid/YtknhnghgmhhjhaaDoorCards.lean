/-
  DERIVED. GIVEN WITH THE SEED: THE CARDS: each row of YtknhnghgmhhjhaaDoorRows.lean that lists a variable, with what it lists TIED to the program's text (the seventh form; the later family's looks); each row that meets fmt, with fmt's text TOLD by the authors' own Lean function (tested against real Go, not proved from fmt's source: count such statements apart). THE CARD IS WHAT COUNTS. Prove the row's statement (the work); the ties are given (YtknhnghgmhhjhaaDoorTie.lean); close each card by the builder's one call (the guide's Derived/Test/ToyasCard.lean, 'card_holds'). Laid BY PROGRAM, IN A SANDBOX (cutbox-door.mjs). By AI agents, Wed Nov 11 2026. No macro, syntax, notation, axiom, sorry.
-/
import Derived.Test.YtknhnghgmhhjhaaDoorRows
import GoSem.ClaimSeven
namespace Go.Proofs.YtknhnghgmhhjhaaDoor
namespace Rows

/-- THE TIED CARD OF 'posthornlaw04.WordEncodes'. -/
def wordEncodesCard : Claim7 := { stood := { row := wordEncodesRow, standIns := [], harness := (true, "2263dc4eb41b7f6d9594ab5f7e089415a0b18688f26c27e5bc544013a70b900d"), looks := false }, kinds := [], alts := [], laidByText := true, laidKinds := [.data, .pinned], laidTests := true, laidLooks := .later }
def WordEncodesCardSaid : Prop := Claim7.holds Tryd.pinned (.plain (OpenSpec.ofChange wordEncodesSpec)) wordEncodesCard

/-- THE TIED CARD OF 'posthornlaw04.WordDecodes'. -/
def wordDecodesCard : Claim7 := { stood := { row := wordDecodesRow, standIns := [], harness := (true, "2263dc4eb41b7f6d9594ab5f7e089415a0b18688f26c27e5bc544013a70b900d"), looks := false }, kinds := [], alts := [], laidByText := true, laidKinds := [.data, .pinned], laidTests := true, laidLooks := .later }
def WordDecodesCardSaid : Prop := Claim7.holds Tryd.pinned (.plain (OpenSpec.ofChange wordDecodesSpec)) wordDecodesCard

/-- THE TIED CARD OF 'posthornlaw04.WordBack'. -/
def wordBackCard : Claim7 := { stood := { row := wordBackRow, standIns := [], harness := (true, "2263dc4eb41b7f6d9594ab5f7e089415a0b18688f26c27e5bc544013a70b900d"), looks := false }, kinds := [], alts := [], laidByText := true, laidKinds := [.data, .pinned], laidTests := true, laidLooks := .later }
def WordBackCardSaid : Prop := Claim7.holds Tryd.pinned (.plain (OpenSpec.ofChange wordBackSpec)) wordBackCard

/-- THE TIED CARD OF 'posthornlaw04.WordShort'. -/
def wordShortCard : Claim7 := { stood := { row := wordShortRow, standIns := [], harness := (true, "2263dc4eb41b7f6d9594ab5f7e089415a0b18688f26c27e5bc544013a70b900d"), looks := false }, kinds := [], alts := [], laidByText := true, laidKinds := [.data, .pinned], laidTests := true, laidLooks := .later }
def WordShortCardSaid : Prop := Claim7.holds Tryd.pinned (.plain (OpenSpec.ofChange wordShortSpec)) wordShortCard

/-- THE TIED CARD OF 'posthornlaw04.WordSays'. -/
def wordSaysCard : Claim7 := { stood := { row := wordSaysRow, standIns := [], harness := (true, "2263dc4eb41b7f6d9594ab5f7e089415a0b18688f26c27e5bc544013a70b900d"), looks := false }, kinds := [], alts := [], laidByText := true, laidKinds := [.data, .pinned], laidTests := true, laidLooks := .later }
def WordSaysCardSaid : Prop := Claim7.holds Tryd.pinned (.plain (OpenSpec.ofChange wordSaysSpec)) wordSaysCard

/-- THE TIED CARD OF 'posthornlaw04.WordOthers'. -/
def wordOthersCard : Claim7 := { stood := { row := wordOthersRow, standIns := [], harness := (true, "2263dc4eb41b7f6d9594ab5f7e089415a0b18688f26c27e5bc544013a70b900d"), looks := false }, kinds := [], alts := [], laidByText := true, laidKinds := [.data, .pinned], laidTests := true, laidLooks := .later }
def WordOthersCardSaid : Prop := Claim7.holds Tryd.pinned (.plain (OpenSpec.ofChange wordOthersSpec)) wordOthersCard

/-- THE SECOND FORM's CARD OF 'posthornlaw04.WordEncodes'. -/
def wordEncodesUptoCard : Claim7 := { stood := { row := wordEncodesUptoRow, standIns := [], harness := (true, "2263dc4eb41b7f6d9594ab5f7e089415a0b18688f26c27e5bc544013a70b900d"), looks := false }, kinds := [], alts := [], laidByText := true, laidKinds := [.data, .pinned], laidTests := true, laidLooks := .later }
def WordEncodesUptoCardSaid : Prop := Claim7.holds Tryd.pinned (.plain (OpenSpec.upto wordEncodesSpec)) wordEncodesUptoCard

/-- THE SECOND FORM's CARD OF 'posthornlaw04.WordDecodes'. -/
def wordDecodesUptoCard : Claim7 := { stood := { row := wordDecodesUptoRow, standIns := [], harness := (true, "2263dc4eb41b7f6d9594ab5f7e089415a0b18688f26c27e5bc544013a70b900d"), looks := false }, kinds := [], alts := [], laidByText := true, laidKinds := [.data, .pinned], laidTests := true, laidLooks := .later }
def WordDecodesUptoCardSaid : Prop := Claim7.holds Tryd.pinned (.plain (OpenSpec.upto wordDecodesSpec)) wordDecodesUptoCard

/-- THE SECOND FORM's CARD OF 'posthornlaw04.WordBack'. -/
def wordBackUptoCard : Claim7 := { stood := { row := wordBackUptoRow, standIns := [], harness := (true, "2263dc4eb41b7f6d9594ab5f7e089415a0b18688f26c27e5bc544013a70b900d"), looks := false }, kinds := [], alts := [], laidByText := true, laidKinds := [.data, .pinned], laidTests := true, laidLooks := .later }
def WordBackUptoCardSaid : Prop := Claim7.holds Tryd.pinned (.plain (OpenSpec.upto wordBackSpec)) wordBackUptoCard

/-- THE SECOND FORM's CARD OF 'posthornlaw04.WordShort'. -/
def wordShortUptoCard : Claim7 := { stood := { row := wordShortUptoRow, standIns := [], harness := (true, "2263dc4eb41b7f6d9594ab5f7e089415a0b18688f26c27e5bc544013a70b900d"), looks := false }, kinds := [], alts := [], laidByText := true, laidKinds := [.data, .pinned], laidTests := true, laidLooks := .later }
def WordShortUptoCardSaid : Prop := Claim7.holds Tryd.pinned (.plain (OpenSpec.upto wordShortSpec)) wordShortUptoCard

/-- THE SECOND FORM's CARD OF 'posthornlaw04.WordSays'. -/
def wordSaysUptoCard : Claim7 := { stood := { row := wordSaysUptoRow, standIns := [], harness := (true, "2263dc4eb41b7f6d9594ab5f7e089415a0b18688f26c27e5bc544013a70b900d"), looks := false }, kinds := [], alts := [], laidByText := true, laidKinds := [.data, .pinned], laidTests := true, laidLooks := .later }
def WordSaysUptoCardSaid : Prop := Claim7.holds Tryd.pinned (.plain (OpenSpec.upto wordSaysSpec)) wordSaysUptoCard

/-- THE SECOND FORM's CARD OF 'posthornlaw04.WordOthers'. -/
def wordOthersUptoCard : Claim7 := { stood := { row := wordOthersUptoRow, standIns := [], harness := (true, "2263dc4eb41b7f6d9594ab5f7e089415a0b18688f26c27e5bc544013a70b900d"), looks := false }, kinds := [], alts := [], laidByText := true, laidKinds := [.data, .pinned], laidTests := true, laidLooks := .later }
def WordOthersUptoCardSaid : Prop := Claim7.holds Tryd.pinned (.plain (OpenSpec.upto wordOthersSpec)) wordOthersUptoCard
end Rows
end Go.Proofs.YtknhnghgmhhjhaaDoor
