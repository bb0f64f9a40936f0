/-
  DERIVED. GIVEN WITH THE SEED: THE CARDS: each row of YteblngbleioncaaDoorRows.lean that lists a variable, with what it lists TIED to the program's text (the seventh form; the later family's looks); each row that meets fmt, with fmt's text TOLD by the authors' own Lean function (tested against real Go, not proved from fmt's source: count such statements apart). THE CARD IS WHAT COUNTS. Prove the row's statement (the work); the ties are given (YteblngbleioncaaDoorTie.lean); close each card by the builder's one call (the guide's Derived/Test/ToyasCard.lean, 'card_holds'). Laid BY PROGRAM, IN A SANDBOX (cutbox-door.mjs). By AI agents, Wed Nov 11 2026. No macro, syntax, notation, axiom, sorry.
-/
import Derived.Test.YteblngbleioncaaDoorRows
import GoSem.ClaimSeven
namespace Go.Proofs.YteblngbleioncaaDoor
namespace Rows

/-- THE TIED CARD OF 'posthornlaw20.DatePrints'. -/
def datePrintsCard : Claim7 := { stood := { row := datePrintsRow, standIns := [], harness := (true, "0ac2d76b65f9c13c398faa0196ba64f902620fc4025fadfccdb2e4307be38cf7"), looks := false }, kinds := [], alts := [], laidByText := true, laidKinds := [.data, .pinned], laidTests := true, laidLooks := .later }
def DatePrintsCardSaid : Prop := Claim7.holds Tryd.pinned (.plain (OpenSpec.ofChange datePrintsSpec)) datePrintsCard

/-- THE TIED CARD OF 'posthornlaw20.DateParses'. -/
def dateParsesCard : Claim7 := { stood := { row := dateParsesRow, standIns := [], harness := (true, "0ac2d76b65f9c13c398faa0196ba64f902620fc4025fadfccdb2e4307be38cf7"), looks := false }, kinds := [], alts := [], laidByText := true, laidKinds := [.data, .pinned], laidTests := true, laidLooks := .later }
def DateParsesCardSaid : Prop := Claim7.holds Tryd.pinned (.plain (OpenSpec.ofChange dateParsesSpec)) dateParsesCard

/-- THE TIED CARD OF 'posthornlaw20.DateIds'. -/
def dateIdsCard : Claim7 := { stood := { row := dateIdsRow, standIns := [], harness := (true, "0ac2d76b65f9c13c398faa0196ba64f902620fc4025fadfccdb2e4307be38cf7"), looks := false }, kinds := [], alts := [], laidByText := true, laidKinds := [.data, .pinned], laidTests := true, laidLooks := .later }
def DateIdsCardSaid : Prop := Claim7.holds Tryd.pinned (.plain (OpenSpec.ofChange dateIdsSpec)) dateIdsCard

/-- THE TIED CARD OF 'posthornlaw20.DateBack'. -/
def dateBackCard : Claim7 := { stood := { row := dateBackRow, standIns := [], harness := (true, "0ac2d76b65f9c13c398faa0196ba64f902620fc4025fadfccdb2e4307be38cf7"), looks := false }, kinds := [], alts := [], laidByText := true, laidKinds := [.data, .pinned], laidTests := true, laidLooks := .later }
def DateBackCardSaid : Prop := Claim7.holds Tryd.pinned (.plain (OpenSpec.ofChange dateBackSpec)) dateBackCard

/-- THE TIED CARD OF 'posthornlaw20.DateSame'. -/
def dateSameCard : Claim7 := { stood := { row := dateSameRow, standIns := [], harness := (true, "0ac2d76b65f9c13c398faa0196ba64f902620fc4025fadfccdb2e4307be38cf7"), looks := false }, kinds := [], alts := [], laidByText := true, laidKinds := [.data, .pinned], laidTests := true, laidLooks := .later }
def DateSameCardSaid : Prop := Claim7.holds Tryd.pinned (.plain (OpenSpec.ofChange dateSameSpec)) dateSameCard

/-- THE TIED CARD OF 'posthornlaw20.DateUnlike'. -/
def dateUnlikeCard : Claim7 := { stood := { row := dateUnlikeRow, standIns := [], harness := (true, "0ac2d76b65f9c13c398faa0196ba64f902620fc4025fadfccdb2e4307be38cf7"), looks := false }, kinds := [], alts := [], laidByText := true, laidKinds := [.data, .pinned], laidTests := true, laidLooks := .later }
def DateUnlikeCardSaid : Prop := Claim7.holds Tryd.pinned (.plain (OpenSpec.ofChange dateUnlikeSpec)) dateUnlikeCard

/-- THE TIED CARD OF 'posthornlaw20.DateWeeks'. -/
def dateWeeksCard : Claim7 := { stood := { row := dateWeeksRow, standIns := [], harness := (true, "0ac2d76b65f9c13c398faa0196ba64f902620fc4025fadfccdb2e4307be38cf7"), looks := false }, kinds := [], alts := [], laidByText := true, laidKinds := [.data, .pinned], laidTests := true, laidLooks := .later }
def DateWeeksCardSaid : Prop := Claim7.holds Tryd.pinned (.plain (OpenSpec.ofChange dateWeeksSpec)) dateWeeksCard

/-- THE SECOND FORM's CARD OF 'posthornlaw20.DatePrints'. -/
def datePrintsUptoCard : Claim7 := { stood := { row := datePrintsUptoRow, standIns := [], harness := (true, "0ac2d76b65f9c13c398faa0196ba64f902620fc4025fadfccdb2e4307be38cf7"), looks := false }, kinds := [], alts := [], laidByText := true, laidKinds := [.data, .pinned], laidTests := true, laidLooks := .later }
def DatePrintsUptoCardSaid : Prop := Claim7.holds Tryd.pinned (.plain (OpenSpec.upto datePrintsSpec)) datePrintsUptoCard

/-- THE SECOND FORM's CARD OF 'posthornlaw20.DateParses'. -/
def dateParsesUptoCard : Claim7 := { stood := { row := dateParsesUptoRow, standIns := [], harness := (true, "0ac2d76b65f9c13c398faa0196ba64f902620fc4025fadfccdb2e4307be38cf7"), looks := false }, kinds := [], alts := [], laidByText := true, laidKinds := [.data, .pinned], laidTests := true, laidLooks := .later }
def DateParsesUptoCardSaid : Prop := Claim7.holds Tryd.pinned (.plain (OpenSpec.upto dateParsesSpec)) dateParsesUptoCard

/-- THE SECOND FORM's CARD OF 'posthornlaw20.DateIds'. -/
def dateIdsUptoCard : Claim7 := { stood := { row := dateIdsUptoRow, standIns := [], harness := (true, "0ac2d76b65f9c13c398faa0196ba64f902620fc4025fadfccdb2e4307be38cf7"), looks := false }, kinds := [], alts := [], laidByText := true, laidKinds := [.data, .pinned], laidTests := true, laidLooks := .later }
def DateIdsUptoCardSaid : Prop := Claim7.holds Tryd.pinned (.plain (OpenSpec.upto dateIdsSpec)) dateIdsUptoCard

/-- THE SECOND FORM's CARD OF 'posthornlaw20.DateBack'. -/
def dateBackUptoCard : Claim7 := { stood := { row := dateBackUptoRow, standIns := [], harness := (true, "0ac2d76b65f9c13c398faa0196ba64f902620fc4025fadfccdb2e4307be38cf7"), looks := false }, kinds := [], alts := [], laidByText := true, laidKinds := [.data, .pinned], laidTests := true, laidLooks := .later }
def DateBackUptoCardSaid : Prop := Claim7.holds Tryd.pinned (.plain (OpenSpec.upto dateBackSpec)) dateBackUptoCard

/-- THE SECOND FORM's CARD OF 'posthornlaw20.DateSame'. -/
def dateSameUptoCard : Claim7 := { stood := { row := dateSameUptoRow, standIns := [], harness := (true, "0ac2d76b65f9c13c398faa0196ba64f902620fc4025fadfccdb2e4307be38cf7"), looks := false }, kinds := [], alts := [], laidByText := true, laidKinds := [.data, .pinned], laidTests := true, laidLooks := .later }
def DateSameUptoCardSaid : Prop := Claim7.holds Tryd.pinned (.plain (OpenSpec.upto dateSameSpec)) dateSameUptoCard

/-- THE SECOND FORM's CARD OF 'posthornlaw20.DateUnlike'. -/
def dateUnlikeUptoCard : Claim7 := { stood := { row := dateUnlikeUptoRow, standIns := [], harness := (true, "0ac2d76b65f9c13c398faa0196ba64f902620fc4025fadfccdb2e4307be38cf7"), looks := false }, kinds := [], alts := [], laidByText := true, laidKinds := [.data, .pinned], laidTests := true, laidLooks := .later }
def DateUnlikeUptoCardSaid : Prop := Claim7.holds Tryd.pinned (.plain (OpenSpec.upto dateUnlikeSpec)) dateUnlikeUptoCard

/-- THE SECOND FORM's CARD OF 'posthornlaw20.DateWeeks'. -/
def dateWeeksUptoCard : Claim7 := { stood := { row := dateWeeksUptoRow, standIns := [], harness := (true, "0ac2d76b65f9c13c398faa0196ba64f902620fc4025fadfccdb2e4307be38cf7"), looks := false }, kinds := [], alts := [], laidByText := true, laidKinds := [.data, .pinned], laidTests := true, laidLooks := .later }
def DateWeeksUptoCardSaid : Prop := Claim7.holds Tryd.pinned (.plain (OpenSpec.upto dateWeeksSpec)) dateWeeksUptoCard
end Rows
end Go.Proofs.YteblngbleioncaaDoor
