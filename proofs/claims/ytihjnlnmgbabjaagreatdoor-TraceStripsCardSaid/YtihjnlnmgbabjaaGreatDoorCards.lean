/-
  DERIVED. GIVEN WITH THE SEED: THE CARDS: each row of YtihjnlnmgbabjaaGreatDoorRows.lean that lists a variable, with what it lists TIED to the program's text (the seventh form; the later family's looks); each row that meets fmt, with fmt's text TOLD by the authors' own Lean function (tested against real Go, not proved from fmt's source: count such statements apart). THE CARD IS WHAT COUNTS. Prove the row's statement (the work); the ties are given (YtihjnlnmgbabjaaGreatDoorTie.lean); close each card by the builder's one call (the guide's Derived/Test/ToyasCard.lean, 'card_holds'). Laid BY PROGRAM, IN A SANDBOX (cutbox-door.mjs). By AI agents, Wed Nov 11 2026. No macro, syntax, notation, axiom, sorry.
-/
import Derived.Test.YtihjnlnmgbabjaaGreatDoorRows
import GoSem.ClaimSeven
namespace Go.Proofs.YtihjnlnmgbabjaaGreatDoor
namespace Rows

/-- THE TIED CARD OF 'posthornlaw25.TraceTells'. -/
def traceTellsCard : Claim7 := { stood := { row := traceTellsRow, standIns := [], harness := (true, "ac8d85de1718b92b4680db3c83323620f47926c2be2c8d8e754390122da0cedd"), looks := false }, kinds := [], alts := [], laidByText := true, laidKinds := [.data, .pinned], laidTests := true, laidLooks := .later }
def TraceTellsCardSaid : Prop := Claim7.holds Tryz.pinned (.plain (OpenSpec.ofChange traceTellsSpec)) traceTellsCard

/-- THE TIED CARD OF 'posthornlaw25.TraceBack'. -/
def traceBackCard : Claim7 := { stood := { row := traceBackRow, standIns := [], harness := (true, "ac8d85de1718b92b4680db3c83323620f47926c2be2c8d8e754390122da0cedd"), looks := false }, kinds := [], alts := [], laidByText := true, laidKinds := [.data, .pinned], laidTests := true, laidLooks := .later }
def TraceBackCardSaid : Prop := Claim7.holds Tryz.pinned (.plain (OpenSpec.ofChange traceBackSpec)) traceBackCard

/-- THE TIED CARD OF 'posthornlaw25.TraceFirst'. -/
def traceFirstCard : Claim7 := { stood := { row := traceFirstRow, standIns := [], harness := (true, "ac8d85de1718b92b4680db3c83323620f47926c2be2c8d8e754390122da0cedd"), looks := false }, kinds := [], alts := [], laidByText := true, laidKinds := [.data, .pinned], laidTests := true, laidLooks := .later }
def TraceFirstCardSaid : Prop := Claim7.holds Tryz.pinned (.plain (OpenSpec.ofChange traceFirstSpec)) traceFirstCard

/-- THE TIED CARD OF 'posthornlaw25.TraceRound'. -/
def traceRoundCard : Claim7 := { stood := { row := traceRoundRow, standIns := [], harness := (true, "ac8d85de1718b92b4680db3c83323620f47926c2be2c8d8e754390122da0cedd"), looks := false }, kinds := [], alts := [], laidByText := true, laidKinds := [.data, .pinned], laidTests := true, laidLooks := .later }
def TraceRoundCardSaid : Prop := Claim7.holds Tryz.pinned (.plain (OpenSpec.ofChange traceRoundSpec)) traceRoundCard

/-- THE TIED CARD OF 'posthornlaw25.TraceStamps'. -/
def traceStampsCard : Claim7 := { stood := { row := traceStampsRow, standIns := [], harness := (true, "ac8d85de1718b92b4680db3c83323620f47926c2be2c8d8e754390122da0cedd"), looks := false }, kinds := [], alts := [], laidByText := true, laidKinds := [.data, .pinned], laidTests := true, laidLooks := .later }
def TraceStampsCardSaid : Prop := Claim7.holds Tryz.pinned (.plain (OpenSpec.ofChange traceStampsSpec)) traceStampsCard

/-- THE TIED CARD OF 'posthornlaw25.TraceStrips'. -/
def traceStripsCard : Claim7 := { stood := { row := traceStripsRow, standIns := [], harness := (true, "ac8d85de1718b92b4680db3c83323620f47926c2be2c8d8e754390122da0cedd"), looks := false }, kinds := [], alts := [], laidByText := true, laidKinds := [.data, .pinned], laidTests := true, laidLooks := .later }
def TraceStripsCardSaid : Prop := Claim7.holds Tryz.pinned (.plain (OpenSpec.ofChange traceStripsSpec)) traceStripsCard

/-- THE SECOND FORM's CARD OF 'posthornlaw25.TraceTells'. -/
def traceTellsUptoCard : Claim7 := { stood := { row := traceTellsUptoRow, standIns := [], harness := (true, "ac8d85de1718b92b4680db3c83323620f47926c2be2c8d8e754390122da0cedd"), looks := false }, kinds := [], alts := [], laidByText := true, laidKinds := [.data, .pinned], laidTests := true, laidLooks := .later }
def TraceTellsUptoCardSaid : Prop := Claim7.holds Tryz.pinned (.plain (OpenSpec.upto traceTellsSpec)) traceTellsUptoCard

/-- THE SECOND FORM's CARD OF 'posthornlaw25.TraceBack'. -/
def traceBackUptoCard : Claim7 := { stood := { row := traceBackUptoRow, standIns := [], harness := (true, "ac8d85de1718b92b4680db3c83323620f47926c2be2c8d8e754390122da0cedd"), looks := false }, kinds := [], alts := [], laidByText := true, laidKinds := [.data, .pinned], laidTests := true, laidLooks := .later }
def TraceBackUptoCardSaid : Prop := Claim7.holds Tryz.pinned (.plain (OpenSpec.upto traceBackSpec)) traceBackUptoCard

/-- THE SECOND FORM's CARD OF 'posthornlaw25.TraceFirst'. -/
def traceFirstUptoCard : Claim7 := { stood := { row := traceFirstUptoRow, standIns := [], harness := (true, "ac8d85de1718b92b4680db3c83323620f47926c2be2c8d8e754390122da0cedd"), looks := false }, kinds := [], alts := [], laidByText := true, laidKinds := [.data, .pinned], laidTests := true, laidLooks := .later }
def TraceFirstUptoCardSaid : Prop := Claim7.holds Tryz.pinned (.plain (OpenSpec.upto traceFirstSpec)) traceFirstUptoCard

/-- THE SECOND FORM's CARD OF 'posthornlaw25.TraceRound'. -/
def traceRoundUptoCard : Claim7 := { stood := { row := traceRoundUptoRow, standIns := [], harness := (true, "ac8d85de1718b92b4680db3c83323620f47926c2be2c8d8e754390122da0cedd"), looks := false }, kinds := [], alts := [], laidByText := true, laidKinds := [.data, .pinned], laidTests := true, laidLooks := .later }
def TraceRoundUptoCardSaid : Prop := Claim7.holds Tryz.pinned (.plain (OpenSpec.upto traceRoundSpec)) traceRoundUptoCard

/-- THE SECOND FORM's CARD OF 'posthornlaw25.TraceStamps'. -/
def traceStampsUptoCard : Claim7 := { stood := { row := traceStampsUptoRow, standIns := [], harness := (true, "ac8d85de1718b92b4680db3c83323620f47926c2be2c8d8e754390122da0cedd"), looks := false }, kinds := [], alts := [], laidByText := true, laidKinds := [.data, .pinned], laidTests := true, laidLooks := .later }
def TraceStampsUptoCardSaid : Prop := Claim7.holds Tryz.pinned (.plain (OpenSpec.upto traceStampsSpec)) traceStampsUptoCard

/-- THE SECOND FORM's CARD OF 'posthornlaw25.TraceStrips'. -/
def traceStripsUptoCard : Claim7 := { stood := { row := traceStripsUptoRow, standIns := [], harness := (true, "ac8d85de1718b92b4680db3c83323620f47926c2be2c8d8e754390122da0cedd"), looks := false }, kinds := [], alts := [], laidByText := true, laidKinds := [.data, .pinned], laidTests := true, laidLooks := .later }
def TraceStripsUptoCardSaid : Prop := Claim7.holds Tryz.pinned (.plain (OpenSpec.upto traceStripsSpec)) traceStripsUptoCard
end Rows
end Go.Proofs.YtihjnlnmgbabjaaGreatDoor
