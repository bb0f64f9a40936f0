/-
  DERIVED. GIVEN WITH THE SEED: THE CARDS: each row of YtndhihlgpchanaaDoorRows.lean that lists a variable, with what it lists TIED to the program's text (the seventh form; the later family's looks); each row that meets fmt, with fmt's text TOLD by the authors' own Lean function (tested against real Go, not proved from fmt's source: count such statements apart). THE CARD IS WHAT COUNTS. Prove the row's statement (the work); the ties are given (YtndhihlgpchanaaDoorTie.lean); close each card by the builder's one call (the guide's Derived/Test/ToyasCard.lean, 'card_holds'). Laid BY PROGRAM, IN A SANDBOX (cutbox-door.mjs). By AI agents, Wed Nov 11 2026. No macro, syntax, notation, axiom, sorry.
-/
import Derived.Test.YtndhihlgpchanaaDoorRows
import GoSem.ClaimSeven
namespace Go.Proofs.YtndhihlgpchanaaDoor
namespace Rows

/-- THE TIED CARD OF 'posthornlaw07.AddrNormal'. -/
def addrNormalCard : Claim7 := { stood := { row := addrNormalRow, standIns := [], harness := (true, "dc9fc88949faed0bfbc1273e66e3fad9a7d14ce3dd4d22f93c1199433db7fbbf"), looks := false }, kinds := [], alts := [], laidByText := true, laidKinds := [.data, .pinned], laidTests := true, laidLooks := .later }
def AddrNormalCardSaid : Prop := Claim7.holds Tryd.pinned (.plain (OpenSpec.ofChange addrNormalSpec)) addrNormalCard

/-- THE TIED CARD OF 'posthornlaw07.AddrBack'. -/
def addrBackCard : Claim7 := { stood := { row := addrBackRow, standIns := [], harness := (true, "dc9fc88949faed0bfbc1273e66e3fad9a7d14ce3dd4d22f93c1199433db7fbbf"), looks := false }, kinds := [], alts := [], laidByText := true, laidKinds := [.data, .pinned], laidTests := true, laidLooks := .later }
def AddrBackCardSaid : Prop := Claim7.holds Tryd.pinned (.plain (OpenSpec.ofChange addrBackSpec)) addrBackCard

/-- THE TIED CARD OF 'posthornlaw07.AddrRight'. -/
def addrRightCard : Claim7 := { stood := { row := addrRightRow, standIns := [], harness := (true, "dc9fc88949faed0bfbc1273e66e3fad9a7d14ce3dd4d22f93c1199433db7fbbf"), looks := false }, kinds := [], alts := [], laidByText := true, laidKinds := [.data, .pinned], laidTests := true, laidLooks := .later }
def AddrRightCardSaid : Prop := Claim7.holds Tryd.pinned (.plain (OpenSpec.ofChange addrRightSpec)) addrRightCard

/-- THE TIED CARD OF 'posthornlaw07.AddrJoins'. -/
def addrJoinsCard : Claim7 := { stood := { row := addrJoinsRow, standIns := [], harness := (true, "dc9fc88949faed0bfbc1273e66e3fad9a7d14ce3dd4d22f93c1199433db7fbbf"), looks := false }, kinds := [], alts := [], laidByText := true, laidKinds := [.data, .pinned], laidTests := true, laidLooks := .later }
def AddrJoinsCardSaid : Prop := Claim7.holds Tryd.pinned (.plain (OpenSpec.ofChange addrJoinsSpec)) addrJoinsCard

/-- THE SECOND FORM's CARD OF 'posthornlaw07.AddrNormal'. -/
def addrNormalUptoCard : Claim7 := { stood := { row := addrNormalUptoRow, standIns := [], harness := (true, "dc9fc88949faed0bfbc1273e66e3fad9a7d14ce3dd4d22f93c1199433db7fbbf"), looks := false }, kinds := [], alts := [], laidByText := true, laidKinds := [.data, .pinned], laidTests := true, laidLooks := .later }
def AddrNormalUptoCardSaid : Prop := Claim7.holds Tryd.pinned (.plain (OpenSpec.upto addrNormalSpec)) addrNormalUptoCard

/-- THE SECOND FORM's CARD OF 'posthornlaw07.AddrBack'. -/
def addrBackUptoCard : Claim7 := { stood := { row := addrBackUptoRow, standIns := [], harness := (true, "dc9fc88949faed0bfbc1273e66e3fad9a7d14ce3dd4d22f93c1199433db7fbbf"), looks := false }, kinds := [], alts := [], laidByText := true, laidKinds := [.data, .pinned], laidTests := true, laidLooks := .later }
def AddrBackUptoCardSaid : Prop := Claim7.holds Tryd.pinned (.plain (OpenSpec.upto addrBackSpec)) addrBackUptoCard

/-- THE SECOND FORM's CARD OF 'posthornlaw07.AddrRight'. -/
def addrRightUptoCard : Claim7 := { stood := { row := addrRightUptoRow, standIns := [], harness := (true, "dc9fc88949faed0bfbc1273e66e3fad9a7d14ce3dd4d22f93c1199433db7fbbf"), looks := false }, kinds := [], alts := [], laidByText := true, laidKinds := [.data, .pinned], laidTests := true, laidLooks := .later }
def AddrRightUptoCardSaid : Prop := Claim7.holds Tryd.pinned (.plain (OpenSpec.upto addrRightSpec)) addrRightUptoCard

/-- THE SECOND FORM's CARD OF 'posthornlaw07.AddrJoins'. -/
def addrJoinsUptoCard : Claim7 := { stood := { row := addrJoinsUptoRow, standIns := [], harness := (true, "dc9fc88949faed0bfbc1273e66e3fad9a7d14ce3dd4d22f93c1199433db7fbbf"), looks := false }, kinds := [], alts := [], laidByText := true, laidKinds := [.data, .pinned], laidTests := true, laidLooks := .later }
def AddrJoinsUptoCardSaid : Prop := Claim7.holds Tryd.pinned (.plain (OpenSpec.upto addrJoinsSpec)) addrJoinsUptoCard
end Rows
end Go.Proofs.YtndhihlgpchanaaDoor
