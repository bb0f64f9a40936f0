/-
  DERIVED. GIVEN WITH THE SEED: THE CARDS: each row of YtomocanaidhnlaaDoorRows.lean that lists a variable, with what it lists TIED to the program's text (the seventh form; the later family's looks); each row that meets fmt, with fmt's text TOLD by the authors' own Lean function (tested against real Go, not proved from fmt's source: count such statements apart). THE CARD IS WHAT COUNTS. Prove the row's statement (the work); the ties are given (YtomocanaidhnlaaDoorTie.lean); close each card by the builder's one call (the guide's Derived/Test/ToyasCard.lean, 'card_holds'). Laid BY PROGRAM, IN A SANDBOX (cutbox-door.mjs). By AI agents, Wed Nov 11 2026. No macro, syntax, notation, axiom, sorry.
-/
import Derived.Test.YtomocanaidhnlaaDoorRows
import GoSem.ClaimSeven
namespace Go.Proofs.YtomocanaidhnlaaDoor
namespace Rows

/-- THE TIED CARD OF 'posthornlaw14.RulesChecks'. -/
def rulesChecksCard : Claim7 := { stood := { row := rulesChecksRow, standIns := [], harness := (true, "a4ec413643127ed1876828ecb6aec6dafc05d38945a85b7de532e375cb665185"), looks := false }, kinds := [], alts := [], laidByText := true, laidKinds := [.data, .pinned], laidTests := true, laidLooks := .later }
def RulesChecksCardSaid : Prop := Claim7.holds Tryd.pinned (.plain (OpenSpec.ofChange rulesChecksSpec)) rulesChecksCard

/-- THE TIED CARD OF 'posthornlaw14.RulesOrder'. -/
def rulesOrderCard : Claim7 := { stood := { row := rulesOrderRow, standIns := [], harness := (true, "a4ec413643127ed1876828ecb6aec6dafc05d38945a85b7de532e375cb665185"), looks := false }, kinds := [], alts := [], laidByText := true, laidKinds := [.data, .pinned], laidTests := true, laidLooks := .later }
def RulesOrderCardSaid : Prop := Claim7.holds Tryd.pinned (.plain (OpenSpec.ofChange rulesOrderSpec)) rulesOrderCard

/-- THE TIED CARD OF 'posthornlaw14.RulesRows'. -/
def rulesRowsCard : Claim7 := { stood := { row := rulesRowsRow, standIns := [], harness := (true, "a4ec413643127ed1876828ecb6aec6dafc05d38945a85b7de532e375cb665185"), looks := false }, kinds := [], alts := [], laidByText := true, laidKinds := [.data, .pinned], laidTests := true, laidLooks := .later }
def RulesRowsCardSaid : Prop := Claim7.holds Tryd.pinned (.plain (OpenSpec.ofChange rulesRowsSpec)) rulesRowsCard

/-- THE TIED CARD OF 'posthornlaw14.RulesSender'. -/
def rulesSenderCard : Claim7 := { stood := { row := rulesSenderRow, standIns := [], harness := (true, "a4ec413643127ed1876828ecb6aec6dafc05d38945a85b7de532e375cb665185"), looks := false }, kinds := [], alts := [], laidByText := true, laidKinds := [.data, .pinned], laidTests := true, laidLooks := .later }
def RulesSenderCardSaid : Prop := Claim7.holds Tryd.pinned (.plain (OpenSpec.ofChange rulesSenderSpec)) rulesSenderCard

/-- THE TIED CARD OF 'posthornlaw14.RulesOthers'. -/
def rulesOthersCard : Claim7 := { stood := { row := rulesOthersRow, standIns := [], harness := (true, "a4ec413643127ed1876828ecb6aec6dafc05d38945a85b7de532e375cb665185"), looks := false }, kinds := [], alts := [], laidByText := true, laidKinds := [.data, .pinned], laidTests := true, laidLooks := .later }
def RulesOthersCardSaid : Prop := Claim7.holds Tryd.pinned (.plain (OpenSpec.ofChange rulesOthersSpec)) rulesOthersCard

/-- THE TIED CARD OF 'posthornlaw14.RulesSends'. -/
def rulesSendsCard : Claim7 := { stood := { row := rulesSendsRow, standIns := [], harness := (true, "a4ec413643127ed1876828ecb6aec6dafc05d38945a85b7de532e375cb665185"), looks := false }, kinds := [], alts := [], laidByText := true, laidKinds := [.data, .pinned], laidTests := true, laidLooks := .later }
def RulesSendsCardSaid : Prop := Claim7.holds Tryd.pinned (.plain (OpenSpec.ofChange rulesSendsSpec)) rulesSendsCard

/-- THE SECOND FORM's CARD OF 'posthornlaw14.RulesChecks'. -/
def rulesChecksUptoCard : Claim7 := { stood := { row := rulesChecksUptoRow, standIns := [], harness := (true, "a4ec413643127ed1876828ecb6aec6dafc05d38945a85b7de532e375cb665185"), looks := false }, kinds := [], alts := [], laidByText := true, laidKinds := [.data, .pinned], laidTests := true, laidLooks := .later }
def RulesChecksUptoCardSaid : Prop := Claim7.holds Tryd.pinned (.plain (OpenSpec.upto rulesChecksSpec)) rulesChecksUptoCard

/-- THE SECOND FORM's CARD OF 'posthornlaw14.RulesOrder'. -/
def rulesOrderUptoCard : Claim7 := { stood := { row := rulesOrderUptoRow, standIns := [], harness := (true, "a4ec413643127ed1876828ecb6aec6dafc05d38945a85b7de532e375cb665185"), looks := false }, kinds := [], alts := [], laidByText := true, laidKinds := [.data, .pinned], laidTests := true, laidLooks := .later }
def RulesOrderUptoCardSaid : Prop := Claim7.holds Tryd.pinned (.plain (OpenSpec.upto rulesOrderSpec)) rulesOrderUptoCard

/-- THE SECOND FORM's CARD OF 'posthornlaw14.RulesRows'. -/
def rulesRowsUptoCard : Claim7 := { stood := { row := rulesRowsUptoRow, standIns := [], harness := (true, "a4ec413643127ed1876828ecb6aec6dafc05d38945a85b7de532e375cb665185"), looks := false }, kinds := [], alts := [], laidByText := true, laidKinds := [.data, .pinned], laidTests := true, laidLooks := .later }
def RulesRowsUptoCardSaid : Prop := Claim7.holds Tryd.pinned (.plain (OpenSpec.upto rulesRowsSpec)) rulesRowsUptoCard

/-- THE SECOND FORM's CARD OF 'posthornlaw14.RulesSender'. -/
def rulesSenderUptoCard : Claim7 := { stood := { row := rulesSenderUptoRow, standIns := [], harness := (true, "a4ec413643127ed1876828ecb6aec6dafc05d38945a85b7de532e375cb665185"), looks := false }, kinds := [], alts := [], laidByText := true, laidKinds := [.data, .pinned], laidTests := true, laidLooks := .later }
def RulesSenderUptoCardSaid : Prop := Claim7.holds Tryd.pinned (.plain (OpenSpec.upto rulesSenderSpec)) rulesSenderUptoCard

/-- THE SECOND FORM's CARD OF 'posthornlaw14.RulesOthers'. -/
def rulesOthersUptoCard : Claim7 := { stood := { row := rulesOthersUptoRow, standIns := [], harness := (true, "a4ec413643127ed1876828ecb6aec6dafc05d38945a85b7de532e375cb665185"), looks := false }, kinds := [], alts := [], laidByText := true, laidKinds := [.data, .pinned], laidTests := true, laidLooks := .later }
def RulesOthersUptoCardSaid : Prop := Claim7.holds Tryd.pinned (.plain (OpenSpec.upto rulesOthersSpec)) rulesOthersUptoCard

/-- THE SECOND FORM's CARD OF 'posthornlaw14.RulesSends'. -/
def rulesSendsUptoCard : Claim7 := { stood := { row := rulesSendsUptoRow, standIns := [], harness := (true, "a4ec413643127ed1876828ecb6aec6dafc05d38945a85b7de532e375cb665185"), looks := false }, kinds := [], alts := [], laidByText := true, laidKinds := [.data, .pinned], laidTests := true, laidLooks := .later }
def RulesSendsUptoCardSaid : Prop := Claim7.holds Tryd.pinned (.plain (OpenSpec.upto rulesSendsSpec)) rulesSendsUptoCard
end Rows
end Go.Proofs.YtomocanaidhnlaaDoor
