/-
  NARROWER THAN 'FOR EVERY INPUT', by the rows' own cells (each row's printed sentence says how): RulesChecks: laid · RulesOrder: laid · RulesRows: laid · RulesSender: laid · RulesOthers: laid · RulesSends: laid.
  DERIVED. THE GIVEN ROWS OF THIS SEAT. 6 by the template 'for every input the law returns true; each argument reads behind the call as it read before'; 0 by the template 'total and deterministic' (their statements: YtomocanaidhnlaaDoorTotals.lean).
  GIVEN WITH THE SEED: the statements are not yours to turn. If you find one false, say at which input.
  Laid BY PROGRAM, IN A SANDBOX (cutbox-rows.mjs): the forced cells as the released guide's own fill.sh prints them over the translation fd8697be904420f5… (all of the seat's roots in one cut). By AI agents, Wed Nov 11 2026. No macro, syntax, notation, axiom, sorry.
-/
import Derived.Test.YtomocanaidhnlaaDoorChecked
import GoSem.PinnedTables
import GoSem.Claim
import GoSem.ClaimJoined
import GoSem.ClaimMapViews
import Derived.JoinedTies
import Derived.KernelRfl
namespace Go.Proofs.YtomocanaidhnlaaDoor
/- THE CELL 'sum', in the pinned program and in every row, IS THE sha256 OF THE DUMP (.gsa) THAT YtomocanaidhnlaaDoorProg.lean LOADS. Nothing in Lean hashes anything: it is a label: what it is worth is what the hold of that sum in a sandbox is worth. -/
noncomputable def Tryd.pinned : Pinned := { name := "ytomocanaidhnlaadoor", sum := "fd8697be904420f5a7df2ac24fc9cbf48cdbc5a9a96a7ba43bbad693f67595c4", checked := Tryd.checked }
namespace Rows
def none {H : Type} : Left H := { results := [], args := [] }

/- WHAT THE LISTED PACKAGE-LEVEL VARIABLES READ AS WHEN THE CALL BEGINS. Each datum BY PROGRAM (the guide's laid-datum.mjs) off the statement by which the dump's own 'gosem.cut.vars' lays the variable. In a bare row this is a premise. The card (YtomocanaidhnlaaDoorCards.lean) ties it to the program's text. -/
def laid_unicode_utf8_acceptRanges {H : Type} : DataW H := .agg [.agg [.lit (.int .u8 128), .lit (.int .u8 191)], .agg [.lit (.int .u8 160), .lit (.int .u8 191)], .agg [.lit (.int .u8 128), .lit (.int .u8 159)], .agg [.lit (.int .u8 144), .lit (.int .u8 191)], .agg [.lit (.int .u8 128), .lit (.int .u8 143)], .agg [.lit (.int .u8 0), .lit (.int .u8 0)], .agg [.lit (.int .u8 0), .lit (.int .u8 0)], .agg [.lit (.int .u8 0), .lit (.int .u8 0)], .agg [.lit (.int .u8 0), .lit (.int .u8 0)], .agg [.lit (.int .u8 0), .lit (.int .u8 0)], .agg [.lit (.int .u8 0), .lit (.int .u8 0)], .agg [.lit (.int .u8 0), .lit (.int .u8 0)], .agg [.lit (.int .u8 0), .lit (.int .u8 0)], .agg [.lit (.int .u8 0), .lit (.int .u8 0)], .agg [.lit (.int .u8 0), .lit (.int .u8 0)], .agg [.lit (.int .u8 0), .lit (.int .u8 0)]]
/-- One of Go's own tables, pinned by name: the form's constant. -/
def laid_unicode_utf8_first : DataW Unit := Go.Pinned.utf8First

/-- 'posthornlaw14.RulesChecks': WHATEVER THE INPUT: true; the input reads as it did. -/
def rulesChecksSpec : ChangeSpec := { name := "rulesChecks", fn := fun _ => fun
  | [d1, d2] => { results := [.lit (.bool true)], args := [d1, d2] }
  | _ => none }
def rulesChecksRow : OpenClaim := { program := "ytomocanaidhnlaadoor", sum := "fd8697be904420f5a7df2ac24fc9cbf48cdbc5a9a96a7ba43bbad693f67595c4", func := "posthorn/posthornlaw14.RulesChecks", spec := "rulesChecks", inPlace := ["internal/bytealg.IndexByteString", "internal/bytealg.IndexString", "internal/bytealg.CountString"], unfollowed := true, recurses := true, named := ["internal/bytealg.MaxLen", "unicode/utf8.first", "unicode/utf8.acceptRanges"], apart := false, laid := [("unicode/utf8.acceptRanges", laid_unicode_utf8_acceptRanges), ("unicode/utf8.first", laid_unicode_utf8_first)] }
def RulesChecksSaid : Prop := rulesChecksRow.holds Tryd.pinned (OpenSpec.ofChange rulesChecksSpec)

/-- ITS FALSE NEIGHBOUR: 'it returns false'. Refute it at one input. -/
def rulesChecksWrong : ChangeSpec := { name := "rulesChecks", fn := fun _ => fun
  | [d1, d2] => { results := [.lit (.bool false)], args := [d1, d2] }
  | _ => none }
def RulesChecksWrongFalsely : Prop := rulesChecksRow.holds Tryd.pinned (OpenSpec.ofChange rulesChecksWrong)

/-- 'posthornlaw14.RulesOrder': WHATEVER THE INPUT: true; the input reads as it did. -/
def rulesOrderSpec : ChangeSpec := { name := "rulesOrder", fn := fun _ => fun
  | [d1, d2, d3] => { results := [.lit (.bool true)], args := [d1, d2, d3] }
  | _ => none }
def rulesOrderRow : OpenClaim := { program := "ytomocanaidhnlaadoor", sum := "fd8697be904420f5a7df2ac24fc9cbf48cdbc5a9a96a7ba43bbad693f67595c4", func := "posthorn/posthornlaw14.RulesOrder", spec := "rulesOrder", inPlace := ["internal/bytealg.IndexByteString", "internal/bytealg.IndexString", "internal/bytealg.CountString"], unfollowed := true, recurses := true, named := ["internal/bytealg.MaxLen", "unicode/utf8.first", "unicode/utf8.acceptRanges"], apart := false, laid := [("unicode/utf8.acceptRanges", laid_unicode_utf8_acceptRanges), ("unicode/utf8.first", laid_unicode_utf8_first)] }
def RulesOrderSaid : Prop := rulesOrderRow.holds Tryd.pinned (OpenSpec.ofChange rulesOrderSpec)

/-- ITS FALSE NEIGHBOUR: 'it returns false'. Refute it at one input. -/
def rulesOrderWrong : ChangeSpec := { name := "rulesOrder", fn := fun _ => fun
  | [d1, d2, d3] => { results := [.lit (.bool false)], args := [d1, d2, d3] }
  | _ => none }
def RulesOrderWrongFalsely : Prop := rulesOrderRow.holds Tryd.pinned (OpenSpec.ofChange rulesOrderWrong)

/-- 'posthornlaw14.RulesRows': WHATEVER THE INPUT: true; the input reads as it did. -/
def rulesRowsSpec : ChangeSpec := { name := "rulesRows", fn := fun _ => fun
  | [d] => { results := [.lit (.bool true)], args := [d] }
  | _ => none }
def rulesRowsRow : OpenClaim := { program := "ytomocanaidhnlaadoor", sum := "fd8697be904420f5a7df2ac24fc9cbf48cdbc5a9a96a7ba43bbad693f67595c4", func := "posthorn/posthornlaw14.RulesRows", spec := "rulesRows", inPlace := ["internal/bytealg.IndexByteString", "internal/bytealg.IndexString", "internal/bytealg.CountString"], unfollowed := true, recurses := true, named := ["internal/bytealg.MaxLen", "unicode/utf8.first", "unicode/utf8.acceptRanges"], apart := false, laid := [("unicode/utf8.acceptRanges", laid_unicode_utf8_acceptRanges), ("unicode/utf8.first", laid_unicode_utf8_first)] }
def RulesRowsSaid : Prop := rulesRowsRow.holds Tryd.pinned (OpenSpec.ofChange rulesRowsSpec)

/-- ITS FALSE NEIGHBOUR: 'it returns false'. Refute it at one input. -/
def rulesRowsWrong : ChangeSpec := { name := "rulesRows", fn := fun _ => fun
  | [d] => { results := [.lit (.bool false)], args := [d] }
  | _ => none }
def RulesRowsWrongFalsely : Prop := rulesRowsRow.holds Tryd.pinned (OpenSpec.ofChange rulesRowsWrong)

/-- 'posthornlaw14.RulesSender': WHATEVER THE INPUT: true; the input reads as it did. -/
def rulesSenderSpec : ChangeSpec := { name := "rulesSender", fn := fun _ => fun
  | [d] => { results := [.lit (.bool true)], args := [d] }
  | _ => none }
def rulesSenderRow : OpenClaim := { program := "ytomocanaidhnlaadoor", sum := "fd8697be904420f5a7df2ac24fc9cbf48cdbc5a9a96a7ba43bbad693f67595c4", func := "posthorn/posthornlaw14.RulesSender", spec := "rulesSender", inPlace := ["internal/bytealg.IndexByteString", "internal/bytealg.IndexString", "internal/bytealg.CountString"], unfollowed := true, recurses := true, named := ["internal/bytealg.MaxLen", "unicode/utf8.first", "unicode/utf8.acceptRanges"], apart := false, laid := [("unicode/utf8.acceptRanges", laid_unicode_utf8_acceptRanges), ("unicode/utf8.first", laid_unicode_utf8_first)] }
def RulesSenderSaid : Prop := rulesSenderRow.holds Tryd.pinned (OpenSpec.ofChange rulesSenderSpec)

/-- ITS FALSE NEIGHBOUR: 'it returns false'. Refute it at one input. -/
def rulesSenderWrong : ChangeSpec := { name := "rulesSender", fn := fun _ => fun
  | [d] => { results := [.lit (.bool false)], args := [d] }
  | _ => none }
def RulesSenderWrongFalsely : Prop := rulesSenderRow.holds Tryd.pinned (OpenSpec.ofChange rulesSenderWrong)

/-- 'posthornlaw14.RulesOthers': WHATEVER THE INPUT: true; the input reads as it did. -/
def rulesOthersSpec : ChangeSpec := { name := "rulesOthers", fn := fun _ => fun
  | [d1, d2] => { results := [.lit (.bool true)], args := [d1, d2] }
  | _ => none }
def rulesOthersRow : OpenClaim := { program := "ytomocanaidhnlaadoor", sum := "fd8697be904420f5a7df2ac24fc9cbf48cdbc5a9a96a7ba43bbad693f67595c4", func := "posthorn/posthornlaw14.RulesOthers", spec := "rulesOthers", inPlace := ["internal/bytealg.IndexByteString", "internal/bytealg.IndexString", "internal/bytealg.CountString"], unfollowed := true, recurses := true, named := ["internal/bytealg.MaxLen", "unicode/utf8.first", "unicode/utf8.acceptRanges"], apart := false, laid := [("unicode/utf8.acceptRanges", laid_unicode_utf8_acceptRanges), ("unicode/utf8.first", laid_unicode_utf8_first)] }
def RulesOthersSaid : Prop := rulesOthersRow.holds Tryd.pinned (OpenSpec.ofChange rulesOthersSpec)

/-- ITS FALSE NEIGHBOUR: 'it returns false'. Refute it at one input. -/
def rulesOthersWrong : ChangeSpec := { name := "rulesOthers", fn := fun _ => fun
  | [d1, d2] => { results := [.lit (.bool false)], args := [d1, d2] }
  | _ => none }
def RulesOthersWrongFalsely : Prop := rulesOthersRow.holds Tryd.pinned (OpenSpec.ofChange rulesOthersWrong)

/-- 'posthornlaw14.RulesSends': WHATEVER THE INPUT: true; the input reads as it did. -/
def rulesSendsSpec : ChangeSpec := { name := "rulesSends", fn := fun _ => fun
  | [d1, d2] => { results := [.lit (.bool true)], args := [d1, d2] }
  | _ => none }
def rulesSendsRow : OpenClaim := { program := "ytomocanaidhnlaadoor", sum := "fd8697be904420f5a7df2ac24fc9cbf48cdbc5a9a96a7ba43bbad693f67595c4", func := "posthorn/posthornlaw14.RulesSends", spec := "rulesSends", inPlace := ["internal/bytealg.IndexByteString", "internal/bytealg.IndexString", "internal/bytealg.CountString"], unfollowed := true, recurses := true, named := ["internal/bytealg.MaxLen", "unicode/utf8.first", "unicode/utf8.acceptRanges"], apart := false, laid := [("unicode/utf8.acceptRanges", laid_unicode_utf8_acceptRanges), ("unicode/utf8.first", laid_unicode_utf8_first)] }
def RulesSendsSaid : Prop := rulesSendsRow.holds Tryd.pinned (OpenSpec.ofChange rulesSendsSpec)

/-- ITS FALSE NEIGHBOUR: 'it returns false'. Refute it at one input. -/
def rulesSendsWrong : ChangeSpec := { name := "rulesSends", fn := fun _ => fun
  | [d1, d2] => { results := [.lit (.bool false)], args := [d1, d2] }
  | _ => none }
def RulesSendsWrongFalsely : Prop := rulesSendsRow.holds Tryd.pinned (OpenSpec.ofChange rulesSendsWrong)

/- THE SECOND FORM. 'bulk': how many values and letters a reading holds, each counted each time it is reached (what is shared counts as often as it is met; a slice's spare places count too). A statement '..UptoSaid' is the law's where the arguments, and the package variables that the reading takes, are together of bulk at most 1048576: NARROWER than '..Said'. Prove '..Said' where nothing that the law and all that it calls make is longer than what came in: it says more and counts as full. Else prove '..UptoSaid'. A law counts once. -/
mutual
def uptoBulk {H : Type} : DataW H → Nat
  | .lit (.string bytes) => bytes.length + 1
  | .lit _ => 1
  | .nil => 1
  | .ptr d => uptoBulk d + 1
  | .slice elems spare => uptoBulkAll elems + uptoBulkAll spare + 1
  | .agg parts => uptoBulkAll parts + 1
  | .iface _ d => uptoBulk d + 1
  | .map entries => uptoBulkEntries entries + 1
  | .held _ => 1
def uptoBulkAll {H : Type} : List (DataW H) → Nat
  | [] => 0
  | d :: r => uptoBulk d + uptoBulkAll r
def uptoBulkEntries {H : Type} : List (Lit × DataW H) → Nat
  | [] => 0
  | x :: r => uptoBulkEntry x + uptoBulkEntries r
def uptoBulkEntry {H : Type} : Lit × DataW H → Nat
  | (.string bytes, d) => bytes.length + uptoBulk d + 1
  | (_, d) => uptoBulk d + 1
 end
def uptoSmall : (H : Type) → List (DataW H) → Bool := fun _ ds => decide (uptoBulkAll ds ≤ 1048576)
def OpenSpec.upto (s : _root_.Go.ChangeSpec) : _root_.Go.OpenSpec := { _root_.Go.OpenSpec.ofChange s with cond := some uptoSmall }

/-- 'posthornlaw14.RulesChecks', WHERE WHAT IT READS IS OF BULK AT MOST 1048576: true; the input reads as it did. -/
def rulesChecksUptoRow : OpenClaim := { program := "ytomocanaidhnlaadoor", sum := "fd8697be904420f5a7df2ac24fc9cbf48cdbc5a9a96a7ba43bbad693f67595c4", func := "posthorn/posthornlaw14.RulesChecks", spec := "rulesChecks", inPlace := ["internal/bytealg.IndexByteString", "internal/bytealg.IndexString", "internal/bytealg.CountString"], unfollowed := true, recurses := true, named := ["internal/bytealg.MaxLen", "unicode/utf8.first", "unicode/utf8.acceptRanges"], apart := false, laid := [("unicode/utf8.acceptRanges", laid_unicode_utf8_acceptRanges), ("unicode/utf8.first", laid_unicode_utf8_first)], narrowed := true }
def RulesChecksUptoSaid : Prop := rulesChecksUptoRow.holds Tryd.pinned (OpenSpec.upto rulesChecksSpec)

/-- 'posthornlaw14.RulesOrder', WHERE WHAT IT READS IS OF BULK AT MOST 1048576: true; the input reads as it did. -/
def rulesOrderUptoRow : OpenClaim := { program := "ytomocanaidhnlaadoor", sum := "fd8697be904420f5a7df2ac24fc9cbf48cdbc5a9a96a7ba43bbad693f67595c4", func := "posthorn/posthornlaw14.RulesOrder", spec := "rulesOrder", inPlace := ["internal/bytealg.IndexByteString", "internal/bytealg.IndexString", "internal/bytealg.CountString"], unfollowed := true, recurses := true, named := ["internal/bytealg.MaxLen", "unicode/utf8.first", "unicode/utf8.acceptRanges"], apart := false, laid := [("unicode/utf8.acceptRanges", laid_unicode_utf8_acceptRanges), ("unicode/utf8.first", laid_unicode_utf8_first)], narrowed := true }
def RulesOrderUptoSaid : Prop := rulesOrderUptoRow.holds Tryd.pinned (OpenSpec.upto rulesOrderSpec)

/-- 'posthornlaw14.RulesRows', WHERE WHAT IT READS IS OF BULK AT MOST 1048576: true; the input reads as it did. -/
def rulesRowsUptoRow : OpenClaim := { program := "ytomocanaidhnlaadoor", sum := "fd8697be904420f5a7df2ac24fc9cbf48cdbc5a9a96a7ba43bbad693f67595c4", func := "posthorn/posthornlaw14.RulesRows", spec := "rulesRows", inPlace := ["internal/bytealg.IndexByteString", "internal/bytealg.IndexString", "internal/bytealg.CountString"], unfollowed := true, recurses := true, named := ["internal/bytealg.MaxLen", "unicode/utf8.first", "unicode/utf8.acceptRanges"], apart := false, laid := [("unicode/utf8.acceptRanges", laid_unicode_utf8_acceptRanges), ("unicode/utf8.first", laid_unicode_utf8_first)], narrowed := true }
def RulesRowsUptoSaid : Prop := rulesRowsUptoRow.holds Tryd.pinned (OpenSpec.upto rulesRowsSpec)

/-- 'posthornlaw14.RulesSender', WHERE WHAT IT READS IS OF BULK AT MOST 1048576: true; the input reads as it did. -/
def rulesSenderUptoRow : OpenClaim := { program := "ytomocanaidhnlaadoor", sum := "fd8697be904420f5a7df2ac24fc9cbf48cdbc5a9a96a7ba43bbad693f67595c4", func := "posthorn/posthornlaw14.RulesSender", spec := "rulesSender", inPlace := ["internal/bytealg.IndexByteString", "internal/bytealg.IndexString", "internal/bytealg.CountString"], unfollowed := true, recurses := true, named := ["internal/bytealg.MaxLen", "unicode/utf8.first", "unicode/utf8.acceptRanges"], apart := false, laid := [("unicode/utf8.acceptRanges", laid_unicode_utf8_acceptRanges), ("unicode/utf8.first", laid_unicode_utf8_first)], narrowed := true }
def RulesSenderUptoSaid : Prop := rulesSenderUptoRow.holds Tryd.pinned (OpenSpec.upto rulesSenderSpec)

/-- 'posthornlaw14.RulesOthers', WHERE WHAT IT READS IS OF BULK AT MOST 1048576: true; the input reads as it did. -/
def rulesOthersUptoRow : OpenClaim := { program := "ytomocanaidhnlaadoor", sum := "fd8697be904420f5a7df2ac24fc9cbf48cdbc5a9a96a7ba43bbad693f67595c4", func := "posthorn/posthornlaw14.RulesOthers", spec := "rulesOthers", inPlace := ["internal/bytealg.IndexByteString", "internal/bytealg.IndexString", "internal/bytealg.CountString"], unfollowed := true, recurses := true, named := ["internal/bytealg.MaxLen", "unicode/utf8.first", "unicode/utf8.acceptRanges"], apart := false, laid := [("unicode/utf8.acceptRanges", laid_unicode_utf8_acceptRanges), ("unicode/utf8.first", laid_unicode_utf8_first)], narrowed := true }
def RulesOthersUptoSaid : Prop := rulesOthersUptoRow.holds Tryd.pinned (OpenSpec.upto rulesOthersSpec)

/-- 'posthornlaw14.RulesSends', WHERE WHAT IT READS IS OF BULK AT MOST 1048576: true; the input reads as it did. -/
def rulesSendsUptoRow : OpenClaim := { program := "ytomocanaidhnlaadoor", sum := "fd8697be904420f5a7df2ac24fc9cbf48cdbc5a9a96a7ba43bbad693f67595c4", func := "posthorn/posthornlaw14.RulesSends", spec := "rulesSends", inPlace := ["internal/bytealg.IndexByteString", "internal/bytealg.IndexString", "internal/bytealg.CountString"], unfollowed := true, recurses := true, named := ["internal/bytealg.MaxLen", "unicode/utf8.first", "unicode/utf8.acceptRanges"], apart := false, laid := [("unicode/utf8.acceptRanges", laid_unicode_utf8_acceptRanges), ("unicode/utf8.first", laid_unicode_utf8_first)], narrowed := true }
def RulesSendsUptoSaid : Prop := rulesSendsUptoRow.holds Tryd.pinned (OpenSpec.upto rulesSendsSpec)

end Rows
end Go.Proofs.YtomocanaidhnlaaDoor
