/-
  No cell of these rows narrows 'for every input' (looked for: loops, veiled, ifaces, maps, wideKeys, modest, calm, conditions, laid).
  DERIVED. THE GIVEN ROWS OF THIS SEAT. 4 by the template 'for every input the law returns true; each argument reads behind the call as it read before'; 0 by the template 'total and deterministic' (their statements: YtiiedcmkmnfdiaaTotals.lean).
  GIVEN WITH THE SEED: the statements are not yours to turn. If you find one false, say at which input.
  Laid BY PROGRAM, IN A SANDBOX (cutbox-rows.mjs): the forced cells as the released guide's own fill.sh prints them over the translation 5944c6899a9b8d66… (all of the seat's roots in one cut). By AI agents, Wed Nov 11 2026. No macro, syntax, notation, axiom, sorry.
-/
import Derived.Test.YtiiedcmkmnfdiaaChecked
import GoSem.Claim
import GoSem.ClaimJoined
import GoSem.ClaimMapViews
import Derived.JoinedTies
import Derived.KernelRfl
namespace Go.Proofs.Ytiiedcmkmnfdiaa
/- THE CELL 'sum', in the pinned program and in every row, IS THE sha256 OF THE DUMP (.gsa) THAT YtiiedcmkmnfdiaaProg.lean LOADS. Nothing in Lean hashes anything: it is a label: what it is worth is what the hold of that sum in a sandbox is worth. -/
noncomputable def Try.pinned : Pinned := { name := "ytiiedcmkmnfdiaa", sum := "5944c6899a9b8d6682ec12550dcbba5f822b70ed0ef049e232a19309b9b88599", checked := Try.checked }
namespace Rows
def none {H : Type} : Left H := { results := [], args := [] }

/-- 'posthornlaw10.SheetEscapes': WHATEVER THE INPUT: true; the input reads as it did. -/
def sheetEscapesSpec : ChangeSpec := { name := "sheetEscapes", fn := fun _ => fun
  | [d1, d2] => { results := [.lit (.bool true)], args := [d1, d2] }
  | _ => none }
def sheetEscapesRow : OpenClaim := { program := "ytiiedcmkmnfdiaa", sum := "5944c6899a9b8d6682ec12550dcbba5f822b70ed0ef049e232a19309b9b88599", func := "posthorn/posthornlaw10.SheetEscapes", spec := "sheetEscapes", inPlace := ["internal/bytealg.IndexByteString", "internal/bytealg.IndexString", "internal/abi.NoEscape"], named := ["internal/bytealg.MaxLen"], apart := false }
def SheetEscapesSaid : Prop := sheetEscapesRow.holds Try.pinned (OpenSpec.ofChange sheetEscapesSpec)

/-- ITS FALSE NEIGHBOUR: 'it returns false'. Refute it at one input. -/
def sheetEscapesWrong : ChangeSpec := { name := "sheetEscapes", fn := fun _ => fun
  | [d1, d2] => { results := [.lit (.bool false)], args := [d1, d2] }
  | _ => none }
def SheetEscapesWrongFalsely : Prop := sheetEscapesRow.holds Try.pinned (OpenSpec.ofChange sheetEscapesWrong)

/-- 'posthornlaw10.SheetTexts': WHATEVER THE INPUT: true; the input reads as it did. -/
def sheetTextsSpec : ChangeSpec := { name := "sheetTexts", fn := fun _ => fun
  | [d1, d2] => { results := [.lit (.bool true)], args := [d1, d2] }
  | _ => none }
def sheetTextsRow : OpenClaim := { program := "ytiiedcmkmnfdiaa", sum := "5944c6899a9b8d6682ec12550dcbba5f822b70ed0ef049e232a19309b9b88599", func := "posthorn/posthornlaw10.SheetTexts", spec := "sheetTexts", inPlace := ["internal/bytealg.IndexByteString", "internal/bytealg.IndexString", "internal/abi.NoEscape"], named := ["internal/bytealg.MaxLen"], apart := false }
def SheetTextsSaid : Prop := sheetTextsRow.holds Try.pinned (OpenSpec.ofChange sheetTextsSpec)

/-- ITS FALSE NEIGHBOUR: 'it returns false'. Refute it at one input. -/
def sheetTextsWrong : ChangeSpec := { name := "sheetTexts", fn := fun _ => fun
  | [d1, d2] => { results := [.lit (.bool false)], args := [d1, d2] }
  | _ => none }
def SheetTextsWrongFalsely : Prop := sheetTextsRow.holds Try.pinned (OpenSpec.ofChange sheetTextsWrong)

/-- 'posthornlaw10.SheetWrites': WHATEVER THE INPUT: true; the input reads as it did. -/
def sheetWritesSpec : ChangeSpec := { name := "sheetWrites", fn := fun _ => fun
  | [d] => { results := [.lit (.bool true)], args := [d] }
  | _ => none }
def sheetWritesRow : OpenClaim := { program := "ytiiedcmkmnfdiaa", sum := "5944c6899a9b8d6682ec12550dcbba5f822b70ed0ef049e232a19309b9b88599", func := "posthorn/posthornlaw10.SheetWrites", spec := "sheetWrites", inPlace := ["internal/bytealg.IndexByteString", "internal/bytealg.IndexString", "internal/abi.NoEscape"], named := ["internal/bytealg.MaxLen"], apart := false }
def SheetWritesSaid : Prop := sheetWritesRow.holds Try.pinned (OpenSpec.ofChange sheetWritesSpec)

/-- ITS FALSE NEIGHBOUR: 'it returns false'. Refute it at one input. -/
def sheetWritesWrong : ChangeSpec := { name := "sheetWrites", fn := fun _ => fun
  | [d] => { results := [.lit (.bool false)], args := [d] }
  | _ => none }
def SheetWritesWrongFalsely : Prop := sheetWritesRow.holds Try.pinned (OpenSpec.ofChange sheetWritesWrong)

/-- 'posthornlaw10.SheetFolds': WHATEVER THE INPUT: true; the input reads as it did. -/
def sheetFoldsSpec : ChangeSpec := { name := "sheetFolds", fn := fun _ => fun
  | [d] => { results := [.lit (.bool true)], args := [d] }
  | _ => none }
def sheetFoldsRow : OpenClaim := { program := "ytiiedcmkmnfdiaa", sum := "5944c6899a9b8d6682ec12550dcbba5f822b70ed0ef049e232a19309b9b88599", func := "posthorn/posthornlaw10.SheetFolds", spec := "sheetFolds", inPlace := ["internal/bytealg.IndexByteString", "internal/bytealg.IndexString", "internal/abi.NoEscape"], named := ["internal/bytealg.MaxLen"], apart := false }
def SheetFoldsSaid : Prop := sheetFoldsRow.holds Try.pinned (OpenSpec.ofChange sheetFoldsSpec)

/-- ITS FALSE NEIGHBOUR: 'it returns false'. Refute it at one input. -/
def sheetFoldsWrong : ChangeSpec := { name := "sheetFolds", fn := fun _ => fun
  | [d] => { results := [.lit (.bool false)], args := [d] }
  | _ => none }
def SheetFoldsWrongFalsely : Prop := sheetFoldsRow.holds Try.pinned (OpenSpec.ofChange sheetFoldsWrong)

/- THE SECOND FORM. 'bulk': how many values and letters a reading holds, each counted each time it is reached (what is shared counts as often as it is met; a slice's spare places count too). A statement '..UptoSaid' is the law's where the arguments, and the package variables that the reading takes, are together of bulk at most 1048576: NARROWER than '..Said'. Prove '..Said' where nothing that the law and all that it calls make is longer than what came in: it says more and counts as full. Else prove '..UptoSaid'. A law counts once. -/
mutual
def uptoBulk {H : Type} : DataW H → Nat
  | .lit (.string bytes) => bytes.length + 1
  | .lit _ => 1
  | .nil => 1
  | .ptr d => uptoBulk d + 1
  | .slice elems spare => uptoBulkAll elems + uptoBulkAll spare + 1
  | .agg parts => uptoBulkAll parts + 1
  | .iface _ d => uptoBulk d + 1
  | .map entries => uptoBulkEntries entries + 1
  | .held _ => 1
def uptoBulkAll {H : Type} : List (DataW H) → Nat
  | [] => 0
  | d :: r => uptoBulk d + uptoBulkAll r
def uptoBulkEntries {H : Type} : List (Lit × DataW H) → Nat
  | [] => 0
  | x :: r => uptoBulkEntry x + uptoBulkEntries r
def uptoBulkEntry {H : Type} : Lit × DataW H → Nat
  | (.string bytes, d) => bytes.length + uptoBulk d + 1
  | (_, d) => uptoBulk d + 1
 end
def uptoSmall : (H : Type) → List (DataW H) → Bool := fun _ ds => decide (uptoBulkAll ds ≤ 1048576)
def OpenSpec.upto (s : _root_.Go.ChangeSpec) : _root_.Go.OpenSpec := { _root_.Go.OpenSpec.ofChange s with cond := some uptoSmall }

/-- 'posthornlaw10.SheetEscapes', WHERE WHAT IT READS IS OF BULK AT MOST 1048576: true; the input reads as it did. -/
def sheetEscapesUptoRow : OpenClaim := { program := "ytiiedcmkmnfdiaa", sum := "5944c6899a9b8d6682ec12550dcbba5f822b70ed0ef049e232a19309b9b88599", func := "posthorn/posthornlaw10.SheetEscapes", spec := "sheetEscapes", inPlace := ["internal/bytealg.IndexByteString", "internal/bytealg.IndexString", "internal/abi.NoEscape"], named := ["internal/bytealg.MaxLen"], apart := false, narrowed := true }
def SheetEscapesUptoSaid : Prop := sheetEscapesUptoRow.holds Try.pinned (OpenSpec.upto sheetEscapesSpec)

/-- 'posthornlaw10.SheetTexts', WHERE WHAT IT READS IS OF BULK AT MOST 1048576: true; the input reads as it did. -/
def sheetTextsUptoRow : OpenClaim := { program := "ytiiedcmkmnfdiaa", sum := "5944c6899a9b8d6682ec12550dcbba5f822b70ed0ef049e232a19309b9b88599", func := "posthorn/posthornlaw10.SheetTexts", spec := "sheetTexts", inPlace := ["internal/bytealg.IndexByteString", "internal/bytealg.IndexString", "internal/abi.NoEscape"], named := ["internal/bytealg.MaxLen"], apart := false, narrowed := true }
def SheetTextsUptoSaid : Prop := sheetTextsUptoRow.holds Try.pinned (OpenSpec.upto sheetTextsSpec)

/-- 'posthornlaw10.SheetWrites', WHERE WHAT IT READS IS OF BULK AT MOST 1048576: true; the input reads as it did. -/
def sheetWritesUptoRow : OpenClaim := { program := "ytiiedcmkmnfdiaa", sum := "5944c6899a9b8d6682ec12550dcbba5f822b70ed0ef049e232a19309b9b88599", func := "posthorn/posthornlaw10.SheetWrites", spec := "sheetWrites", inPlace := ["internal/bytealg.IndexByteString", "internal/bytealg.IndexString", "internal/abi.NoEscape"], named := ["internal/bytealg.MaxLen"], apart := false, narrowed := true }
def SheetWritesUptoSaid : Prop := sheetWritesUptoRow.holds Try.pinned (OpenSpec.upto sheetWritesSpec)

/-- 'posthornlaw10.SheetFolds', WHERE WHAT IT READS IS OF BULK AT MOST 1048576: true; the input reads as it did. -/
def sheetFoldsUptoRow : OpenClaim := { program := "ytiiedcmkmnfdiaa", sum := "5944c6899a9b8d6682ec12550dcbba5f822b70ed0ef049e232a19309b9b88599", func := "posthorn/posthornlaw10.SheetFolds", spec := "sheetFolds", inPlace := ["internal/bytealg.IndexByteString", "internal/bytealg.IndexString", "internal/abi.NoEscape"], named := ["internal/bytealg.MaxLen"], apart := false, narrowed := true }
def SheetFoldsUptoSaid : Prop := sheetFoldsUptoRow.holds Try.pinned (OpenSpec.upto sheetFoldsSpec)

end Rows
end Go.Proofs.Ytiiedcmkmnfdiaa
