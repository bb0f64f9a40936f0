/-
  No cell of these rows narrows 'for every input' (looked for: loops, veiled, ifaces, maps, wideKeys, modest, calm, conditions, laid).
  DERIVED. THE GIVEN ROWS OF THIS SEAT. 5 by the template 'for every input the law returns true; each argument reads behind the call as it read before'; 0 by the template 'total and deterministic' (their statements: YtpemgniafhdheaaTotals.lean).
  GIVEN WITH THE SEED: the statements are not yours to turn. If you find one false, say at which input.
  Laid BY PROGRAM, IN A SANDBOX (cutbox-rows.mjs): the forced cells as the released guide's own fill.sh prints them over the translation 0299d43b201a5977… (all of the seat's roots in one cut). By AI agents, Wed Nov 11 2026. No macro, syntax, notation, axiom, sorry.
-/
import Derived.Test.YtpemgniafhdheaaChecked
import GoSem.Claim
import GoSem.ClaimJoined
import GoSem.ClaimMapViews
import Derived.JoinedTies
import Derived.KernelRfl
namespace Go.Proofs.Ytpemgniafhdheaa
/- THE CELL 'sum', in the pinned program and in every row, IS THE sha256 OF THE DUMP (.gsa) THAT YtpemgniafhdheaaProg.lean LOADS. Nothing in Lean hashes anything: it is a label: what it is worth is what the hold of that sum in a sandbox is worth. -/
noncomputable def Try.pinned : Pinned := { name := "ytpemgniafhdheaa", sum := "0299d43b201a5977186c62e0f2d558167529aa5ddee1e09825595546a150dbd4", checked := Try.checked }
namespace Rows
def none {H : Type} : Left H := { results := [], args := [] }

/-- 'posthornlaw06.FieldsWrites': WHATEVER THE INPUT: true; the input reads as it did. -/
def fieldsWritesSpec : ChangeSpec := { name := "fieldsWrites", fn := fun _ => fun
  | [d1, d2] => { results := [.lit (.bool true)], args := [d1, d2] }
  | _ => none }
def fieldsWritesRow : OpenClaim := { program := "ytpemgniafhdheaa", sum := "0299d43b201a5977186c62e0f2d558167529aa5ddee1e09825595546a150dbd4", func := "posthorn/posthornlaw06.FieldsWrites", spec := "fieldsWrites", inPlace := ["internal/bytealg.IndexByte", "internal/bytealg.Index", "internal/bytealg.IndexByteString", "internal/bytealg.IndexString"], unfollowed := true, recurses := true, named := ["internal/bytealg.MaxLen"], apart := false }
def FieldsWritesSaid : Prop := fieldsWritesRow.holds Try.pinned (OpenSpec.ofChange fieldsWritesSpec)

/-- ITS FALSE NEIGHBOUR: 'it returns false'. Refute it at one input. -/
def fieldsWritesWrong : ChangeSpec := { name := "fieldsWrites", fn := fun _ => fun
  | [d1, d2] => { results := [.lit (.bool false)], args := [d1, d2] }
  | _ => none }
def FieldsWritesWrongFalsely : Prop := fieldsWritesRow.holds Try.pinned (OpenSpec.ofChange fieldsWritesWrong)

/-- 'posthornlaw06.FieldsBack': WHATEVER THE INPUT: true; the input reads as it did. -/
def fieldsBackSpec : ChangeSpec := { name := "fieldsBack", fn := fun _ => fun
  | [d1, d2] => { results := [.lit (.bool true)], args := [d1, d2] }
  | _ => none }
def fieldsBackRow : OpenClaim := { program := "ytpemgniafhdheaa", sum := "0299d43b201a5977186c62e0f2d558167529aa5ddee1e09825595546a150dbd4", func := "posthorn/posthornlaw06.FieldsBack", spec := "fieldsBack", inPlace := ["internal/bytealg.IndexByte", "internal/bytealg.Index", "internal/bytealg.IndexByteString", "internal/bytealg.IndexString"], unfollowed := true, recurses := true, named := ["internal/bytealg.MaxLen"], apart := false }
def FieldsBackSaid : Prop := fieldsBackRow.holds Try.pinned (OpenSpec.ofChange fieldsBackSpec)

/-- ITS FALSE NEIGHBOUR: 'it returns false'. Refute it at one input. -/
def fieldsBackWrong : ChangeSpec := { name := "fieldsBack", fn := fun _ => fun
  | [d1, d2] => { results := [.lit (.bool false)], args := [d1, d2] }
  | _ => none }
def FieldsBackWrongFalsely : Prop := fieldsBackRow.holds Try.pinned (OpenSpec.ofChange fieldsBackWrong)

/-- 'posthornlaw06.FieldsAgain': WHATEVER THE INPUT: true; the input reads as it did. -/
def fieldsAgainSpec : ChangeSpec := { name := "fieldsAgain", fn := fun _ => fun
  | [d] => { results := [.lit (.bool true)], args := [d] }
  | _ => none }
def fieldsAgainRow : OpenClaim := { program := "ytpemgniafhdheaa", sum := "0299d43b201a5977186c62e0f2d558167529aa5ddee1e09825595546a150dbd4", func := "posthorn/posthornlaw06.FieldsAgain", spec := "fieldsAgain", inPlace := ["internal/bytealg.IndexByte", "internal/bytealg.Index", "internal/bytealg.IndexByteString", "internal/bytealg.IndexString"], unfollowed := true, recurses := true, named := ["internal/bytealg.MaxLen"], apart := false }
def FieldsAgainSaid : Prop := fieldsAgainRow.holds Try.pinned (OpenSpec.ofChange fieldsAgainSpec)

/-- ITS FALSE NEIGHBOUR: 'it returns false'. Refute it at one input. -/
def fieldsAgainWrong : ChangeSpec := { name := "fieldsAgain", fn := fun _ => fun
  | [d] => { results := [.lit (.bool false)], args := [d] }
  | _ => none }
def FieldsAgainWrongFalsely : Prop := fieldsAgainRow.holds Try.pinned (OpenSpec.ofChange fieldsAgainWrong)

/-- 'posthornlaw06.FieldsFolds': WHATEVER THE INPUT: true; the input reads as it did. -/
def fieldsFoldsSpec : ChangeSpec := { name := "fieldsFolds", fn := fun _ => fun
  | [d] => { results := [.lit (.bool true)], args := [d] }
  | _ => none }
def fieldsFoldsRow : OpenClaim := { program := "ytpemgniafhdheaa", sum := "0299d43b201a5977186c62e0f2d558167529aa5ddee1e09825595546a150dbd4", func := "posthorn/posthornlaw06.FieldsFolds", spec := "fieldsFolds", inPlace := ["internal/bytealg.IndexByte", "internal/bytealg.Index", "internal/bytealg.IndexByteString", "internal/bytealg.IndexString"], unfollowed := true, recurses := true, named := ["internal/bytealg.MaxLen"], apart := false }
def FieldsFoldsSaid : Prop := fieldsFoldsRow.holds Try.pinned (OpenSpec.ofChange fieldsFoldsSpec)

/-- ITS FALSE NEIGHBOUR: 'it returns false'. Refute it at one input. -/
def fieldsFoldsWrong : ChangeSpec := { name := "fieldsFolds", fn := fun _ => fun
  | [d] => { results := [.lit (.bool false)], args := [d] }
  | _ => none }
def FieldsFoldsWrongFalsely : Prop := fieldsFoldsRow.holds Try.pinned (OpenSpec.ofChange fieldsFoldsWrong)

/-- 'posthornlaw06.FieldsNames': WHATEVER THE INPUT: true; the input reads as it did. -/
def fieldsNamesSpec : ChangeSpec := { name := "fieldsNames", fn := fun _ => fun
  | [d1, d2, d3] => { results := [.lit (.bool true)], args := [d1, d2, d3] }
  | _ => none }
def fieldsNamesRow : OpenClaim := { program := "ytpemgniafhdheaa", sum := "0299d43b201a5977186c62e0f2d558167529aa5ddee1e09825595546a150dbd4", func := "posthorn/posthornlaw06.FieldsNames", spec := "fieldsNames", inPlace := ["internal/bytealg.IndexByte", "internal/bytealg.Index", "internal/bytealg.IndexByteString", "internal/bytealg.IndexString"], unfollowed := true, recurses := true, named := ["internal/bytealg.MaxLen"], apart := false }
def FieldsNamesSaid : Prop := fieldsNamesRow.holds Try.pinned (OpenSpec.ofChange fieldsNamesSpec)

/-- ITS FALSE NEIGHBOUR: 'it returns false'. Refute it at one input. -/
def fieldsNamesWrong : ChangeSpec := { name := "fieldsNames", fn := fun _ => fun
  | [d1, d2, d3] => { results := [.lit (.bool false)], args := [d1, d2, d3] }
  | _ => none }
def FieldsNamesWrongFalsely : Prop := fieldsNamesRow.holds Try.pinned (OpenSpec.ofChange fieldsNamesWrong)

/- THE SECOND FORM. 'bulk': how many values and letters a reading holds, each counted each time it is reached (what is shared counts as often as it is met; a slice's spare places count too). A statement '..UptoSaid' is the law's where the arguments, and the package variables that the reading takes, are together of bulk at most 1048576: NARROWER than '..Said'. Prove '..Said' where nothing that the law and all that it calls make is longer than what came in: it says more and counts as full. Else prove '..UptoSaid'. A law counts once. -/
mutual
def uptoBulk {H : Type} : DataW H → Nat
  | .lit (.string bytes) => bytes.length + 1
  | .lit _ => 1
  | .nil => 1
  | .ptr d => uptoBulk d + 1
  | .slice elems spare => uptoBulkAll elems + uptoBulkAll spare + 1
  | .agg parts => uptoBulkAll parts + 1
  | .iface _ d => uptoBulk d + 1
  | .map entries => uptoBulkEntries entries + 1
  | .held _ => 1
def uptoBulkAll {H : Type} : List (DataW H) → Nat
  | [] => 0
  | d :: r => uptoBulk d + uptoBulkAll r
def uptoBulkEntries {H : Type} : List (Lit × DataW H) → Nat
  | [] => 0
  | x :: r => uptoBulkEntry x + uptoBulkEntries r
def uptoBulkEntry {H : Type} : Lit × DataW H → Nat
  | (.string bytes, d) => bytes.length + uptoBulk d + 1
  | (_, d) => uptoBulk d + 1
 end
def uptoSmall : (H : Type) → List (DataW H) → Bool := fun _ ds => decide (uptoBulkAll ds ≤ 1048576)
def OpenSpec.upto (s : _root_.Go.ChangeSpec) : _root_.Go.OpenSpec := { _root_.Go.OpenSpec.ofChange s with cond := some uptoSmall }

/-- 'posthornlaw06.FieldsWrites', WHERE WHAT IT READS IS OF BULK AT MOST 1048576: true; the input reads as it did. -/
def fieldsWritesUptoRow : OpenClaim := { program := "ytpemgniafhdheaa", sum := "0299d43b201a5977186c62e0f2d558167529aa5ddee1e09825595546a150dbd4", func := "posthorn/posthornlaw06.FieldsWrites", spec := "fieldsWrites", inPlace := ["internal/bytealg.IndexByte", "internal/bytealg.Index", "internal/bytealg.IndexByteString", "internal/bytealg.IndexString"], unfollowed := true, recurses := true, named := ["internal/bytealg.MaxLen"], apart := false, narrowed := true }
def FieldsWritesUptoSaid : Prop := fieldsWritesUptoRow.holds Try.pinned (OpenSpec.upto fieldsWritesSpec)

/-- 'posthornlaw06.FieldsBack', WHERE WHAT IT READS IS OF BULK AT MOST 1048576: true; the input reads as it did. -/
def fieldsBackUptoRow : OpenClaim := { program := "ytpemgniafhdheaa", sum := "0299d43b201a5977186c62e0f2d558167529aa5ddee1e09825595546a150dbd4", func := "posthorn/posthornlaw06.FieldsBack", spec := "fieldsBack", inPlace := ["internal/bytealg.IndexByte", "internal/bytealg.Index", "internal/bytealg.IndexByteString", "internal/bytealg.IndexString"], unfollowed := true, recurses := true, named := ["internal/bytealg.MaxLen"], apart := false, narrowed := true }
def FieldsBackUptoSaid : Prop := fieldsBackUptoRow.holds Try.pinned (OpenSpec.upto fieldsBackSpec)

/-- 'posthornlaw06.FieldsAgain', WHERE WHAT IT READS IS OF BULK AT MOST 1048576: true; the input reads as it did. -/
def fieldsAgainUptoRow : OpenClaim := { program := "ytpemgniafhdheaa", sum := "0299d43b201a5977186c62e0f2d558167529aa5ddee1e09825595546a150dbd4", func := "posthorn/posthornlaw06.FieldsAgain", spec := "fieldsAgain", inPlace := ["internal/bytealg.IndexByte", "internal/bytealg.Index", "internal/bytealg.IndexByteString", "internal/bytealg.IndexString"], unfollowed := true, recurses := true, named := ["internal/bytealg.MaxLen"], apart := false, narrowed := true }
def FieldsAgainUptoSaid : Prop := fieldsAgainUptoRow.holds Try.pinned (OpenSpec.upto fieldsAgainSpec)

/-- 'posthornlaw06.FieldsFolds', WHERE WHAT IT READS IS OF BULK AT MOST 1048576: true; the input reads as it did. -/
def fieldsFoldsUptoRow : OpenClaim := { program := "ytpemgniafhdheaa", sum := "0299d43b201a5977186c62e0f2d558167529aa5ddee1e09825595546a150dbd4", func := "posthorn/posthornlaw06.FieldsFolds", spec := "fieldsFolds", inPlace := ["internal/bytealg.IndexByte", "internal/bytealg.Index", "internal/bytealg.IndexByteString", "internal/bytealg.IndexString"], unfollowed := true, recurses := true, named := ["internal/bytealg.MaxLen"], apart := false, narrowed := true }
def FieldsFoldsUptoSaid : Prop := fieldsFoldsUptoRow.holds Try.pinned (OpenSpec.upto fieldsFoldsSpec)

/-- 'posthornlaw06.FieldsNames', WHERE WHAT IT READS IS OF BULK AT MOST 1048576: true; the input reads as it did. -/
def fieldsNamesUptoRow : OpenClaim := { program := "ytpemgniafhdheaa", sum := "0299d43b201a5977186c62e0f2d558167529aa5ddee1e09825595546a150dbd4", func := "posthorn/posthornlaw06.FieldsNames", spec := "fieldsNames", inPlace := ["internal/bytealg.IndexByte", "internal/bytealg.Index", "internal/bytealg.IndexByteString", "internal/bytealg.IndexString"], unfollowed := true, recurses := true, named := ["internal/bytealg.MaxLen"], apart := false, narrowed := true }
def FieldsNamesUptoSaid : Prop := fieldsNamesUptoRow.holds Try.pinned (OpenSpec.upto fieldsNamesSpec)

end Rows
end Go.Proofs.Ytpemgniafhdheaa
