/-
  No cell of these rows narrows 'for every input' (looked for: loops, veiled, ifaces, maps, wideKeys, modest, calm, conditions, laid).
  DERIVED. THE GIVEN ROWS OF THIS SEAT. 5 by the template 'for every input the law returns true; each argument reads behind the call as it read before'; 0 by the template 'total and deterministic' (their statements: YtemnjmphkmokmaaTotals.lean).
  GIVEN WITH THE SEED: the statements are not yours to turn. If you find one false, say at which input.
  Laid BY PROGRAM, IN A SANDBOX (cutbox-rows.mjs): the forced cells as the released guide's own fill.sh prints them over the translation 52dc5cc6fb4b07da… (all of the seat's roots in one cut). By AI agents, Wed Nov 11 2026. No macro, syntax, notation, axiom, sorry.
-/
import Derived.Test.YtemnjmphkmokmaaChecked
import GoSem.Claim
import GoSem.ClaimJoined
import GoSem.ClaimMapViews
import Derived.JoinedTies
import Derived.KernelRfl
namespace Go.Proofs.Ytemnjmphkmokmaa
/- THE CELL 'sum', in the pinned program and in every row, IS THE sha256 OF THE DUMP (.gsa) THAT YtemnjmphkmokmaaProg.lean LOADS. Nothing in Lean hashes anything: it is a label: what it is worth is what the hold of that sum in a sandbox is worth. -/
noncomputable def Try.pinned : Pinned := { name := "ytemnjmphkmokmaa", sum := "52dc5cc6fb4b07da53af38ebf3a841bb19b94ce57e65b50d1aa2a27260631aa5", checked := Try.checked }
namespace Rows
def none {H : Type} : Left H := { results := [], args := [] }

/-- 'posthornlaw05.DotsStuffs': WHATEVER THE INPUT: true; the input reads as it did. -/
def dotsStuffsSpec : ChangeSpec := { name := "dotsStuffs", fn := fun _ => fun
  | [d] => { results := [.lit (.bool true)], args := [d] }
  | _ => none }
def dotsStuffsRow : OpenClaim := { program := "ytemnjmphkmokmaa", sum := "52dc5cc6fb4b07da53af38ebf3a841bb19b94ce57e65b50d1aa2a27260631aa5", func := "posthorn/posthornlaw05.DotsStuffs", spec := "dotsStuffs", inPlace := ["internal/bytealg.IndexByte", "internal/bytealg.Index"], unfollowed := true, recurses := true, named := ["internal/bytealg.MaxLen"], apart := false }
def DotsStuffsSaid : Prop := dotsStuffsRow.holds Try.pinned (OpenSpec.ofChange dotsStuffsSpec)

/-- ITS FALSE NEIGHBOUR: 'it returns false'. Refute it at one input. -/
def dotsStuffsWrong : ChangeSpec := { name := "dotsStuffs", fn := fun _ => fun
  | [d] => { results := [.lit (.bool false)], args := [d] }
  | _ => none }
def DotsStuffsWrongFalsely : Prop := dotsStuffsRow.holds Try.pinned (OpenSpec.ofChange dotsStuffsWrong)

/-- 'posthornlaw05.DotsAlone': WHATEVER THE INPUT: true; the input reads as it did. -/
def dotsAloneSpec : ChangeSpec := { name := "dotsAlone", fn := fun _ => fun
  | [d] => { results := [.lit (.bool true)], args := [d] }
  | _ => none }
def dotsAloneRow : OpenClaim := { program := "ytemnjmphkmokmaa", sum := "52dc5cc6fb4b07da53af38ebf3a841bb19b94ce57e65b50d1aa2a27260631aa5", func := "posthorn/posthornlaw05.DotsAlone", spec := "dotsAlone", inPlace := ["internal/bytealg.IndexByte", "internal/bytealg.Index"], unfollowed := true, recurses := true, named := ["internal/bytealg.MaxLen"], apart := false }
def DotsAloneSaid : Prop := dotsAloneRow.holds Try.pinned (OpenSpec.ofChange dotsAloneSpec)

/-- ITS FALSE NEIGHBOUR: 'it returns false'. Refute it at one input. -/
def dotsAloneWrong : ChangeSpec := { name := "dotsAlone", fn := fun _ => fun
  | [d] => { results := [.lit (.bool false)], args := [d] }
  | _ => none }
def DotsAloneWrongFalsely : Prop := dotsAloneRow.holds Try.pinned (OpenSpec.ofChange dotsAloneWrong)

/-- 'posthornlaw05.DotsNobody': WHATEVER THE INPUT: true; the input reads as it did. -/
def dotsNobodySpec : ChangeSpec := { name := "dotsNobody", fn := fun _ => fun
  | [d] => { results := [.lit (.bool true)], args := [d] }
  | _ => none }
def dotsNobodyRow : OpenClaim := { program := "ytemnjmphkmokmaa", sum := "52dc5cc6fb4b07da53af38ebf3a841bb19b94ce57e65b50d1aa2a27260631aa5", func := "posthorn/posthornlaw05.DotsNobody", spec := "dotsNobody", inPlace := ["internal/bytealg.IndexByte", "internal/bytealg.Index"], unfollowed := true, recurses := true, named := ["internal/bytealg.MaxLen"], apart := false }
def DotsNobodySaid : Prop := dotsNobodyRow.holds Try.pinned (OpenSpec.ofChange dotsNobodySpec)

/-- ITS FALSE NEIGHBOUR: 'it returns false'. Refute it at one input. -/
def dotsNobodyWrong : ChangeSpec := { name := "dotsNobody", fn := fun _ => fun
  | [d] => { results := [.lit (.bool false)], args := [d] }
  | _ => none }
def DotsNobodyWrongFalsely : Prop := dotsNobodyRow.holds Try.pinned (OpenSpec.ofChange dotsNobodyWrong)

/-- 'posthornlaw05.DotsBack': WHATEVER THE INPUT: true; the input reads as it did. -/
def dotsBackSpec : ChangeSpec := { name := "dotsBack", fn := fun _ => fun
  | [d1, d2, d3] => { results := [.lit (.bool true)], args := [d1, d2, d3] }
  | _ => none }
def dotsBackRow : OpenClaim := { program := "ytemnjmphkmokmaa", sum := "52dc5cc6fb4b07da53af38ebf3a841bb19b94ce57e65b50d1aa2a27260631aa5", func := "posthorn/posthornlaw05.DotsBack", spec := "dotsBack", inPlace := ["internal/bytealg.IndexByte", "internal/bytealg.Index"], unfollowed := true, recurses := true, named := ["internal/bytealg.MaxLen"], apart := false }
def DotsBackSaid : Prop := dotsBackRow.holds Try.pinned (OpenSpec.ofChange dotsBackSpec)

/-- ITS FALSE NEIGHBOUR: 'it returns false'. Refute it at one input. -/
def dotsBackWrong : ChangeSpec := { name := "dotsBack", fn := fun _ => fun
  | [d1, d2, d3] => { results := [.lit (.bool false)], args := [d1, d2, d3] }
  | _ => none }
def DotsBackWrongFalsely : Prop := dotsBackRow.holds Try.pinned (OpenSpec.ofChange dotsBackWrong)

/-- 'posthornlaw05.DotsCuts': WHATEVER THE INPUT: true; the input reads as it did. -/
def dotsCutsSpec : ChangeSpec := { name := "dotsCuts", fn := fun _ => fun
  | [d1, d2, d3] => { results := [.lit (.bool true)], args := [d1, d2, d3] }
  | _ => none }
def dotsCutsRow : OpenClaim := { program := "ytemnjmphkmokmaa", sum := "52dc5cc6fb4b07da53af38ebf3a841bb19b94ce57e65b50d1aa2a27260631aa5", func := "posthorn/posthornlaw05.DotsCuts", spec := "dotsCuts", inPlace := ["internal/bytealg.IndexByte", "internal/bytealg.Index"], unfollowed := true, recurses := true, named := ["internal/bytealg.MaxLen"], apart := false }
def DotsCutsSaid : Prop := dotsCutsRow.holds Try.pinned (OpenSpec.ofChange dotsCutsSpec)

/-- ITS FALSE NEIGHBOUR: 'it returns false'. Refute it at one input. -/
def dotsCutsWrong : ChangeSpec := { name := "dotsCuts", fn := fun _ => fun
  | [d1, d2, d3] => { results := [.lit (.bool false)], args := [d1, d2, d3] }
  | _ => none }
def DotsCutsWrongFalsely : Prop := dotsCutsRow.holds Try.pinned (OpenSpec.ofChange dotsCutsWrong)

/- THE SECOND FORM. 'bulk': how many values and letters a reading holds, each counted each time it is reached (what is shared counts as often as it is met; a slice's spare places count too). A statement '..UptoSaid' is the law's where the arguments, and the package variables that the reading takes, are together of bulk at most 1048576: NARROWER than '..Said'. Prove '..Said' where nothing that the law and all that it calls make is longer than what came in: it says more and counts as full. Else prove '..UptoSaid'. A law counts once. -/
mutual
def uptoBulk {H : Type} : DataW H → Nat
  | .lit (.string bytes) => bytes.length + 1
  | .lit _ => 1
  | .nil => 1
  | .ptr d => uptoBulk d + 1
  | .slice elems spare => uptoBulkAll elems + uptoBulkAll spare + 1
  | .agg parts => uptoBulkAll parts + 1
  | .iface _ d => uptoBulk d + 1
  | .map entries => uptoBulkEntries entries + 1
  | .held _ => 1
def uptoBulkAll {H : Type} : List (DataW H) → Nat
  | [] => 0
  | d :: r => uptoBulk d + uptoBulkAll r
def uptoBulkEntries {H : Type} : List (Lit × DataW H) → Nat
  | [] => 0
  | x :: r => uptoBulkEntry x + uptoBulkEntries r
def uptoBulkEntry {H : Type} : Lit × DataW H → Nat
  | (.string bytes, d) => bytes.length + uptoBulk d + 1
  | (_, d) => uptoBulk d + 1
 end
def uptoSmall : (H : Type) → List (DataW H) → Bool := fun _ ds => decide (uptoBulkAll ds ≤ 1048576)
def OpenSpec.upto (s : _root_.Go.ChangeSpec) : _root_.Go.OpenSpec := { _root_.Go.OpenSpec.ofChange s with cond := some uptoSmall }

/-- 'posthornlaw05.DotsStuffs', WHERE WHAT IT READS IS OF BULK AT MOST 1048576: true; the input reads as it did. -/
def dotsStuffsUptoRow : OpenClaim := { program := "ytemnjmphkmokmaa", sum := "52dc5cc6fb4b07da53af38ebf3a841bb19b94ce57e65b50d1aa2a27260631aa5", func := "posthorn/posthornlaw05.DotsStuffs", spec := "dotsStuffs", inPlace := ["internal/bytealg.IndexByte", "internal/bytealg.Index"], unfollowed := true, recurses := true, named := ["internal/bytealg.MaxLen"], apart := false, narrowed := true }
def DotsStuffsUptoSaid : Prop := dotsStuffsUptoRow.holds Try.pinned (OpenSpec.upto dotsStuffsSpec)

/-- 'posthornlaw05.DotsAlone', WHERE WHAT IT READS IS OF BULK AT MOST 1048576: true; the input reads as it did. -/
def dotsAloneUptoRow : OpenClaim := { program := "ytemnjmphkmokmaa", sum := "52dc5cc6fb4b07da53af38ebf3a841bb19b94ce57e65b50d1aa2a27260631aa5", func := "posthorn/posthornlaw05.DotsAlone", spec := "dotsAlone", inPlace := ["internal/bytealg.IndexByte", "internal/bytealg.Index"], unfollowed := true, recurses := true, named := ["internal/bytealg.MaxLen"], apart := false, narrowed := true }
def DotsAloneUptoSaid : Prop := dotsAloneUptoRow.holds Try.pinned (OpenSpec.upto dotsAloneSpec)

/-- 'posthornlaw05.DotsNobody', WHERE WHAT IT READS IS OF BULK AT MOST 1048576: true; the input reads as it did. -/
def dotsNobodyUptoRow : OpenClaim := { program := "ytemnjmphkmokmaa", sum := "52dc5cc6fb4b07da53af38ebf3a841bb19b94ce57e65b50d1aa2a27260631aa5", func := "posthorn/posthornlaw05.DotsNobody", spec := "dotsNobody", inPlace := ["internal/bytealg.IndexByte", "internal/bytealg.Index"], unfollowed := true, recurses := true, named := ["internal/bytealg.MaxLen"], apart := false, narrowed := true }
def DotsNobodyUptoSaid : Prop := dotsNobodyUptoRow.holds Try.pinned (OpenSpec.upto dotsNobodySpec)

/-- 'posthornlaw05.DotsBack', WHERE WHAT IT READS IS OF BULK AT MOST 1048576: true; the input reads as it did. -/
def dotsBackUptoRow : OpenClaim := { program := "ytemnjmphkmokmaa", sum := "52dc5cc6fb4b07da53af38ebf3a841bb19b94ce57e65b50d1aa2a27260631aa5", func := "posthorn/posthornlaw05.DotsBack", spec := "dotsBack", inPlace := ["internal/bytealg.IndexByte", "internal/bytealg.Index"], unfollowed := true, recurses := true, named := ["internal/bytealg.MaxLen"], apart := false, narrowed := true }
def DotsBackUptoSaid : Prop := dotsBackUptoRow.holds Try.pinned (OpenSpec.upto dotsBackSpec)

/-- 'posthornlaw05.DotsCuts', WHERE WHAT IT READS IS OF BULK AT MOST 1048576: true; the input reads as it did. -/
def dotsCutsUptoRow : OpenClaim := { program := "ytemnjmphkmokmaa", sum := "52dc5cc6fb4b07da53af38ebf3a841bb19b94ce57e65b50d1aa2a27260631aa5", func := "posthorn/posthornlaw05.DotsCuts", spec := "dotsCuts", inPlace := ["internal/bytealg.IndexByte", "internal/bytealg.Index"], unfollowed := true, recurses := true, named := ["internal/bytealg.MaxLen"], apart := false, narrowed := true }
def DotsCutsUptoSaid : Prop := dotsCutsUptoRow.holds Try.pinned (OpenSpec.upto dotsCutsSpec)

end Rows
end Go.Proofs.Ytemnjmphkmokmaa
