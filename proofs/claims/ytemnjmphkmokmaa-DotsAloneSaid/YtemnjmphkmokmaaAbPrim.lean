/-
  Primitives: functions of the library's whose contracts the shelf has.
-/
import Derived.Test.YtemnjmphkmokmaaAbCore
import Derived.Lib.Index
namespace Go.Ab
/-- The bytes of a slice of bytes. -/
def PV.by : PV → Option (List UInt8)
  | .nils => some []
  | .bys _ l => some l
  | _ => none

def pBytesIndex : List PV → Option PV
  | [x, y] => match x.by, y.by with
    | some a, some b => if a.length < 4294967281 ∧ b.length < 4294967281 then some (.int .i64 (Lib.index a b)) else none
    | _, _ => none
  | _ => none

def pBytesIndexByte : List PV → Option PV
  | [x, .b8 c] => match x.by with
    | some a => some (.int .i64 (Lib.indexByte a c))
    | none => none
  | _ => none
end Go.Ab
