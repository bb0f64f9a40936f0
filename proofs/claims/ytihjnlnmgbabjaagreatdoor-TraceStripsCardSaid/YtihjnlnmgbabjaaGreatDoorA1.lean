/-
  The abstract machine: values without addresses and capacities, and an evaluator by fuel.
-/
import Derived.RangeFuncIn
import Derived.OrdersIn
import Derived.TacticsIn
import Derived.RangeFuncNested
import Derived.Laws.Strings
import Derived.Laws.StructEq
import Derived.Lib.ConvBytes
import Derived.Laws.BytesArg
set_option linter.unusedVariables false
set_option linter.unusedSimpArgs false
namespace Go.Ab

inductive Tok where
  | no
  | own (i : Nat)
  | ex
  deriving DecidableEq

def Tok.isNo : Tok → Bool
  | .no => true
  | _ => false

inductive PV where
  | undef
  | bool (b : Bool)
  | b8 (b : UInt8)
  | int (k : IntKind) (n : Int)
  | str (s : List UInt8)
  | nilp
  | ptr (b off : Nat)
  | cp (cells : List PV)
  | nils
  | bys (t : Tok) (l : List UInt8)
  | sl (esz : Nat) (t : Tok) (xs : List PV)
  | ms (b off len : Nat)
  | fn (f : Nat) (cap : List PV)
  | yld (k : Nat)
  | nilf
  | nili
  | agg (cells : List PV)
  | tup (vs : List PV)
  | bslot
  | mref (b : Nat)
  deriving Inhabited

def PV.cells : PV → List PV
  | .agg cs => cs
  | v => [v]

inductive Opd where
  | tmp (t : Nat)
  | const (v : PV)
  | fn (f : Nat)

inductive FK where
  | b | i | s
  deriving DecidableEq

inductive EK where
  | no | bool | ptr | slice | func | struct (ks : List FK)

inductive AOp where
  | mov (x : Opd)
  | pick (c a b : Opd)
  | alloc (zero : List PV)
  | box (x : Opd)
  | boxc (x : Opd)
  | build (zero : List PV) (parts : List (Nat × Nat × Opd))
  | lit8 (len : Nat) (parts : List (Nat × Opd))
  | lit (esz : Nat) (zero : PV) (len : Nat) (parts : List (Nat × Opd))
  | load (ag : Bool) (sz : Nat) (a : Opd)
  | loadc (ag : Bool) (sz : Nat) (a : Opd)
  | store (sz : Nat) (a x : Opd)
  | nilck (x : Opd)
  | bin (op : BinOp) (ek : EK) (x y : Opd)
  | un (op : UnOp) (x : Opd)
  | cInt (k : IntKind) (x : Opd)
  | cS2B (mu : Bool) (x : Opd)
  | cB2S (mu : Bool) (x : Opd)
  | cStr (x : Opd)
  | cSame (x : Opd)
  | mkfn (f : Nat) (caps : List Opd)
  | mk8 (mu : Bool) (len cap : Opd)
  | mkms (zero : List PV) (len cap : Opd)
  | slc (esz : Nat) (x : Opd) (lo hi mx : Option Opd)
  | faddr (off : Nat) (x : Opd)
  | fld (ag : Bool) (off sz : Nat) (x : Opd)
  | iaddr (esz : Nat) (x i : Opd)
  | iaddrA (len esz : Nat) (x i : Opd)
  | idx (len : Nat) (ag : Bool) (esz : Nat) (x i : Opd)
  | idxS (x i : Opd)
  | ext (k : Nat) (x : Opd)
  | len (st : Bool) (x : Opd)
  | app (u8 : Bool) (esz : Nat) (s x : Opd)
  | mnmx (mx : Bool) (xs : List Opd)
  | call (f : Opd) (args : List Opd)
  | callk (f : Opd) (args : List Opd)
  | storek (sz : Nat) (a x : Opd)
  | lit8c (len : Nat) (parts : List (Nat × Opd))
  | slcA (len esz : Nat) (x : Opd) (lo hi mx : Option Opd)
  | copy (d s : Opd)
  | slcT (x hi : Opd)
  | litc (esz : Nat) (zero : PV) (len : Nat) (parts : List (Nat × Opd))
  | mkmap
  | mget (x k : Opd)
  | mput (x k v : Opd)
  | callp (f : Opd) (args : List Opd)
  | clr (zero : List PV) (x : Opd)
  | frz (esz : Nat) (x : Opd)

structure AOper where
  dst : Option Nat
  op : AOp
  guard : Option (Nat × Bool) := none

inductive Ex where
  | normal | ret | exit (id : Nat) | goto (l : Nat)
  deriving DecidableEq

inductive ACode where
  | skip
  | region (ops : List AOper)
  | seq (a b : ACode)
  | cond (c : Opd) (thn els : ACode)
  | block (id : Nat) (body : ACode)
  | loop (body : ACode)
  | rangeFunc (f : Opd) (params : List Nat) (assign body : ACode)
  | exit (id : Nat)
  | scope (body : ACode)
  | scopeAt (body cur : ACode)
  | label (l : Nat)
  | goto (l : Nat)
  | ret

inductive RV where
  | tmp (t : Nat)
  | cell (t : Nat) (ag : Bool) (sz : Nat)

structure ACFn where
  nt : Nat
  results : List RV
  body : ACode

inductive Upd where
  | no
  | store (a x : PV)
  | kill (i : Nat)
  | new (cs : List PV)

inductive AFn where
  | code (f : ACFn)
  | prim (p : List PV → Option PV)
  | primS (p : List PV → List (List PV) → Option (PV × Upd))

abbrev AP := Nat → Option AFn
abbrev Env := Nat → PV

structure LoopS where
  env : Env
  params : List Nat
  assign : ACode
  body : ACode
  status : Nat       -- 0 ready, 1 busy, 2 done
  pend : Ex

structure St where
  boxes : List (List PV)
  toks : List Bool
  loops : List LoopS
  low : Nat

def Opd.ev (e : Env) : Opd → PV
  | .tmp t => e t
  | .const v => v
  | .fn f => .fn f []

def upd (e : Env) (d : Nat) (v : PV) : Env := fun t => if t = d then v else e t
def updO (e : Env) (d : Option Nat) (v : PV) : Env := match d with | some d => upd e d v | none => e

def bin8 (op : BinOp) (a b : UInt8) : Option PV :=
  match op with
  | .add => some (.b8 (a + b))
  | .sub => some (.b8 (a - b))
  | .mul => some (.b8 (a * b))
  | .and => some (.b8 (a &&& b))
  | .or => some (.b8 (a ||| b))
  | .xor => some (.b8 (a ^^^ b))
  | .eql => some (.bool (a == b))
  | .neq => some (.bool (a != b))
  | .lss => some (.bool (decide (a < b)))
  | .leq => some (.bool (decide (a ≤ b)))
  | .gtr => some (.bool (decide (b < a)))
  | .geq => some (.bool (decide (b ≤ a)))
  | .rem => if b = 0 then none else some (.b8 (a % b))
  | .quo => if b = 0 then none else some (.b8 (a / b))
  | _ => none

def binI (op : BinOp) (k : IntKind) (a b : Int) : Option PV :=
  match op with
  | .add => some (.int k (k.wrap (a + b)))
  | .sub => some (.int k (k.wrap (a - b)))
  | .mul => some (.int k (k.wrap (a * b)))
  | .quo => if b = 0 then none else some (.int k (k.wrap (a.tdiv b)))
  | .rem => if b = 0 then none else some (.int k (a.tmod b))
  | .and => some (.int k (k.wrap ((BitVec.ofInt k.bits a &&& BitVec.ofInt k.bits b).toNat)))
  | .or => some (.int k (k.wrap ((BitVec.ofInt k.bits a ||| BitVec.ofInt k.bits b).toNat)))
  | .xor => some (.int k (k.wrap ((BitVec.ofInt k.bits a ^^^ BitVec.ofInt k.bits b).toNat)))
  | .eql => some (.bool (a == b))
  | .neq => some (.bool (a != b))
  | .lss => some (.bool (decide (a < b)))
  | .leq => some (.bool (decide (a ≤ b)))
  | .gtr => some (.bool (decide (a > b)))
  | .geq => some (.bool (decide (a ≥ b)))
  | _ => none

def shI (op : BinOp) (k : IntKind) (a n : Int) : Option PV :=
  if n < 0 then none else
  match op with
  | .shl => some (.int k (k.wrap (a * 2 ^ (min n.toNat k.bits))))
  | .shr => some (.int k (a.fdiv (2 ^ (min n.toNat k.bits))))
  | _ => none

def sh8 (op : BinOp) (a : UInt8) (n : Int) : Option PV :=
  if n < 0 then none else
  match op with
  | .shl => some (.b8 (UInt8.ofNat (a.toNat * 2 ^ (min n.toNat 8))))
  | .shr => some (.b8 (UInt8.ofNat (a.toNat / 2 ^ (min n.toNat 8))))
  | _ => none

def binS (op : BinOp) (a b : List UInt8) : Option PV :=
  match op with
  | .add => if a.length + b.length ≤ 9223372036854775807 then some (.str (a ++ b)) else none
  | .eql => some (.bool (a == b))
  | .neq => some (.bool (a != b))
  | .lss => some (.bool (Op.bytesLess a b))
  | .leq => some (.bool (Op.bytesLess a b || a == b))
  | .gtr => some (.bool (!(Op.bytesLess a b || a == b)))
  | .geq => some (.bool (!Op.bytesLess a b))
  | _ => none

def eqLeaf : FK → PV → PV → Option Bool
  | .b, .bool a, .bool b => some (a == b)
  | .i, .b8 a, .b8 b => some (a == b)
  | .i, .int k a, .int k' b => if k = k' then some (a == b) else none
  | .s, .str a, .str b => some (a == b)
  | _, _, _ => none

def eqCells : List FK → List PV → List PV → Option Bool
  | [], [], [] => some true
  | k :: ks, a :: as, b :: bs => match eqLeaf k a b with
    | some true => eqCells ks as bs
    | some false => some false
    | none => none
  | _, _, _ => none

def eqPV : EK → PV → PV → Option Bool
  | .bool, .bool a, .bool b => some (a == b)
  | .ptr, .nilp, .nilp => some true
  | .ptr, .nilp, .ptr _ _ => some false
  | .ptr, .nilp, .cp _ => some false
  | .ptr, .ptr _ _, .nilp => some false
  | .ptr, .cp _, .nilp => some false
  | .slice, .nils, .nils => some true
  | .slice, .nils, .bys _ _ => some false
  | .slice, .nils, .sl _ _ _ => some false
  | .slice, .nils, .ms _ _ _ => some false
  | .slice, .bys _ _, .nils => some false
  | .slice, .sl _ _ _, .nils => some false
  | .slice, .ms _ _ _, .nils => some false
  | .func, .nilf, .nilf => some true
  | .func, .fn _ _, .nilf => some false
  | .func, .nilf, .fn _ _ => some false
  | .struct ks, .agg xs, .agg ys => eqCells ks xs ys
  | _, _, _ => none

def binPV (op : BinOp) (ek : EK) (x y : PV) : Option PV :=
  match x, y with
  | .b8 a, .b8 b => match op with
    | .shl | .shr => sh8 op a b.toNat
    | _ => bin8 op a b
  | .int k a, .int k' b => match op with
    | .shl | .shr => shI op k a b
    | _ => if k = k' then binI op k a b else none
  | .int k a, .b8 b => match op with
    | .shl | .shr => shI op k a b.toNat
    | _ => none
  | .b8 a, .int _ b => match op with
    | .shl | .shr => sh8 op a b
    | _ => none
  | .str a, .str b => binS op a b
  | x, y => match op with
    | .eql => (eqPV ek x y).map .bool
    | .neq => (eqPV ek x y).map fun b => .bool !b
    | _ => none

def unPV (op : UnOp) (x : PV) : Option PV :=
  match op, x with
  | .not, .bool b => some (.bool !b)
  | .neg, .int k n => some (.int k (k.wrap (0 - n)))
  | _, _ => none

def cIntPV (k : IntKind) (x : PV) : Option PV :=
  match x with
  | .int _ n => match k with
    | .u8 => some (.b8 (UInt8.ofNat (IntKind.u8.wrap n).toNat))
    | k => some (.int k (k.wrap n))
  | .b8 b => match k with
    | .u8 => some (.b8 b)
    | .i8 => some (.int .i8 (IntKind.i8.wrap b.toNat))
    | k => some (.int k b.toNat)
  | _ => none

mutual
def PV.data : PV → Bool
  | .undef | .bool _ | .b8 _ | .int _ _ | .str _ | .nilp | .nils | .nilf | .nili => true
  | .bys t _ => t.isNo
  | .sl _ t xs => t.isNo && dataAll xs
  | .agg cs => dataAll cs
  | _ => false
def dataAll : List PV → Bool
  | [] => true
  | x :: xs => x.data && dataAll xs
end

def stripLeaf : PV → Option PV
  | .bool b => some (.bool b)
  | .b8 b => some (.b8 b)
  | .int k n => some (.int k n)
  | .str s => some (.str s)
  | .nilp => some .nilp
  | .nils => some .nils
  | .nilf => some .nilf
  | .nili => some .nili
  | .bys _ l => some (.bys .no l)
  | .sl e _ xs => some (.sl e .no xs)
  | _ => none

def stripAll : List PV → Option (List PV)
  | [] => some []
  | x :: xs => match stripLeaf x, stripAll xs with
    | some y, some ys => some (y :: ys)
    | _, _ => none

def strip : PV → Option PV
  | .agg cs => (stripAll cs).map .agg
  | v => stripLeaf v

def PV.inB (n : Nat) : PV → Bool
  | .ptr b _ => decide (b < n)
  | .ms b _ _ => decide (b < n)
  | .mref b => decide (b < n)
  | .fn _ cap => inBAll n cap
  | .agg cs => inBAll n cs
  | .tup vs => inBAll n vs
  | .yld _ => false
  | _ => true
where inBAll (n : Nat) : List PV → Bool
  | [] => true
  | x :: xs => x.inB n && inBAll n xs

def tokOf : PV → Option Nat
  | .bys (.own i) _ => some i
  | .sl _ (.own i) _ => some i
  | _ => none

def hasTok (cs : List PV) : Bool := cs.any fun c => (tokOf c).isSome

def capOk : PV → Bool
  | .ptr _ _ => true
  | .fn _ _ => true
  | p => p.data

def readCells (ag : Bool) (sz : Nat) (cells : List PV) : Option PV :=
  if ag then (if sz ≤ cells.length then some (.agg (cells.take sz)) else none)
  else match cells with
    | v :: _ => some v
    | [] => none

def loadPV (st : St) (ag : Bool) (sz : Nat) : PV → Option PV
  | .cp cells => readCells ag sz cells
  | .ptr b off => match st.boxes[b]? with
    | some cs => readCells ag sz (cs.drop off)
    | none => none
  | _ => none

def loadcPV (ag : Bool) (sz : Nat) : PV → Option PV
  | .cp cells => readCells ag sz cells
  | _ => none
theorem loadc_load {st : St} {ag : Bool} {sz : Nat} {a p : PV} (h : loadcPV ag sz a = some p) : loadPV st ag sz a = some p := by
  cases a <;> simp_all [loadcPV, loadPV]

def leafOk : PV → Bool
  | .agg _ | .tup _ | .undef | .bslot | .mref _ => false
  | _ => true
def leafB : PV → Bool
  | .agg _ | .tup _ | .undef | .mref _ => false
  | _ => true
theorem leafB_of {p : PV} (h : leafOk p = true) : leafB p = true := by cases p <;> simp_all [leafOk, leafB]
theorem leafB_all {ps : List PV} (h : ps.all leafOk = true) : ps.all leafB = true := by
  rw [List.all_eq_true] at *
  exact fun x hx => leafB_of (h x hx)

def setCells (cs : List PV) (off : Nat) : List PV → List PV
  | [] => cs
  | v :: vs => setCells (cs.set off v) (off + 1) vs

def storePV (st : St) (sz : Nat) (a x : PV) : Option St :=
  match a with
  | .ptr b off => match st.boxes[b]? with
    | some cs =>
      if x.cells.length = sz ∧ off + sz ≤ cs.length ∧ x.inB (b + 1) = true ∧ x.cells.all leafOk = true then
        some { st with boxes := st.boxes.set b (setCells cs off x.cells), low := if hasTok x.cells then min st.low b else st.low }
      else none
    | none => none
  | _ => none

def allocPV (st : St) (cells : List PV) : PV × St := (.ptr st.boxes.length 0, { st with boxes := st.boxes ++ [cells] })

def freshT (st : St) : Tok × St := (.own st.toks.length, { st with toks := st.toks ++ [true] })

def buildCells (cells : List PV) : List (Nat × Nat × PV) → Option (List PV)
  | [] => some cells
  | (off, sz, v) :: rest =>
    if v.cells.length = sz ∧ off + sz ≤ cells.length ∧ v.cells.all leafOk = true then buildCells (setCells cells off v.cells) rest else none

def bytesOf : List PV → Option (List UInt8)
  | [] => some []
  | .b8 b :: r => (bytesOf r).map (b :: ·)
  | _ :: _ => none

def lit8Fill (l : List UInt8) : List (Nat × PV) → Option (List UInt8)
  | [] => some l
  | (i, .b8 b) :: rest => if i < l.length then lit8Fill (l.set i b) rest else none
  | _ :: _ => none

def litFill (esz : Nat) (l : List PV) : List (Nat × PV) → Option (List PV)
  | [] => some l
  | (i, v) :: rest => match strip v with
    | some u => if i < l.length ∧ u.cells.length = esz then litFill esz (l.set i u) rest else none
    | none => none

def src8 (st : St) : PV → Option (List UInt8)
  | .nils => some []
  | .str s => some s
  | .bys _ l => some l
  | .ms b off n => match st.boxes[b]? with
    | some cs => if off + n ≤ cs.length then bytesOf ((cs.drop off).take n) else none
    | none => none
  | _ => none

def b2s (mu : Bool) (st : St) : PV → Option (List UInt8)
  | .nils => some []
  | .bys _ l => some l
  | .ms b off n => if mu then src8 st (.ms b off n) else none
  | _ => none

def srcV (esz : Nat) : PV → Option (List PV)
  | .nils => some []
  | .sl e _ xs => if e = esz then some xs else none
  | _ => none

def room : Nat := 68719476736

def appTok (st : St) : Tok → Option St
  | .own i => if st.toks[i]? = some true then some { st with toks := st.toks.set i false } else none
  | .ex => some st
  | .no => none

def app8 (st : St) (s x : PV) : Option (PV × St) :=
  match src8 st x with
  | none => none
  | some new =>
    match s with
    | .nils => if new = [] then some (.nils, st) else
        if new.length ≤ room then some (.bys (freshT st).1 new, (freshT st).2) else none
    | .bys t l => if new = [] then some (.bys t l, st) else
        if l.length + new.length ≤ room then
          match appTok st t with
          | some st1 => some (.bys (freshT st1).1 (l ++ new), (freshT st1).2)
          | none => none
        else none
    | _ => none

def appV (esz : Nat) (st : St) (s x : PV) : Option (PV × St) :=
  match srcV esz x with
  | none => none
  | some new =>
    match s with
    | .nils => if new = [] then some (.nils, st) else
        if new.length ≤ room then some (.sl esz (freshT st).1 new, (freshT st).2) else none
    | .sl e t l => if e = esz then (if new = [] then some (.sl e t l, st) else
        if l.length + new.length ≤ room then
          match appTok st t with
          | some st1 => some (.sl e (freshT st1).1 (l ++ new), (freshT st1).2)
          | none => none
        else none) else none
    | _ => none

def intOf : PV → Option Int
  | .int _ n => some n
  | .b8 b => some b.toNat
  | _ => none

def bnd (y : Nat) (d : Nat) : Option PV → Option Nat
  | none => some d
  | some v => match intOf v with
    | some i => if 0 ≤ i ∧ i ≤ y then some i.toNat else none
    | none => none

def sufTok (t : Tok) (hi mx : Option PV) (h m : Nat) : Tok :=
  match hi, mx with
  | none, _ => t
  | some _, none => .no
  | some _, some _ => if h = m then .ex else .no

def cutTok (l : Nat) (t : Tok) : Tok := if l = 0 then t else match t with
  | .own _ => .no
  | t => t

def slcPV (esz : Nat) (x : PV) (lo hi mx : Option PV) : Option PV :=
  let n : Option Nat := match x with
    | .str s => some s.length | .nils => some 0 | .bys _ l => some l.length | .sl _ _ xs => some xs.length | .ms _ _ len => some len | _ => none
  match n with
  | none => none
  | some n => match bnd n n mx with
    | none => none
    | some m => match bnd m n hi with
      | none => none
      | some h => match bnd h 0 lo with
        | none => none
        | some l => match x with
          | .str s => if mx.isSome ∨ esz ≠ 0 then none else some (.str ((s.take h).drop l))
          | .nils => if esz = 0 then none else some .nils
          | .bys t s => if esz = 1 then some (.bys (cutTok l (sufTok t hi mx h m)) ((s.take h).drop l)) else none
          | .sl e t xs => if e = esz ∧ esz ≠ 0 then some (.sl e (sufTok t hi mx h m) ((xs.take h).drop l)) else none
          | .ms b off _ => if esz = 0 then none else some (.ms b (off + l * esz) (h - l))
          | _ => none

def slcAPV (len esz : Nat) (x : PV) (lo hi mx : Option PV) : Option PV :=
  match x with
  | .ptr b off => match bnd len len mx with
    | none => none
    | some m => match bnd m len hi with
      | none => none
      | some h => match bnd h 0 lo with
        | none => none
        | some l => if esz = 0 then none else some (.ms b (off + l * esz) (h - l))
  | _ => none

def slcTPV (x hi : PV) : Option PV :=
  match intOf hi with
  | none => none
  | some i => match x with
    | .nils => if i = 0 then some .nils else none
    | .bys t l => if 0 ≤ i ∧ i ≤ l.length then some (if i = l.length then .bys t l else .bys .no (l.take i.toNat)) else none
    | _ => none

def copyPV (st : St) (d s : PV) : Option (PV × St) :=
  match src8 st s with
  | none => none
  | some new => match d with
    | .nils => some (.int .i64 0, st)
    | .ms b off n => match st.boxes[b]? with
      | some cs => if off + n ≤ cs.length then
          some (.int .i64 (min new.length n : Nat), { st with boxes := st.boxes.set b (setCells cs off ((new.take n).map .b8)) })
        else none
      | none => none
    | _ => none

def faddrPV (off : Nat) : PV → Option PV
  | .ptr b o => some (.ptr b (o + off))
  | .cp cells => some (.cp (cells.drop off))
  | _ => none

def fldPV (ag : Bool) (off sz : Nat) : PV → Option PV
  | .agg cells => readCells ag sz (cells.drop off)
  | _ => none

def iaddrPV (esz : Nat) (x i : PV) : Option PV :=
  match intOf i with
  | none => none
  | some i => match x with
    | .bys _ l => if esz = 1 ∧ 0 ≤ i ∧ i < l.length then some (.cp [.b8 (l.getD i.toNat 0)]) else none
    | .sl e _ xs => if e = esz ∧ 0 ≤ i ∧ i < xs.length then some (.cp (xs.getD i.toNat .undef).cells) else none
    | .ms b off n => if 0 ≤ i ∧ i < n then some (.ptr b (off + i.toNat * esz)) else none
    | _ => none

def iaddrAPV (len esz : Nat) (x i : PV) : Option PV :=
  match intOf i with
  | none => none
  | some i => if 0 ≤ i ∧ i < len then faddrPV (i.toNat * esz) x else none

def idxPV (len : Nat) (ag : Bool) (esz : Nat) (x i : PV) : Option PV :=
  match intOf i with
  | none => none
  | some i => match x with
    | .agg cells => if 0 ≤ i ∧ i < len then readCells ag esz (cells.drop (i.toNat * esz)) else none
    | _ => none

def idxSPV (x i : PV) : Option PV :=
  match intOf i with
  | none => none
  | some i => match x with
    | .str s => if 0 ≤ i ∧ i < s.length then some (.b8 (s.getD i.toNat 0)) else none
    | _ => none

def lenPV : Bool → PV → Option PV
  | true, .str s => some (.int .i64 s.length)
  | false, .nils => some (.int .i64 0)
  | false, .bys _ l => some (.int .i64 l.length)
  | false, .sl _ _ xs => some (.int .i64 xs.length)
  | false, .ms _ _ n => some (.int .i64 n)
  | _, _ => none

def mnmxPV (mx : Bool) : List PV → Option PV
  | [.int k a, .int k' b] => if k = k' then some (.int k (if mx then max a b else min a b)) else none
  | [.int k a, .int k' b, .int k'' c] => if k = k' ∧ k = k'' then some (.int k (if mx then max (max a b) c else min (min a b) c)) else none
  | _ => none

def qcjz (k : Nat) : PV → Option PV
  | .tup vs => vs[k]?
  | _ => none

def qckz : PV → Option PV
  | .ptr b o => some (.ptr b o)
  | .cp c => some (.cp c)
  | .fn f c => some (.fn f c)
  | .yld k => some (.yld k)
  | _ => none

def Tok.same : Tok → Tok → Bool
  | .no, .no => true
  | .own i, .own j => i == j
  | .ex, .ex => true
  | _, _ => false
mutual
def PV.same : PV → PV → Bool
  | .undef, .undef => true
  | .bool a, .bool b => a == b
  | .b8 a, .b8 b => a == b
  | .int k a, .int k' b => decide (k = k') && a == b
  | .str a, .str b => a == b
  | .nilp, .nilp => true
  | .ptr a b, .ptr c d => a == c && b == d
  | .cp a, .cp b => sameAll a b
  | .nils, .nils => true
  | .bys t a, .bys u b => t.same u && a == b
  | .sl e t a, .sl f u b => e == f && t.same u && sameAll a b
  | .ms a b c, .ms d e f => a == d && b == e && c == f
  | .fn a b, .fn c d => a == c && sameAll b d
  | .yld a, .yld b => a == b
  | .nilf, .nilf => true
  | .nili, .nili => true
  | .agg a, .agg b => sameAll a b
  | .tup a, .tup b => sameAll a b
  | .bslot, .bslot => true
  | .mref a, .mref b => a == b
  | _, _ => false
def sameAll : List PV → List PV → Bool
  | [], [] => true
  | a :: as, b :: bs => a.same b && sameAll as bs
  | _, _ => false
end
def sameB : List (List PV) → List (List PV) → Bool
  | [], [] => true
  | a :: as, b :: bs => sameAll a b && sameB as bs
  | _, _ => false

theorem Tok.same_eq {t u : Tok} (h : t.same u = true) : t = u := by cases t <;> cases u <;> simp_all [Tok.same]
mutual
theorem PV.same_eq : ∀ p q : PV, p.same q = true → p = q
  | .undef, q, h | .nilp, q, h | .nils, q, h | .nilf, q, h | .nili, q, h | .bslot, q, h | .bool _, q, h | .b8 _, q, h | .str _, q, h | .ptr _ _, q, h | .ms _ _ _, q, h | .yld _, q, h | .int _ _, q, h | .mref _, q, h => by cases q <;> simp_all [PV.same]
  | .cp a, q, h => by
    cases q <;> simp only [PV.same, Bool.false_eq_true] at h
    rw [sameAll_eq _ _ h]
  | .agg a, q, h => by
    cases q <;> simp only [PV.same, Bool.false_eq_true] at h
    rw [sameAll_eq _ _ h]
  | .tup a, q, h => by
    cases q <;> simp only [PV.same, Bool.false_eq_true] at h
    rw [sameAll_eq _ _ h]
  | .bys t a, q, h => by
    cases q <;> simp only [PV.same, Bool.false_eq_true, Bool.and_eq_true, beq_iff_eq] at h
    rw [Tok.same_eq h.1, h.2]
  | .sl e t a, q, h => by
    cases q <;> simp only [PV.same, Bool.false_eq_true, Bool.and_eq_true, beq_iff_eq] at h
    rw [h.1.1, Tok.same_eq h.1.2, sameAll_eq _ _ h.2]
  | .fn a b, q, h => by
    cases q <;> simp only [PV.same, Bool.false_eq_true, Bool.and_eq_true, beq_iff_eq] at h
    rw [h.1, sameAll_eq _ _ h.2]
theorem sameAll_eq : ∀ a b : List PV, sameAll a b = true → a = b
  | [], b, h => by cases b <;> simp_all [sameAll]
  | x :: a, b, h => by
    cases b <;> simp only [sameAll, Bool.false_eq_true, Bool.and_eq_true] at h
    rw [PV.same_eq _ _ h.1, sameAll_eq _ _ h.2]
end
theorem sameB_eq : ∀ a b : List (List PV), sameB a b = true → a = b
  | [], b, h => by cases b <;> simp_all [sameB]
  | x :: a, b, h => by
    cases b <;> simp only [sameB, Bool.false_eq_true, Bool.and_eq_true] at h
    rw [sameAll_eq _ _ h.1, sameB_eq _ _ h.2]

def keepB (st : St) : Option (PV × St) → Option (PV × St)
  | some (v, s) => if sameB s.boxes st.boxes = true then some (v, s) else none
  | none => none
theorem keepB_some {st s : St} {v : PV} {o : Option (PV × St)} (h : keepB st o = some (v, s)) : o = some (v, s) ∧ s.boxes = st.boxes := by
  cases o with
  | none => simp [keepB] at h
  | some q =>
    obtain ⟨v', s'⟩ := q
    simp only [keepB] at h
    split at h
    · rename_i hs
      cases h; exact ⟨rfl, sameB_eq _ _ hs⟩
    · cases h

theorem keepB_mono {st : St} {o o' : Option (PV × St)} {r : PV × St} (h : ∀ r, o = some r → o' = some r) (hk : keepB st o = some r) : keepB st o' = some r := by
  cases o with
  | none => simp [keepB] at hk
  | some q => rw [h q rfl]; exact hk
def scalL : PV → Bool
  | .bool _ | .b8 _ | .int _ _ | .str _ => true
  | _ => false
def scalA : PV → Bool
  | .agg cs => cs.all scalL
  | v => scalL v
def scal : PV → Bool
  | .tup ps => ps.all scalA
  | v => scalA v
def isFn0 : PV → Bool
  | .fn _ [] => true
  | _ => false
def purV : Option (PV × St) → Option PV
  | some (v, _) => if scal v = true then some v else none
  | none => none
def callpV (callV : PV → List PV → St → Option (PV × St)) (f : PV) (args : List PV) : Option PV :=
  if isFn0 f = true ∧ args.all scal = true then purV (callV f args ⟨[], [], [], 0⟩) else none
theorem callp_some {callV : PV → List PV → St → Option (PV × St)} {f v : PV} {args : List PV} (h : callpV callV f args = some v) :
    isFn0 f = true ∧ args.all scal = true ∧ scal v = true ∧ ∃ s, callV f args ⟨[], [], [], 0⟩ = some (v, s) := by
  unfold callpV at h
  split at h
  · rename_i hc
    unfold purV at h
    split at h
    · rename_i v' s' hs
      split at h
      · rename_i hv
        cases h; exact ⟨hc.1, hc.2, hv, s', hs⟩
      · cases h
    · cases h
  · cases h
theorem callp_of {callV : PV → List PV → St → Option (PV × St)} {f v : PV} {args : List PV} {s : St} (h1 : isFn0 f = true) (h2 : args.all scal = true) (h3 : scal v = true) (h : callV f args ⟨[], [], [], 0⟩ = some (v, s)) : callpV callV f args = some v := by
  unfold callpV
  rw [if_pos ⟨h1, h2⟩, h]
  simp [purV, h3]

def kvGet (k : List UInt8) : List PV → Option Bool
  | .str a :: .bool b :: r => if a = k then some b else kvGet k r
  | _ => some false
def kvPut (k : List UInt8) (v : Bool) : List PV → List PV
  | .str a :: .bool b :: r => if a = k then .str a :: .bool v :: r else .str a :: .bool b :: kvPut k v r
  | _ => [.str k, .bool v]
def mgetPV (st : St) (x k : PV) : Option PV :=
  match x, k with
  | .mref b, .str k => match st.boxes[b]? with
    | some cs => (kvGet k cs).map .bool
    | none => none
  | _, _ => none
def mputPV (st : St) (x k v : PV) : Option (PV × St) :=
  match x, k, v with
  | .mref b, .str k, .bool v => match st.boxes[b]? with
    | some cs => some (.undef, { st with boxes := st.boxes.set b (kvPut k v cs) })
    | none => none
  | _, _, _ => none

def zeroLeaf : PV → Bool
  | .bool _ | .b8 _ | .int _ _ | .str _ => true
  | _ => false
def clrPV (st : St) (zero : List PV) (x : PV) : Option (PV × St) :=
  match x with
  | .nils => some (.undef, st)
  | .ms b off n => match st.boxes[b]? with
    | some cs => if off + n * zero.length ≤ cs.length ∧ zero.all zeroLeaf = true then some (.undef, { st with boxes := st.boxes.set b (setCells cs off (List.replicate n zero).flatten) }) else none
    | none => none
  | _ => none
def chunks (esz n : Nat) (cs : List PV) : List PV := (List.range n).map fun i => .agg ((cs.drop (i * esz)).take esz)
def frzPV (st : St) (esz : Nat) (x : PV) : Option (PV × St) :=
  match x with
  | .nils => some (.nils, st)
  | .ms b off n => match st.boxes[b]? with
    | some cs => if off = 0 ∧ n * esz ≤ cs.length ∧ cs.all zeroLeaf = true then some (.sl esz .no (chunks esz n cs), { st with boxes := st.boxes.set b [] }) else none
    | none => none
  | _ => none

def evOp (callV : PV → List PV → St → Option (PV × St)) (op : AOp) (e : Env) (st : St) : Option (PV × St) :=
  let p (v : Option PV) : Option (PV × St) := v.map fun v => (v, st)
  match op with
  | .mov x => some (x.ev e, st)
  | .pick c a b => match c.ev e with
    | .bool t => some (if t then a.ev e else b.ev e, st)
    | _ => none
  | .alloc zero => some (allocPV st zero)
  | .box x => if (x.ev e).inB st.boxes.length = true ∧ (x.ev e).cells.all leafOk = true then some (allocPV st (x.ev e).cells) else none
  | .boxc x => p ((strip (x.ev e)).map fun u => .cp u.cells)
  | .build zero parts => p ((buildCells zero (parts.map fun q => (q.1, q.2.1, q.2.2.ev e))).map .agg)
  | .lit8 len parts => match lit8Fill (List.replicate len 0) (parts.map fun q => (q.1, q.2.ev e)) with
    | some l => some (.bys (freshT st).1 l, (freshT st).2)
    | none => none
  | .lit esz zero len parts => match litFill esz (List.replicate len zero) (parts.map fun q => (q.1, q.2.ev e)) with
    | some l => some (.sl esz (freshT st).1 l, (freshT st).2)
    | none => none
  | .load ag sz a => p (loadPV st ag sz (a.ev e))
  | .loadc ag sz a => p (loadcPV ag sz (a.ev e))
  | .store sz a x => (storePV st sz (a.ev e) (x.ev e)).map fun st' => (.undef, st')
  | .nilck x => p (qckz (x.ev e))
  | .bin op ek x y => p (binPV op ek (x.ev e) (y.ev e))
  | .un op x => p (unPV op (x.ev e))
  | .cInt k x => p (cIntPV k (x.ev e))
  | .cS2B mu x => match x.ev e with
    | .str s =>
      if mu then some (.ms st.boxes.length 0 s.length, { st with boxes := st.boxes ++ [s.map .b8] })
      else some (.bys (freshT st).1 s, (freshT st).2)
    | _ => none
  | .cB2S mu x => p ((b2s mu st (x.ev e)).map .str)
  | .cStr x => match x.ev e with
    | .str s => some (.str s, st)
    | _ => none
  | .cSame x => match x.ev e with
    | .bys (.own i) l => if st.toks[i]? = some true then some (.bys (.own i) l, st) else none
    | _ => none
  | .mkfn f caps => if (caps.map (·.ev e)).all capOk = true then some (.fn f (caps.map (·.ev e)), st) else none
  | .mk8 mu l c => match l.ev e, c.ev e with
    | .int _ l, .int _ c =>
      if 0 ≤ l ∧ l ≤ c ∧ c ≤ room then
        (if mu then some (.ms st.boxes.length 0 l.toNat, { st with boxes := st.boxes ++ [List.replicate l.toNat (.b8 0)] })
        else some (.bys (freshT st).1 (List.replicate l.toNat 0), (freshT st).2))
      else none
    | _, _ => none
  | .mkms zero l c => match l.ev e, c.ev e with
    | .int _ l, .int _ c =>
      if 0 ≤ l ∧ l ≤ c ∧ c ≤ room then
        some (.ms st.boxes.length 0 l.toNat, { st with boxes := st.boxes ++ [(List.replicate l.toNat zero).flatten] })
      else none
    | _, _ => none
  | .slc esz x lo hi mx => p (slcPV esz (x.ev e) (lo.map (·.ev e)) (hi.map (·.ev e)) (mx.map (·.ev e)))
  | .faddr off x => p (faddrPV off (x.ev e))
  | .fld ag off sz x => p (fldPV ag off sz (x.ev e))
  | .iaddr esz x i => p (iaddrPV esz (x.ev e) (i.ev e))
  | .iaddrA len esz x i => p (iaddrAPV len esz (x.ev e) (i.ev e))
  | .idx len ag esz x i => p (idxPV len ag esz (x.ev e) (i.ev e))
  | .idxS x i => p (idxSPV (x.ev e) (i.ev e))
  | .ext k x => p (qcjz k (x.ev e))
  | .len s x => p (lenPV s (x.ev e))
  | .app u8 esz s x => if u8 then app8 st (s.ev e) (x.ev e) else appV esz st (s.ev e) (x.ev e)
  | .mnmx mx xs => p (mnmxPV mx (xs.map (·.ev e)))
  | .call f args => callV (f.ev e) (args.map (·.ev e)) st
  | .callk f args => keepB st (callV (f.ev e) (args.map (·.ev e)) st)
  | .storek sz a x => keepB st ((storePV st sz (a.ev e) (x.ev e)).map fun st' => (.undef, st'))
  | .slcA len esz x lo hi mx => p (slcAPV len esz (x.ev e) (lo.map (·.ev e)) (hi.map (·.ev e)) (mx.map (·.ev e)))
  | .copy d s => copyPV st (d.ev e) (s.ev e)
  | .slcT x hi => p (slcTPV (x.ev e) (hi.ev e))
  | .lit8c len parts => p ((lit8Fill (List.replicate len 0) (parts.map fun q => (q.1, q.2.ev e))).map fun l => .bys .no l)
  | .litc esz zero len parts => p ((litFill esz (List.replicate len zero) (parts.map fun q => (q.1, q.2.ev e))).map fun l => .sl esz .no l)
  | .mkmap => some (.mref st.boxes.length, { st with boxes := st.boxes ++ [[]] })
  | .mget x k => p (mgetPV st (x.ev e) (k.ev e))
  | .mput x k v => mputPV st (x.ev e) (k.ev e) (v.ev e)
  | .callp f args => p (callpV callV (f.ev e) (args.map (·.ev e)))
  | .clr z x => clrPV st z (x.ev e)
  | .frz esz x => frzPV st esz (x.ev e)

def wantedA (g : Option (Nat × Bool)) (e : Env) : Bool :=
  match g with
  | none => true
  | some (d, want) => match e d with
    | .bool b => b == want
    | _ => false

def evOps (callV : PV → List PV → St → Option (PV × St)) : List AOper → Env → St → Option (Env × St)
  | [], e, st => some (e, st)
  | o :: rest, e, st =>
    if wantedA o.guard e then
      match evOp callV o.op e st with
      | some (v, st') => evOps callV rest (updO e o.dst v) st'
      | none => none
    else evOps callV rest (updO e o.dst .undef) st

def findLabelA : ACode → Nat → Option ACode
  | .seq a b, l =>
    match findLabelA a l with
    | some rest => some (.seq rest b)
    | none => findLabelA b l
  | .label l', l => if l' == l then some .skip else none
  | _, _ => none

def updAll (e : Env) : List Nat → List PV → Env
  | p :: ps, v :: vs => updAll (upd e p v) ps vs
  | _, _ => e

def rv1 (e : Env) (st : St) : RV → Option PV
  | .tmp t => some (e t)
  | .cell t ag sz => loadPV st ag sz (e t)

def rvAll (e : Env) (st : St) : List RV → Option (List PV)
  | [] => some []
  | r :: rs => match rv1 e st r, rvAll e st rs with
    | some v, some vs => some (v :: vs)
    | _, _ => none

def notTup : PV → Bool
  | .tup _ => false
  | _ => true

def packRes : List PV → PV
  | [v] => v
  | vs => .tup vs

def resOf (e : Env) (st : St) (rs : List RV) : Option PV :=
  match rvAll e st rs with
  | some vs => if vs.all notTup = true then some (packRes vs) else none
  | none => none

def keepTok (n : Nat) (toks : List Bool) (acc : List Nat) : Tok → Tok × List Nat
  | .own i => if i < n then (.own i, acc) else
      if toks[i]? = some true ∧ ¬ i ∈ acc then (.own (n + acc.length), acc ++ [i]) else (.no, acc)
  | t => (t, acc)

def keepLeaf (n : Nat) (toks : List Bool) (acc : List Nat) : PV → PV × List Nat
  | .bys t l => let r := keepTok n toks acc t; (.bys r.1 l, r.2)
  | .sl e t xs => let r := keepTok n toks acc t; (.sl e r.1 xs, r.2)
  | v => (v, acc)

def keepCells (n : Nat) (toks : List Bool) (acc : List Nat) : List PV → List PV × List Nat
  | [] => ([], acc)
  | v :: vs => let r := keepLeaf n toks acc v; let s := keepCells n toks r.2 vs; (r.1 :: s.1, s.2)

def keepVal (n : Nat) (toks : List Bool) (acc : List Nat) : PV → PV × List Nat
  | .agg cs => let r := keepCells n toks acc cs; (.agg r.1, r.2)
  | v => keepLeaf n toks acc v

def keepVals (n : Nat) (toks : List Bool) (acc : List Nat) : List PV → List PV × List Nat
  | [] => ([], acc)
  | v :: vs => let r := keepVal n toks acc v; let s := keepVals n toks r.2 vs; (r.1 :: s.1, s.2)

def keepRes (n : Nat) (toks : List Bool) : PV → PV × List Nat
  | .tup vs => let r := keepVals n toks [] vs; (.tup r.1, r.2)
  | v => keepVal n toks [] v

def leave (st st1 : St) (v : PV) : PV × St :=
  if v.inB st.boxes.length = true then
    if st.boxes.length ≤ st1.low then
      let r := keepRes st.toks.length st1.toks v
      (r.1, { boxes := st1.boxes.take st.boxes.length, toks := st1.toks.take st.toks.length ++ List.replicate r.2.length true, loops := st1.loops, low := st.low })
    else (v, { boxes := st1.boxes.take st.boxes.length, toks := st1.toks, loops := st1.loops, low := min st.low st1.low })
  else match v with
    | .ms b off len => (match (if st.boxes.length ≤ b then src8 st1 (.ms b off len) else none) with
      | some l => if st.boxes.length ≤ st1.low then
          (.bys .no l, { boxes := st1.boxes.take st.boxes.length, toks := st1.toks.take st.toks.length, loops := st1.loops, low := st.low })
        else (.bys .no l, { boxes := st1.boxes.take st.boxes.length, toks := st1.toks, loops := st1.loops, low := min st.low st1.low })
      | none => (.ms b off len, { boxes := st1.boxes, toks := st1.toks, loops := st1.loops, low := min st.low st1.low }))
    | v => (v, { boxes := st1.boxes, toks := st1.toks, loops := st1.loops, low := min st.low st1.low })

def updS (st : St) : Upd → Option St
  | .no => some st
  | .store a x => storePV st 1 a x
  | .kill i => if st.toks[i]? = some true then some { st with toks := st.toks.set i false } else none
  | .new cs => if cs.all zeroLeaf = true then some { st with boxes := st.boxes ++ [cs] } else none

def env0 (args : List PV) : Env := fun t => args.getD t .undef

mutual
def evC (A : AP) : Nat → ACode → Env → St → Option (Ex × Env × St)
  | 0, _, _, _ => none
  | n + 1, c, e, st =>
    match c with
    | .skip => some (.normal, e, st)
    | .label _ => some (.normal, e, st)
    | .exit id => some (.exit id, e, st)
    | .goto l => some (.goto l, e, st)
    | .ret => some (.ret, e, st)
    | .region ops => match evOps (evV A n) ops e st with
      | some (e', st') => some (.normal, e', st')
      | none => none
    | .seq a b => match evC A n a e st with
      | some (.normal, e', st') => evC A n b e' st'
      | r => r
    | .cond c a b => match c.ev e with
      | .bool true => evC A n a e st
      | .bool false => evC A n b e st
      | _ => none
    | .block id b => match evC A n b e st with
      | some (.exit i, e', st') => some (if i = id then .normal else .exit i, e', st')
      | r => r
    | .loop b => match evC A n b e st with
      | some (.normal, e', st') => evC A n (.loop b) e' st'
      | r => r
    | .scope b => evC A n (.scopeAt b b) e st
    | .scopeAt b cur => match evC A n cur e st with
      | some (.goto l, e', st') => match findLabelA b l with
        | some rest => evC A n (.scopeAt b rest) e' st'
        | none => some (.goto l, e', st')
      | r => r
    | .rangeFunc f ps assign body =>
      match f.ev e with
      | .fn fid caps => match A fid with
        | some (.code _) =>
          match evV A n (.fn fid caps) [.yld st.loops.length] { st with loops := st.loops ++ [{ env := e, params := ps, assign, body, status := 0, pend := .normal }] } with
          | some (_, st1) => match st1.loops[st.loops.length]? with
            | some r => if r.status = 1 then none else some (r.pend, e, { st1 with loops := st1.loops.take st.loops.length })
            | none => none
          | none => none
        | _ => none
      | _ => none

def evV (A : AP) : Nat → PV → List PV → St → Option (PV × St)
  | 0, _, _, _ => none
  | n + 1, f, args, st =>
    match f with
    | .fn f caps => match A f with
      | some (.prim p) => (p (args ++ caps)).map fun v => (v, st)
      | some (.primS p) => match p (args ++ caps) st.boxes with
        | some (v, u) => (updS st u).map fun st' => (v, st')
        | none => none
      | some (.code fn) => match evC A n fn.body (env0 (args ++ caps)) { st with low := st.boxes.length } with
        | some (.normal, e, st1) => (resOf e st1 fn.results).map fun v => leave st st1 v
        | some (.ret, e, st1) => (resOf e st1 fn.results).map fun v => leave st st1 v
        | _ => none
      | none => none
    | .yld k => match st.loops[k]? with
      | some r =>
        if r.status = 0 ∧ args.length = r.params.length then
          match evC A n r.assign (updAll r.env r.params args) st with
          | some (.normal, e1, s1) => match s1.loops[k]? with
            | some r1 => if r1.status = 0 then
                match evC A n r.body e1 { s1 with loops := s1.loops.set k { r1 with status := 1 } } with
                | some (x, _, s2) => match s2.loops[k]? with
                  | some r2 => some (.bool (decide (x = .normal)), { s2 with loops := s2.loops.set k { r2 with status := if x = .normal then 0 else 2, pend := x } })
                  | none => none
                | none => none
              else none
            | none => none
          | _ => none
        else none
      | none => none
    | _ => none
end

end Go.Ab
/-
  Which boxes a run may have given tokens to.
-/
namespace Go.Ab

def toksOf (cs : List PV) : List Nat := cs.filterMap tokOf

structure SameLoop (r r1 : LoopS) : Prop where
  env : r1.env = r.env
  params : r1.params = r.params
  assign : r1.assign = r.assign
  body : r1.body = r.body
theorem SameLoop.refl (r : LoopS) : SameLoop r r := ⟨rfl, rfl, rfl, rfl⟩
theorem SameLoop.trans {a b c : LoopS} (h : SameLoop a b) (k : SameLoop b c) : SameLoop a c := ⟨k.env.trans h.env, k.params.trans h.params, k.assign.trans h.assign, k.body.trans h.body⟩

structure TK (st st1 : St) : Prop where
  ln : st1.loops.length = st.loops.length
  lk : ∀ (k : Nat) (r : LoopS), st.loops[k]? = some r → ∃ r1, st1.loops[k]? = some r1 ∧ SameLoop r r1
  lw : st1.low ≤ st1.boxes.length
  lo : st1.low ≤ st.low
  sz : st.boxes.length ≤ st1.boxes.length
  tk : ∀ (b : Nat) (cs1 : List PV), b < st1.low → st1.boxes[b]? = some cs1 → ∃ cs, st.boxes[b]? = some cs ∧ ∀ t ∈ toksOf cs1, t ∈ toksOf cs

theorem TK.refl {st : St} (h : st.low ≤ st.boxes.length) : TK st st := ⟨rfl, fun k r hr => ⟨r, hr, .refl r⟩, h, Nat.le_refl _, Nat.le_refl _, fun b cs _ hb => ⟨cs, hb, fun t ht => ht⟩⟩
theorem TK.trans {a b c : St} (h : TK a b) (k : TK b c) : TK a c :=
  ⟨k.ln.trans h.ln, fun i r hr => by
    obtain ⟨r1, h1, h2⟩ := h.lk i r hr
    obtain ⟨r2, h3, h4⟩ := k.lk i r1 h1
    exact ⟨r2, h3, h2.trans h4⟩, k.lw, Nat.le_trans k.lo h.lo, Nat.le_trans h.sz k.sz, fun i cs hi hb => by
    obtain ⟨cs1, h1, h2⟩ := k.tk i cs hi hb
    obtain ⟨cs2, h3, h4⟩ := h.tk i cs1 (Nat.lt_of_lt_of_le hi k.lo) h1
    exact ⟨cs2, h3, fun t ht => h4 t (h2 t ht)⟩⟩

theorem TK.of_eq {st st1 : St} (hb : st1.boxes = st.boxes) (hl : st1.low = st.low) (hp : st1.loops = st.loops) (h : st.low ≤ st.boxes.length) : TK st st1 :=
  ⟨by rw [hp], fun k r hr => ⟨r, by rw [hp]; exact hr, .refl r⟩, by rw [hb, hl]; exact h, by rw [hl]; exact Nat.le_refl _, by rw [hb]; exact Nat.le_refl _, fun b cs _ hx => ⟨cs, by rw [← hb]; exact hx, fun t ht => ht⟩⟩

theorem TK.push {st st1 : St} {cs : List PV} (hb : st1.boxes = st.boxes ++ [cs]) (hl : st1.low = st.low) (hp : st1.loops = st.loops) (h : st.low ≤ st.boxes.length) : TK st st1 :=
  ⟨by rw [hp], fun k r hr => ⟨r, by rw [hp]; exact hr, .refl r⟩, by rw [hb, hl]; simp; omega, by rw [hl]; exact Nat.le_refl _, by rw [hb]; simp, fun b cs' hlt hx => ⟨cs', by rw [hb, List.getElem?_append_left (by omega)] at hx; exact hx, fun t ht => ht⟩⟩

theorem toksOf_set (cs : List PV) (off : Nat) (v : PV) (hv : tokOf v = none) : ∀ t ∈ toksOf (cs.set off v), t ∈ toksOf cs := by
  intro t ht
  simp only [toksOf, List.mem_filterMap] at *
  obtain ⟨x, hx, hxt⟩ := ht
  rcases List.mem_or_eq_of_mem_set hx with hx | rfl
  · exact ⟨x, hx, hxt⟩
  · rw [hv] at hxt; cases hxt

theorem toksOf_setCells : ∀ (vs cs : List PV) (off : Nat), hasTok vs = false → ∀ t ∈ toksOf (setCells cs off vs), t ∈ toksOf cs := by
  intro vs
  induction vs with
  | nil => intro cs off _ t ht; exact ht
  | cons v vs ih =>
    intro cs off h t ht
    simp only [hasTok, List.any_cons, Bool.or_eq_false_iff] at h
    have h2 := ih (cs.set off v) (off + 1) h.2 t ht
    exact toksOf_set cs off v (by simpa using h.1) t h2

theorem storePV_TK {st st1 : St} {sz : Nat} {a x : PV} (h : storePV st sz a x = some st1) (hl : st.low ≤ st.boxes.length) : TK st st1 := by
  unfold storePV at h
  split at h
  · rename_i b off
    split at h
    · rename_i cs hcs
      split at h
      · cases h
        cases ht : hasTok x.cells with
        | true =>
          refine ⟨rfl, fun k r hr => ⟨r, hr, .refl r⟩, by simp; omega, by simp; omega, by simp, fun i cs1 hi hx => ?_⟩
          simp at hi
          simp only [List.getElem?_set_ne (show b ≠ i by omega)] at hx
          exact ⟨cs1, hx, fun t ht => ht⟩
        | false =>
          refine ⟨rfl, fun k r hr => ⟨r, hr, .refl r⟩, by simp; omega, by simp, by simp, fun i cs1 hi hx => ?_⟩
          by_cases hb : b = i
          · subst hb
            have hlt := (List.getElem?_eq_some_iff.1 hcs).1
            simp [hlt] at hx
            subst hx
            exact ⟨cs, hcs, toksOf_setCells _ _ _ ht⟩
          · simp only [List.getElem?_set_ne hb] at hx
            exact ⟨cs1, hx, fun t ht => ht⟩
      · cases h
    · cases h
  · cases h

theorem setCells_noTok (cs : List PV) (off : Nat) (l : List UInt8) : ∀ t ∈ toksOf (setCells cs off (l.map .b8)), t ∈ toksOf cs :=
  toksOf_setCells _ _ _ (by simp [hasTok, tokOf])

theorem copyPV_TK {st st1 : St} {d s v : PV} (h : copyPV st d s = some (v, st1)) (hl : st.low ≤ st.boxes.length) : TK st st1 := by
  unfold copyPV at h
  split at h
  · cases h
  · split at h
    · cases h; exact TK.refl hl
    · rename_i new _ b off n
      split at h
      · rename_i cs hcs
        split at h
        · cases h
          refine ⟨rfl, fun k r hr => ⟨r, hr, .refl r⟩, by simp; omega, by simp, by simp, fun i cs1 hi hx => ?_⟩
          by_cases hb : b = i
          · subst hb
            have hlt := (List.getElem?_eq_some_iff.1 hcs).1
            rw [List.getElem?_set_self hlt] at hx
            cases hx
            exact ⟨cs, hcs, setCells_noTok _ _ _⟩
          · simp only [List.getElem?_set_ne hb] at hx
            exact ⟨cs1, hx, fun t ht => ht⟩
        · cases h
      · cases h
    · cases h

theorem boxSet_TK {st : St} {b : Nat} {cs ds : List PV} (hcs : st.boxes[b]? = some cs) (h : ∀ t ∈ toksOf ds, t ∈ toksOf cs) (hl : st.low ≤ st.boxes.length) : TK st { st with boxes := st.boxes.set b ds } := by
  refine ⟨rfl, fun k r hr => ⟨r, hr, .refl r⟩, by simp; omega, by simp, by simp, fun i cs1 hi hx => ?_⟩
  by_cases hb : b = i
  · subst hb
    have hlt := (List.getElem?_eq_some_iff.1 hcs).1
    simp only [List.getElem?_set_self hlt] at hx
    cases hx
    exact ⟨cs, hcs, h⟩
  · simp only [List.getElem?_set_ne hb] at hx
    exact ⟨cs1, hx, fun t ht => ht⟩
theorem clrPV_TK {st st1 : St} {z : List PV} {x v : PV} (h : clrPV st z x = some (v, st1)) (hl : st.low ≤ st.boxes.length) : TK st st1 := by
  unfold clrPV at h
  split at h
  · cases h; exact TK.refl hl
  · split at h
    · rename_i cs hcs
      split at h
      · rename_i hc
        cases h
        refine boxSet_TK hcs (toksOf_setCells _ _ _ ?_) hl
        rw [Bool.eq_false_iff]
        intro hq
        simp only [hasTok, List.any_eq_true] at hq
        obtain ⟨q, q1, q2⟩ := hq
        obtain ⟨y, y1, y2⟩ := List.mem_flatten.1 q1
        rw [List.eq_of_mem_replicate y1] at y2
        have := List.all_eq_true.1 hc.2 q y2
        cases q <;> simp_all [zeroLeaf, tokOf]
      · cases h
    · cases h
  · cases h
theorem frzPV_TK {st st1 : St} {esz : Nat} {x v : PV} (h : frzPV st esz x = some (v, st1)) (hl : st.low ≤ st.boxes.length) : TK st st1 := by
  unfold frzPV at h
  split at h
  · cases h; exact TK.refl hl
  · split at h
    · rename_i cs hcs
      split at h
      · cases h
        exact boxSet_TK hcs (fun t ht => by simp [toksOf] at ht) hl
      · cases h
    · cases h
  · cases h

theorem kvPut_noTok (k : List UInt8) (v : Bool) : ∀ (cs : List PV), ∀ t ∈ toksOf (kvPut k v cs), t ∈ toksOf cs
  | cs, t, ht => by
    unfold kvPut at ht
    split at ht
    · rename_i a b r
      split at ht
      · simpa [toksOf, tokOf] using ht
      · have := kvPut_noTok k v r t
        simp only [toksOf, List.filterMap_cons, tokOf] at ht this ⊢
        exact this ht
    · simp [toksOf, tokOf] at ht
theorem mputPV_TK {st st1 : St} {x k v u : PV} (h : mputPV st x k v = some (u, st1)) (hl : st.low ≤ st.boxes.length) : TK st st1 := by
  unfold mputPV at h
  split at h
  · rename_i b k' v'
    split at h
    · rename_i cs hcs
      cases h
      refine ⟨rfl, fun k r hr => ⟨r, hr, .refl r⟩, by simp; omega, by simp, by simp, fun i cs1 hi hx => ?_⟩
      by_cases hb : b = i
      · subst hb
        have hlt := (List.getElem?_eq_some_iff.1 hcs).1
        rw [List.getElem?_set_self hlt] at hx
        cases hx
        exact ⟨cs, hcs, kvPut_noTok _ _ _⟩
      · simp only [List.getElem?_set_ne hb] at hx
        exact ⟨cs1, hx, fun t ht => ht⟩
    · cases h
  · cases h

theorem appTok_eq {st st1 : St} {t : Tok} (h : appTok st t = some st1) : st1.boxes = st.boxes ∧ st1.low = st.low ∧ st1.loops = st.loops := by
  unfold appTok at h
  split at h
  · split at h
    · cases h; exact ⟨rfl, rfl, rfl⟩
    · cases h
  · cases h; exact ⟨rfl, rfl, rfl⟩
  · cases h

theorem app8_eq {st st1 : St} {s x v : PV} (h : app8 st s x = some (v, st1)) : st1.boxes = st.boxes ∧ st1.low = st.low ∧ st1.loops = st.loops := by
  unfold app8 at h
  split at h
  · cases h
  · split at h
    · split at h
      · cases h; exact ⟨rfl, rfl, rfl⟩
      · split at h
        · cases h; exact ⟨rfl, rfl, rfl⟩
        · cases h
    · split at h
      · cases h; exact ⟨rfl, rfl, rfl⟩
      · split at h
        · split at h
          · rename_i st2 ht
            have h3 := appTok_eq ht
            cases h; exact ⟨h3.1, h3.2.1, h3.2.2⟩
          · cases h
        · cases h
    · cases h

theorem appV_eq {st st1 : St} {esz : Nat} {s x v : PV} (h : appV esz st s x = some (v, st1)) : st1.boxes = st.boxes ∧ st1.low = st.low ∧ st1.loops = st.loops := by
  unfold appV at h
  split at h
  · cases h
  · split at h
    · split at h
      · cases h; exact ⟨rfl, rfl, rfl⟩
      · split at h
        · cases h; exact ⟨rfl, rfl, rfl⟩
        · cases h
    · split at h
      · split at h
        · cases h; exact ⟨rfl, rfl, rfl⟩
        · split at h
          · split at h
            · rename_i st2 ht
              have h3 := appTok_eq ht
              cases h
              exact ⟨h3.1, h3.2.1, h3.2.2⟩
            · cases h
          · cases h
      · cases h
    · cases h

theorem evOp_TK {cv : PV → List PV → St → Option (PV × St)} (hcv : ∀ f args st v st', cv f args st = some (v, st') → st.low ≤ st.boxes.length → TK st st') {op : AOp} {e : Env} {st st' : St} {v : PV}
    (h : evOp cv op e st = some (v, st')) (hl : st.low ≤ st.boxes.length) : TK st st' := by
  have same : ∀ {o : Option PV}, (o.map fun v => (v, st)) = some (v, st') → TK st st' := fun ho => by
    simp only [Option.map_eq_some_iff] at ho
    obtain ⟨_, _, ho⟩ := ho
    cases ho; exact TK.refl hl
  cases op <;> simp only [evOp] at h
  case pick =>
    split at h
    · cases h; exact TK.refl hl
    · cases h
  case mov => cases h; exact TK.refl hl
  case alloc => cases h; exact TK.push rfl rfl rfl hl
  case box =>
    split at h
    · cases h; exact TK.push rfl rfl rfl hl
    · cases h
  case lit8 =>
    split at h
    · cases h; exact TK.of_eq rfl rfl rfl hl
    · cases h
  case lit =>
    split at h
    · cases h; exact TK.of_eq rfl rfl rfl hl
    · cases h
  case store =>
    simp only [Option.map_eq_some_iff] at h
    obtain ⟨st2, h1, h⟩ := h
    cases h; exact storePV_TK h1 hl
  case storek =>
    have h := (keepB_some h).1
    simp only [Option.map_eq_some_iff] at h
    obtain ⟨st2, h1, h⟩ := h
    cases h; exact storePV_TK h1 hl
  case cS2B mu x =>
    split at h
    · split at h
      · cases h; exact TK.push rfl rfl rfl hl
      · cases h; exact TK.of_eq rfl rfl rfl hl
    · cases h
  case cStr =>
    split at h
    · cases h; exact TK.refl hl
    · cases h
  case cSame =>
    split at h
    · split at h
      · cases h; exact TK.refl hl
      · cases h
    · cases h
  case mkfn =>
    split at h
    · cases h; exact TK.refl hl
    · cases h
  case mk8 mu l c =>
    split at h
    · split at h
      · split at h
        · cases h; exact TK.push rfl rfl rfl hl
        · cases h; exact TK.of_eq rfl rfl rfl hl
      · cases h
    · cases h
  case mkms =>
    split at h
    · split at h
      · cases h; exact TK.push rfl rfl rfl hl
      · cases h
    · cases h
  case app u8 esz s x =>
    split at h
    · obtain ⟨h1, h2, h3⟩ := app8_eq h; exact TK.of_eq h1 h2 h3 hl
    · obtain ⟨h1, h2, h3⟩ := appV_eq h; exact TK.of_eq h1 h2 h3 hl
  case copy => exact copyPV_TK h hl
  case mkmap => cases h; exact TK.push rfl rfl rfl hl
  case mput => exact mputPV_TK h hl
  case clr => exact clrPV_TK h hl
  case frz => exact frzPV_TK h hl
  case call => exact hcv _ _ _ _ _ h hl
  case callk => exact hcv _ _ _ _ _ (keepB_some h).1 hl
  all_goals exact same h

theorem evOps_TK {cv : PV → List PV → St → Option (PV × St)} (hcv : ∀ f args st v st', cv f args st = some (v, st') → st.low ≤ st.boxes.length → TK st st') : ∀ (ops : List AOper) (e : Env) (st : St) (e' : Env) (st' : St),
    evOps cv ops e st = some (e', st') → st.low ≤ st.boxes.length → TK st st' := by
  intro ops
  induction ops with
  | nil => intro e st e' st' h hl; simp [evOps] at h; obtain ⟨_, rfl⟩ := h; exact TK.refl hl
  | cons o rest ih =>
    intro e st e' st' h hl
    simp only [evOps] at h
    split at h
    · split at h
      · rename_i v st1 h1
        have t1 := evOp_TK hcv h1 hl
        exact t1.trans (ih _ _ _ _ h t1.lw)
      · cases h
    · exact ih _ _ _ _ h hl

theorem leave_parts (st st1 : St) (v : PV) : (leave st st1 v).2.loops = st1.loops ∧ (leave st st1 v).2.low ≤ st.low ∧ ((leave st st1 v).2.low = st.low ∧ st.boxes.length ≤ st1.low ∨ (leave st st1 v).2.low ≤ st1.low) ∧
    ((leave st st1 v).2.boxes = st1.boxes ∨ (leave st st1 v).2.boxes = st1.boxes.take st.boxes.length) := by
  unfold leave
  split
  · split
    · rename_i h; exact ⟨rfl, Nat.le_refl _, .inl ⟨rfl, h⟩, .inr rfl⟩
    · exact ⟨rfl, Nat.min_le_left _ _, .inr (Nat.min_le_right _ _), .inr rfl⟩
  · split
    · split
      · split
        · rename_i h; exact ⟨rfl, Nat.le_refl _, .inl ⟨rfl, h⟩, .inr rfl⟩
        · exact ⟨rfl, Nat.min_le_left _ _, .inr (Nat.min_le_right _ _), .inr rfl⟩
      · exact ⟨rfl, Nat.min_le_left _ _, .inr (Nat.min_le_right _ _), .inl rfl⟩
    · exact ⟨rfl, Nat.min_le_left _ _, .inr (Nat.min_le_right _ _), .inl rfl⟩

theorem leave_TK {st st1 : St} {v : PV} (hl : st.low ≤ st.boxes.length) (h : TK { st with low := st.boxes.length } st1) : TK st (leave st st1 v).2 := by
  have h1 : st1.low ≤ st.boxes.length := h.lo
  have h2 : st.boxes.length ≤ st1.boxes.length := h.sz
  have h3 := h.lw
  obtain ⟨p1, p2, p3, p4⟩ := leave_parts st st1 v
  have hlen : st.boxes.length ≤ (leave st st1 v).2.boxes.length := by
    rcases p4 with p4 | p4 <;> rw [p4]
    · exact h2
    · rw [List.length_take]; omega
  refine ⟨by rw [p1]; exact h.ln, fun k r hr => by rw [p1]; exact h.lk k r hr, by omega, p2, hlen, fun b cs hb hx => ?_⟩
  have hx' : st1.boxes[b]? = some cs := by
    rcases p4 with p4 | p4 <;> rw [p4] at hx
    · exact hx
    · simp only [List.getElem?_take] at hx
      split at hx
      · exact hx
      · cases hx
  exact h.tk b cs (by omega) hx'

theorem lk_round {l1 l2 : List LoopS} {k : Nat} {r1 r2 q1 q2 : LoopS} (h1 : l1[k]? = some r1) (hq1 : SameLoop r1 q1) (hlk : ∀ (k' : Nat) (r : LoopS), (l1.set k q1)[k']? = some r → ∃ r', l2[k']? = some r' ∧ SameLoop r r')
    (h2 : l2[k]? = some r2) (hq2 : SameLoop r2 q2) (k' : Nat) (r : LoopS) (hr : l1[k']? = some r) : ∃ r', (l2.set k q2)[k']? = some r' ∧ SameLoop r r' := by
  by_cases hk : k = k'
  · subst hk
    rw [h1] at hr; cases hr
    have hlt := (List.getElem?_eq_some_iff.1 h1).1
    have hlt2 := (List.getElem?_eq_some_iff.1 h2).1
    obtain ⟨r', a1, a2⟩ := hlk k q1 (by simp [hlt])
    rw [h2] at a1; cases a1
    exact ⟨q2, by simp [hlt2], hq1.trans (a2.trans hq2)⟩
  · obtain ⟨r', a1, a2⟩ := hlk k' r (by rw [List.getElem?_set_ne hk]; exact hr)
    exact ⟨r', by rw [List.getElem?_set_ne hk]; exact a1, a2⟩

theorem ev_TK (A : AP) : ∀ (n : Nat), (∀ c e st x e' st', evC A n c e st = some (x, e', st') → st.low ≤ st.boxes.length → TK st st') ∧ (∀ f args st v st', evV A n f args st = some (v, st') → st.low ≤ st.boxes.length → TK st st') := by
  intro n
  induction n with
  | zero => exact ⟨fun c e st x e' st' h => by simp [evC] at h, fun f args st v st' h => by simp [evV] at h⟩
  | succ n ih =>
    obtain ⟨ihC, ihV⟩ := ih
    constructor
    · intro c e st x e' st' h hl
      cases c <;> simp only [evC] at h
      case skip => cases h; exact TK.refl hl
      case label => cases h; exact TK.refl hl
      case exit => cases h; exact TK.refl hl
      case goto => cases h; exact TK.refl hl
      case ret => cases h; exact TK.refl hl
      case region =>
        split at h
        · rename_i h1
          cases h; exact evOps_TK ihV _ _ _ _ _ h1 hl
        · cases h
      case seq =>
        split at h
        · rename_i h1
          have t1 := ihC _ _ _ _ _ _ h1 hl
          exact t1.trans (ihC _ _ _ _ _ _ h t1.lw)
        · exact ihC _ _ _ _ _ _ h hl
      case cond =>
        split at h
        · exact ihC _ _ _ _ _ _ h hl
        · exact ihC _ _ _ _ _ _ h hl
        · cases h
      case block =>
        split at h
        · rename_i h1
          cases h; exact ihC _ _ _ _ _ _ h1 hl
        · exact ihC _ _ _ _ _ _ h hl
      case loop =>
        split at h
        · rename_i h1
          have t1 := ihC _ _ _ _ _ _ h1 hl
          exact t1.trans (ihC _ _ _ _ _ _ h t1.lw)
        · exact ihC _ _ _ _ _ _ h hl
      case scope => exact ihC _ _ _ _ _ _ h hl
      case scopeAt =>
        split at h
        · rename_i h1
          have t1 := ihC _ _ _ _ _ _ h1 hl
          split at h
          · exact t1.trans (ihC _ _ _ _ _ _ h t1.lw)
          · cases h; exact t1
        · exact ihC _ _ _ _ _ _ h hl
      case rangeFunc =>
        split at h
        · split at h
          · split at h
            · rename_i h1
              have t1 := ihV _ _ _ _ _ h1 hl
              split at h
              · split at h
                · cases h
                · cases h
                  refine ⟨by have := t1.ln; simp at this; simp; omega, fun k r hr => ?_, t1.lw, t1.lo, t1.sz, t1.tk⟩
                  have hk := (List.getElem?_eq_some_iff.1 hr).1
                  obtain ⟨r1, a1, a2⟩ := t1.lk k r (by simp [List.getElem?_append_left hk, hr])
                  exact ⟨r1, by simp [hk, a1], a2⟩
              · cases h
            · cases h
          · cases h
        · cases h
    · intro f args st v st' h hl
      cases f <;> simp only [evV] at h
      case fn =>
        split at h
        · simp only [Option.map_eq_some_iff] at h
          obtain ⟨_, _, h⟩ := h
          cases h; exact TK.refl hl
        · split at h
          · simp only [Option.map_eq_some_iff] at h
            obtain ⟨st2, h1, h⟩ := h
            cases h
            rename_i u _
            cases u with
            | no => simp only [updS, Option.some.injEq] at h1; subst h1; exact TK.refl hl
            | store a x => exact storePV_TK h1 hl
            | kill i =>
              simp only [updS] at h1
              split at h1
              · cases h1; exact TK.of_eq rfl rfl rfl hl
              · cases h1
            | new cs =>
              simp only [updS] at h1
              split at h1
              · cases h1; exact TK.push rfl rfl rfl hl
              · cases h1
          · cases h
        · split at h
          · rename_i h1
            simp only [Option.map_eq_some_iff] at h
            obtain ⟨vs, _, h⟩ := h
            have t1 := ihC _ _ _ _ _ _ h1 (Nat.le_refl _)
            have := leave_TK (v := vs) hl t1
            rw [h] at this; exact this
          · rename_i h1
            simp only [Option.map_eq_some_iff] at h
            obtain ⟨vs, _, h⟩ := h
            have t1 := ihC _ _ _ _ _ _ h1 (Nat.le_refl _)
            have := leave_TK (v := vs) hl t1
            rw [h] at this; exact this
          · cases h
        · cases h
      case yld =>
        split at h
        · split at h
          · split at h
            · rename_i h1
              have t1 := ihC _ _ _ _ _ _ h1 hl
              split at h
              · rename_i r1 hr1
                split at h
                · split at h
                  · rename_i h2
                    have t2 := ihC _ _ _ _ _ _ h2 t1.lw
                    split at h
                    · rename_i r2 hr2
                      cases h
                      refine t1.trans ⟨by have := t2.ln; simp at this; simp [this], fun k' r hr => ?_, t2.lw, t2.lo, t2.sz, t2.tk⟩
                      exact lk_round (q1 := { r1 with status := 1 }) hr1 ⟨rfl, rfl, rfl, rfl⟩ t2.lk hr2 (by exact ⟨rfl, rfl, rfl, rfl⟩) k' r hr
                    · cases h
                  · cases h
                · cases h
              · cases h
            · cases h
          · cases h
        · cases h
      all_goals cases h

end Go.Ab
/-
  What the abstract values stand for; and the check that abstract code belongs to a function's code.
-/
namespace Go.Ab

structure K where
  C : Nat → Nat → Option Value
  φ : List Nat
  lam : List (Nat × Nat)
  τ : List (Nat × Nat × Nat)
  /-- What a row is a row of. -/
  S : Nat → Option TypeId
  /-- Which boxes are maps. -/
  μ : Nat → Bool

structure K.le (κ κ' : K) : Prop where
  C : ∀ b i v, κ.C b i = some v → κ'.C b i = some v
  φ : ∀ (i x : Nat), κ.φ[i]? = some x → κ'.φ[i]? = some x
  lam : ∀ (i : Nat) (x : Nat × Nat), κ.lam[i]? = some x → κ'.lam[i]? = some x
  τ : ∀ (i : Nat) (x : Nat × Nat × Nat), κ.τ[i]? = some x → κ'.τ[i]? = some x
  S : ∀ (b : Nat) (t : TypeId), κ.S b = some t → κ'.S b = some t
  μ : ∀ b, b < κ.φ.length → κ'.μ b = κ.μ b

theorem K.le.refl (κ : K) : K.le κ κ := ⟨fun _ _ _ h => h, fun _ _ h => h, fun _ _ h => h, fun _ _ h => h, fun _ _ h => h, fun _ _ => rfl⟩
theorem K.le.φl {a b : K} (h : K.le a b) : a.φ.length ≤ b.φ.length := by
  rcases Nat.lt_or_ge b.φ.length a.φ.length with hl | hl
  · have := h.φ b.φ.length a.φ[b.φ.length] (by simp [hl])
    simp at this
  · exact hl
theorem K.le.μ' {a b : K} (h : K.le a b) {i x : Nat} {m : Bool} (hi : a.φ[i]? = some x) (hm : a.μ i = m) : b.μ i = m := by rw [h.μ i (List.getElem?_eq_some_iff.1 hi).1]; exact hm
theorem K.le.trans {a b c : K} (h : K.le a b) (k : K.le b c) : K.le a c :=
  ⟨fun _ _ _ x => k.C _ _ _ (h.C _ _ _ x), fun _ _ x => k.φ _ _ (h.φ _ _ x), fun _ _ x => k.lam _ _ (h.lam _ _ x), fun _ _ x => k.τ _ _ (h.τ _ _ x), fun _ _ x => k.S _ _ (h.S _ _ x), fun i hi => by rw [k.μ i (Nat.lt_of_lt_of_le hi h.φl), h.μ i hi]⟩

structure GMap where
  fn : FuncId → Option Nat
  /-- The Builder's type. -/
  tB : TypeId := 0
  /-- The bytes' type. -/
  tU : TypeId := 0
  inv : K → Prop
  mono : ∀ (κ κ' : K), (∀ (b i : Nat) (v : Value), κ.C b i = some v → κ'.C b i = some v) → inv κ → inv κ'
  glob : Nat → Option (List Value)
  globOK : ∀ (κ : K), inv κ → ∀ (gi : Nat) (vs : List Value), glob gi = some vs → ∀ (i : Nat) (v : Value), vs[i]? = some v → κ.C gi i = some v

instance : CoeFun GMap (fun _ => FuncId → Option Nat) := ⟨GMap.fn⟩

def flat (xs : List PV) : List PV := xs.flatMap PV.cells

def TokOK (κ : K) (t : Tok) (blk off n c esz : Nat) : Prop :=
  match t with
  | .no => True
  | .ex => n = c
  | .own i => ∃ e ce, κ.τ[i]? = some (blk, e, ce) ∧ (n < c → e = off + n * esz ∧ ce = off + c * esz)

inductive R (g : GMap) (κ : K) : Value → PV → Prop
  | undef : R g κ (.tuple #[]) .undef
  | bool (b : Bool) : R g κ (.bool b) (.bool b)
  | b8 (b : UInt8) (n : Int) (h : n = b.toNat) : R g κ (.int .u8 n) (.b8 b)
  | int (k : IntKind) (n : Int) (h : k ≠ .u8) : R g κ (.int k n) (.int k n)
  | str (s : ByteArray) (l : List UInt8) (h : s.data.toList = l) : R g κ (.string s) (.str l)
  | nilp : R g κ (.pointer none) .nilp
  | nils : R g κ (.slice none 0 0) .nils
  | nilf : R g κ .nilFunc .nilf
  | nili : R g κ .nilIface .nili
  | ptr (b off blk : Nat) (h : κ.φ[b]? = some blk) (hm : κ.μ b = false) : R g κ (.pointer (some ⟨blk, off, none⟩)) (.ptr b off)
  | cp (blk off : Nat) (vs : List Value) (cells : List PV) (hl : vs.length = cells.length) (hc : ∀ (i : Nat) (v : Value), vs[i]? = some v → κ.C blk (off + i) = some v)
      (hr : ∀ (i : Nat) (v : Value) (p : PV), vs[i]? = some v → cells[i]? = some p → R g κ v p) (hd : dataAll cells = true) (hlf : cells.all leafOk = true) :
      R g κ (.pointer (some ⟨blk, off, none⟩)) (.cp cells)
  | bys (blk off n c : Nat) (t : Tok) (l : List UInt8) (hn : n = l.length) (hc : n ≤ c)
      (hb : ∀ (i : Nat) (b : UInt8), l[i]? = some b → κ.C blk (off + i) = some (.int .u8 b.toNat)) (ht : TokOK κ t blk off n c 1) (hz : ∀ i, t = .own i → off = 0 ∧ κ.S blk = some g.tU) :
      R g κ (.slice (some ⟨blk, off, none⟩) n c) (.bys t l)
  | sl (blk off n c esz : Nat) (t : Tok) (xs : List PV) (vs : List Value) (hn : n = xs.length) (hc : n ≤ c) (he : ∀ x ∈ xs, x.cells.length = esz) (hl : vs.length = (flat xs).length)
      (hv : ∀ (i : Nat) (v : Value), vs[i]? = some v → κ.C blk (off + i) = some v)
      (hr : ∀ (i : Nat) (v : Value) (p : PV), vs[i]? = some v → (flat xs)[i]? = some p → R g κ v p) (hd : dataAll xs = true) (hlf : (flat xs).all leafOk = true) (ht : TokOK κ t blk off n c esz) :
      R g κ (.slice (some ⟨blk, off, none⟩) n c) (.sl esz t xs)
  | sl0 (a : Addr) (esz : Nat) (t : Tok) (ht : ∀ i, t ≠ .own i) : R g κ (.slice (some a) 0 0) (.sl esz t [])
  | ms (b off off' n c blk : Nat) (h : κ.φ[b]? = some blk) (hc : n ≤ c) (ho : n = 0 ∨ off' = off) (hm : κ.μ b = false) : R g κ (.slice (some ⟨blk, off', none⟩) n c) (.ms b off n)
  | fn (f' f : Nat) (cv : Array Value) (cap : List PV) (h : g f' = some f) (hl : cv.size = cap.length) (hk : cap.all capOk = true)
      (hr : ∀ (i : Nat) (v : Value) (p : PV), cv[i]? = some v → cap[i]? = some p → R g κ v p) : R g κ (.func (.func f') #[] cv) (.fn f cap)
  | yld (k l d : Nat) (h : κ.lam[k]? = some (l, d)) : R g κ (.func (.yield l) #[] #[]) (.yld k)
  | bslot : R g κ (.pointer none) .bslot
  | mref (b blk : Nat) (h : κ.φ[b]? = some blk) (hm : κ.μ b = true) : R g κ (.map (some blk)) (.mref b)
  | agg (vs : Array Value) (ps : List PV) (hl : vs.size = ps.length) (hlf : ps.all leafB = true)
      (hr : ∀ (i : Nat) (v : Value) (p : PV), vs[i]? = some v → ps[i]? = some p → R g κ v p) : R g κ (.agg vs) (.agg ps)
  | tup (vs : Array Value) (ps : List PV) (hl : vs.size = ps.length) (hnt : ps.all notTup = true)
      (hr : ∀ (i : Nat) (v : Value) (p : PV), vs[i]? = some v → ps[i]? = some p → R g κ v p) : R g κ (.tuple vs) (.tup ps)

theorem TokOK.mono {κ κ' : K} (h : ∀ (i : Nat) (x : Nat × Nat × Nat), κ.τ[i]? = some x → κ'.τ[i]? = some x) {t : Tok} {blk off n c esz : Nat} (ht : TokOK κ t blk off n c esz) : TokOK κ' t blk off n c esz := by
  cases t with
  | no => trivial
  | ex => exact ht
  | own i => obtain ⟨e, ce, h1, h2⟩ := ht; exact ⟨e, ce, h _ _ h1, h2⟩

theorem R.mono {g : GMap} {κ κ' : K} (hle : K.le κ κ') {v : Value} {p : PV} (h : R g κ v p) : R g κ' v p := by
  induction h with
  | undef => exact .undef
  | bool b => exact .bool b
  | b8 b n h => exact .b8 b n h
  | int k n h => exact .int k n h
  | str s l h => exact .str s l h
  | nilp => exact .nilp
  | nils => exact .nils
  | nilf => exact .nilf
  | nili => exact .nili
  | ptr b off blk h hm => exact .ptr b off blk (hle.φ _ _ h) (hle.μ' h hm)
  | cp blk off vs cells hl hc hr hd hlf ih => exact .cp blk off vs cells hl (fun i v h => hle.C _ _ _ (hc i v h)) (fun i v p h1 h2 => ih i v p h1 h2) hd hlf
  | bys blk off n c t l hn hc hb ht hz => exact .bys blk off n c t l hn hc (fun i b h => hle.C _ _ _ (hb i b h)) (ht.mono hle.τ) (fun i h => ⟨(hz i h).1, hle.S _ _ (hz i h).2⟩)
  | sl blk off n c esz t xs vs hn hc he hl hv hr hd hlf ht ih => exact .sl blk off n c esz t xs vs hn hc he hl (fun i v h => hle.C _ _ _ (hv i v h)) (fun i v p h1 h2 => ih i v p h1 h2) hd hlf (ht.mono hle.τ)
  | sl0 a esz t ht => exact .sl0 a esz t ht
  | ms b off off' n c blk h hc ho hm => exact .ms b off off' n c blk (hle.φ _ _ h) hc ho (hle.μ' h hm)
  | mref b blk h hm => exact .mref b blk (hle.φ _ _ h) (hle.μ' h hm)
  | fn f' f cv cap h hl hk hr ih => exact .fn f' f cv cap h hl hk (fun i v p h1 h2 => ih i v p h1 h2)
  | yld k l d h => exact .yld k l d (hle.lam _ _ h)
  | bslot => exact .bslot
  | agg vs ps hl hlf hr ih => exact .agg vs ps hl hlf (fun i v p h1 h2 => ih i v p h1 h2)
  | tup vs ps hl hnt hr ih => exact .tup vs ps hl hnt (fun i v p h1 h2 => ih i v p h1 h2)

theorem dataAll_get {xs : List PV} (h : dataAll xs = true) {i : Nat} {p : PV} (hp : xs[i]? = some p) : p.data = true := by
  induction xs generalizing i with
  | nil => simp at hp
  | cons x xs ih =>
    simp only [dataAll, Bool.and_eq_true] at h
    cases i with
    | zero => simp at hp; rw [← hp]; exact h.1
    | succ i => simp at hp; exact ih h.2 hp

theorem dataAll_append {xs ys : List PV} : dataAll (xs ++ ys) = (dataAll xs && dataAll ys) := by
  induction xs with
  | nil => simp [dataAll]
  | cons x xs ih => simp [dataAll, ih, Bool.and_assoc]

theorem data_cells {x : PV} (h : x.data = true) : dataAll x.cells = true := by
  cases x <;> simp_all [PV.cells, PV.data, dataAll]

theorem dataAll_flat {xs : List PV} (h : dataAll xs = true) : dataAll (flat xs) = true := by
  induction xs with
  | nil => simp [flat, dataAll]
  | cons x xs ih =>
    simp only [dataAll, Bool.and_eq_true] at h
    have := ih h.2
    simp only [flat, List.flatMap_cons] at *
    rw [dataAll_append, data_cells h.1, this]; rfl

theorem Tok.isNo_eq {t : Tok} (h : t.isNo = true) : t = .no := by cases t <;> simp_all [Tok.isNo]

theorem R.dataMono {g : GMap} {κ κ' : K} (hC : ∀ b i v, κ.C b i = some v → κ'.C b i = some v) {v : Value} {p : PV} (h : R g κ v p) (hd : p.data = true) : R g κ' v p := by
  induction h with
  | undef => exact .undef
  | bool b => exact .bool b
  | b8 b n h => exact .b8 b n h
  | int k n h => exact .int k n h
  | str s l h => exact .str s l h
  | nilp => exact .nilp
  | nils => exact .nils
  | nilf => exact .nilf
  | nili => exact .nili
  | ptr b off blk h hm => simp [PV.data] at hd
  | cp blk off vs cells hl hc hr hd hlf ih => simp_all [PV.data]
  | bys blk off n c t l hn hc hb ht hz =>
    simp only [PV.data] at hd
    obtain rfl := Tok.isNo_eq hd
    exact .bys blk off n c .no l hn hc (fun i b h => hC _ _ _ (hb i b h)) trivial (fun i h => by cases h)
  | sl blk off n c esz t xs vs hn hc he hl hv hr hd' hlf ht ih =>
    simp only [PV.data, Bool.and_eq_true] at hd
    obtain rfl := Tok.isNo_eq hd.1
    exact .sl blk off n c esz .no xs vs hn hc he hl (fun i v h => hC _ _ _ (hv i v h)) (fun i v p h1 h2 => ih i v p h1 h2 (dataAll_get (dataAll_flat hd') h2)) hd' hlf trivial
  | sl0 a esz t ht => exact .sl0 a esz t ht
  | ms b off off' n c blk h hc ho hm => simp [PV.data] at hd
  | mref b blk h hm => simp [PV.data] at hd
  | fn f' f cv cap h hl hk hr ih => simp [PV.data] at hd
  | yld k l d h => simp [PV.data] at hd
  | bslot => simp [PV.data] at hd
  | agg vs ps hl hlf hr ih =>
    simp only [PV.data] at hd
    exact .agg vs ps hl hlf (fun i v p h1 h2 => ih i v p h1 h2 (dataAll_get hd h2))
  | tup vs ps hl hnt hr ih => simp [PV.data] at hd

theorem R.cells {g : GMap} {κ : K} {v : Value} {p : PV} (h : R g κ v p) : v.cells.size = p.cells.length ∧ ∀ (i : Nat) (u : Value) (q : PV), v.cells[i]? = some u → p.cells[i]? = some q → R g κ u q := by
  cases h with
  | agg vs ps hl hlf hr => exact ⟨hl, hr⟩
  | _ =>
    refine ⟨rfl, fun i u q h1 h2 => ?_⟩
    rcases i with _ | i
    · simp [Value.cells, PV.cells] at h1 h2
      subst h1 h2
      first | constructor <;> assumption | (constructor <;> first | assumption | rfl)
    · simp [Value.cells] at h1

end Go.Ab
/-
  The check that abstract code belongs to a function's code.
-/
namespace Go.Ab

def chkLeaf : Value → PV → Bool
  | .bool b, .bool b' => b == b'
  | .int k n, .b8 b => decide (k = .u8) && decide (n = b.toNat)
  | .int k n, .int k' n' => decide (k = k') && decide (n = n') && decide (k ≠ .u8)
  | .string s, .str l => decide (s.data.toList = l)
  | .pointer none, .nilp => true
  | .slice none 0 0, .nils => true
  | .nilFunc, .nilf => true
  | .nilIface, .nili => true
  | _, _ => false

def chkLeaves : List Value → List PV → Bool
  | [], [] => true
  | v :: vs, p :: ps => chkLeaf v p && chkLeaves vs ps
  | _, _ => false

def isBslot : List PV → Bool
  | [.bslot, .nils] => true
  | _ => false
def isBzero : List Value → Bool
  | [.pointer none, .slice none 0 0] => true
  | _ => false
def chkAlloc (g : GMap) (t : TypeId) (v : Value) (z : List PV) : Bool := (isBslot z && decide (t = g.tB) && isBzero v.cells.toList) || chkLeaves v.cells.toList z

def chkConst : Value → PV → Bool
  | .agg cs, .agg ps => chkLeaves cs.toList ps
  | .tuple cs, .undef => cs.isEmpty
  | v, p => chkLeaf v p

def chkOpd (g : GMap) : Operand → Opd → Bool
  | .tmp t, .tmp t' => t == t'
  | .const v, .const p => chkConst v p
  | .func f, .fn f' => g f == some f'
  | .global gi, .const (.cp ps) => match g.glob gi with
    | some vs => chkLeaves vs ps
    | none => false
  | _, _ => false

def chkOpds (g : GMap) : List Operand → List Opd → Bool
  | [], [] => true
  | a :: as, b :: bs => chkOpd g a b && chkOpds g as bs
  | _, _ => false

def chkOpdO (g : GMap) : Option Operand → Option Opd → Bool
  | none, none => true
  | some a, some b => chkOpd g a b
  | _, _ => false

def isAggT (P : Program) (t : TypeId) : Option Bool :=
  match P.underlying t with
  | some (.struct _) => some true
  | some (.array _ _) => some true
  | some _ => some false
  | none => none

def sizeT (P : Program) (t : TypeId) : Option Nat := (P.info? t).map (·.size)
def zeroT (P : Program) (t : TypeId) : Option Value := (P.info? t).bind (·.zero)
def bytesT (P : Program) (t : TypeId) : Option Nat := (P.info? t).map (·.bytes)

def sliceElem (P : Program) (t : TypeId) : Option TypeId :=
  match P.underlying t with
  | some (.slice e) => some e
  | _ => none

def isU8 (P : Program) (e : TypeId) : Bool :=
  match P.underlying e with
  | some (.int .u8) => true
  | _ => false

def intT (P : Program) (t : TypeId) : Option IntKind :=
  match P.underlying t with
  | some (.int k) => some k
  | _ => none

def isStrT (P : Program) (t : TypeId) : Bool :=
  match P.underlying t with
  | some .string => true
  | _ => false

def arrT (P : Program) (t : TypeId) : Option (Nat × TypeId) :=
  match P.underlying t with
  | some (.array n e) => some (n, e)
  | _ => none

def fieldsT (P : Program) (t : TypeId) : Option (Array Field) :=
  match P.underlying t with
  | some (.struct fs) => some fs
  | _ => none

def fkOK (P : Program) (t : TypeId) : FK → Bool
  | .b => match P.underlying t with | some .bool => true | _ => false
  | .i => match P.underlying t with | some (.int _) => true | _ => false
  | .s => match P.underlying t with | some .string => true | _ => false

def eqFields (P : Program) : Nat → List Field → List FK → Bool
  | _, [], [] => true
  | i, f :: fs, k :: ks => decide (f.offset = i) && decide (f.name ≠ "_") && fkOK P f.type k && eqFields P (i + 1) fs ks
  | _, _, _ => false

def ekOK (P : Program) (t : TypeId) : EK → Bool
  | .no => true
  | .bool => match P.underlying t with | some .bool => true | _ => false
  | .ptr => match P.underlying t with | some (.pointer _) => true | _ => false
  | .slice => match P.underlying t with | some (.slice _) => true | _ => false
  | .func => match P.underlying t with | some (.func _ _ _) => true | _ => false
  | .struct ks => match P.underlying t with | some (.struct fs) => eqFields P 0 fs.toList ks && !P.stoodInHeld t && !P.eqGuardType P.depth t | _ => false

def chkPartsS (P : Program) (g : GMap) (fs : Array Field) : List (Nat × Operand) → List (Nat × Nat × Opd) → Bool
  | [], [] => true
  | (i, x) :: r, (off, sz, y) :: r' => (match fs[i]? with
      | some f => decide (f.offset = off) && decide (sizeT P f.type = some sz)
      | none => false) && chkOpd g x y && chkPartsS P g fs r r'
  | _, _ => false

def chkPartsA (g : GMap) (size : Nat) : List (Nat × Operand) → List (Nat × Nat × Opd) → Bool
  | [], [] => true
  | (i, x) :: r, (off, sz, y) :: r' => decide (off = i * size) && decide (sz = size) && chkOpd g x y && chkPartsA g size r r'
  | _, _ => false

def chkPartsL (g : GMap) : List (Nat × Operand) → List (Nat × Opd) → Bool
  | [], [] => true
  | (i, x) :: r, (j, y) :: r' => decide (i = j) && chkOpd g x y && chkPartsL g r r'
  | _, _ => false

def allFields (P : Program) (fs : Array Field) : Bool := fs.toList.all fun f => (sizeT P f.type).isSome

def chkBuiltin (P : Program) (g : GMap) (b : Builtin) (args : List Operand) (argTypes : Array TypeId) (a : AOp) : Bool :=
  match b, args, a with
  | .len, [x], .len st y => chkOpd g x y && (match argTypes[0]? with | some t => if st then isStrT P t else (sliceElem P t).isSome | none => false)
  | .append, [s, x], .app u8 esz s' x' => chkOpd g s s' && chkOpd g x x' && (match argTypes[0]?, argTypes[1]? with
      | some t, some xt => (match sliceElem P t with
          | some e => decide (sizeT P e = some esz) && decide (0 < esz) && (match bytesT P e with | some b => decide (0 < b) && decide (b ≤ 256) | none => false) && decide (intT P xt = none) && (P.underlying xt).isSome &&
              (match zeroT P e with | some z => decide (z.cells.size = esz) && z.cells.toList.all (fun v => match v with | .agg _ => false | .tuple _ => false | _ => true) | none => false) && (if u8 then isU8 P e && decide (esz = 1) && decide (e = g.tU) else !isU8 P e)
          | none => false)
      | _, _ => false)
  | .copy, [s, x], .copy s' x' => chkOpd g s s' && chkOpd g x x' && (match argTypes[0]? with
      | some t => (match sliceElem P t with | some e => decide (sizeT P e = some 1) | none => false)
      | none => false)
  | .clear, [x], .clr z y => chkOpd g x y && (match argTypes[0]? with
      | some t => (match sliceElem P t with
          | some e => decide (sizeT P e = some z.length) && decide (0 < z.length) && (match zeroT P e with | some v => chkLeaves v.cells.toList z | none => false)
          | none => false)
      | none => false)
  | .max, xs, .mnmx true ys => chkOpds g xs ys
  | .min, xs, .mnmx false ys => chkOpds g xs ys
  | _, _, _ => false

def mapT (P : Program) (t : TypeId) : Bool := match P.underlying t with
  | some (.map k e) => isStrT P k && (match zeroT P e with | some (.bool b) => !b | _ => false)
  | _ => false

def chkOp (P : Program) (g : GMap) (op : Op) (a : AOp) : Bool :=
  match op, a with
  | .move x, .mov y => chkOpd g x y
  | .assign x, .mov y => chkOpd g x y
  | .move x, .frz esz y => chkOpd g x y && decide (2 ≤ esz)
  | .assign x, .frz esz y => chkOpd g x y && decide (2 ≤ esz)
  | .pick c x y, .pick c' x' y' => chkOpd g c c' && chkOpd g x x' && chkOpd g y y'
  | .alloc t, .alloc z => (match zeroT P t with | some v => chkAlloc g t v z | none => false)
  | .box t x, .box y => chkOpd g x y
  | .box t x, .boxc y => chkOpd g x y
  | .build t parts, .build z ps => (match zeroT P t with | some v => chkLeaves v.cells.toList z | none => false) &&
      (match P.underlying t with
       | some (.struct fs) => allFields P fs && chkPartsS P g fs parts.toList ps
       | some (.array _ e) => (match sizeT P e with | some n => chkPartsA g n parts.toList ps | none => false)
       | _ => false)
  | .buildSlice t len parts, .lit8 len' ps => decide (len = len') && decide (len ≤ 16777216) && (match sliceElem P t with
      | some e => isU8 P e && decide (sizeT P e = some 1) && (match zeroT P e with | some v => chkLeaf v (.b8 0) | none => false) && decide (e = g.tU)
      | none => false) && chkPartsL g parts.toList ps
  | .buildSlice t len parts, .lit8c len' ps => decide (len = len') && decide (len ≤ 16777216) && (match sliceElem P t with
      | some e => isU8 P e && decide (sizeT P e = some 1) && (match zeroT P e with | some v => chkLeaf v (.b8 0) | none => false) && decide (e = g.tU)
      | none => false) && chkPartsL g parts.toList ps
  | .buildSlice t len parts, .lit esz z len' ps => decide (len = len') && (match sliceElem P t with
      | some e => !isU8 P e && decide (sizeT P e = some esz) && decide (0 < esz) && decide (len * esz ≤ 16777216) && decide (z.cells.length = esz) &&
          (match zeroT P e with | some v => chkConst v z && chkLeaves v.cells.toList z.cells | none => false)
      | none => false) && chkPartsL g parts.toList ps
  | .buildSlice t len parts, .litc esz z len' ps => decide (len = len') && (match sliceElem P t with
      | some e => !isU8 P e && decide (sizeT P e = some esz) && decide (0 < esz) && decide (len * esz ≤ 16777216) && decide (z.cells.length = esz) &&
          (match zeroT P e with | some v => chkConst v z && chkLeaves v.cells.toList z.cells | none => false)
      | none => false) && chkPartsL g parts.toList ps
  | .makeMap _ none, .mkmap => true
  | .lookup t x k false, .mget x' k' => chkOpd g x x' && chkOpd g k k' && mapT P t
  | .mapUpdate t x k v, .mput x' k' v' => chkOpd g x x' && chkOpd g k k' && chkOpd g v v' && mapT P t
  | .load t x, .load ag sz y => chkOpd g x y && decide (isAggT P t = some ag) && (!ag || decide (sizeT P t = some sz))
  | .load t x, .loadc ag sz y => chkOpd g x y && decide (isAggT P t = some ag) && (!ag || decide (sizeT P t = some sz))
  | .store t x v, .store sz x' v' => chkOpd g x x' && chkOpd g v v' && decide (sizeT P t = some sz)
  | .store t x v, .storek sz x' v' => chkOpd g x x' && chkOpd g v v' && decide (sizeT P t = some sz)
  | .nilCheck x, .nilck y => chkOpd g x y
  | .binOp o t x y _, .bin o' ek x' y' => decide (o = o') && chkOpd g x x' && chkOpd g y y' && ekOK P t ek
  | .unOp o _ x, .un o' y => decide (o = o') && chkOpd g x y
  | .convert s d x, .cInt k y => chkOpd g x y && (P.underlying s).isSome && decide (intT P d = some k)
  | .convert s d x, .cS2B _ y => chkOpd g x y && (P.underlying s).isSome && (match sliceElem P d with | some e => isU8 P e && decide (e = g.tU) | none => false)
  | .convert s d x, .cB2S _ y => chkOpd g x y && isStrT P d && (match sliceElem P s with | some e => isU8 P e | none => false)
  | .convert s d x, .cStr y => chkOpd g x y && (P.underlying s).isSome && isStrT P d
  | .convert s d x, .cSame y => chkOpd g x y && decide (s = d) && (match sliceElem P s with | some e => isU8 P e | none => false)
  | .makeFunc (.func f) first caps, .mkfn f' cs => decide (g f = some f') && decide (first.size = 0) && chkOpds g caps.toList cs
  | .makeSlice t l c, .mk8 _ l' c' => chkOpd g l l' && chkOpd g c c' && (match sliceElem P t with
      | some e => isU8 P e && decide (sizeT P e = some 1) && (match bytesT P e with | some b => decide (0 < b) && decide (b ≤ 256) | none => false) && (match zeroT P e with | some v => chkLeaf v (.b8 0) | none => false) && decide (e = g.tU)
      | none => false)
  | .makeSlice t l c, .mkms z l' c' => chkOpd g l l' && chkOpd g c c' && (match sliceElem P t with
      | some e => decide (sizeT P e = some z.length) && decide (0 < z.length) && (match bytesT P e with | some b => decide (0 < b) && decide (b ≤ 256) | none => false) && (match zeroT P e with | some v => chkLeaves v.cells.toList z | none => false)
      | none => false)
  | .slice t x lo hi mx, .slc esz x' lo' hi' mx' => chkOpd g x x' && chkOpdO g lo lo' && chkOpdO g hi hi' && chkOpdO g mx mx' && (!mx.isSome || hi.isSome) &&
      (if esz = 0 then isStrT P t else (match sliceElem P t with | some e => decide (sizeT P e = some esz) | none => false))
  | .slice t x none (some hi) none, .slcT x' hi' => chkOpd g x x' && chkOpd g hi hi' && (match sliceElem P t with | some e => decide (sizeT P e = some 1) | none => false)
  | .slice t x lo hi mx, .slcA len esz x' lo' hi' mx' => chkOpd g x x' && chkOpdO g lo lo' && chkOpdO g hi hi' && chkOpdO g mx mx' && (!mx.isSome || hi.isSome) &&
      (match arrT P t with | some (n, e) => decide (n = len) && decide (sizeT P e = some esz) | none => false)
  | .fieldAddr s x f, .faddr off y => chkOpd g x y && (match fieldsT P s with
      | some fs => (match fs[f]? with
          | some fd => decide (fd.offset = off) && (match sizeT P fd.type with | some n => decide (n ≠ 0) | none => false)
          | none => false)
      | none => false)
  | .field s x f, .fld ag off sz y => chkOpd g x y && (match fieldsT P s with
      | some fs => (match fs[f]? with
          | some fd => decide (fd.offset = off) && decide (isAggT P fd.type = some ag) && (!ag || decide (sizeT P fd.type = some sz))
          | none => false)
      | none => false)
  | .indexAddr t x i, .iaddr esz y j => chkOpd g x y && chkOpd g i j && (match sliceElem P t with | some e => decide (sizeT P e = some esz) | none => false)
  | .indexAddr t x i, .iaddrA len esz y j => chkOpd g x y && chkOpd g i j && (match arrT P t with | some (n, e) => decide (n = len) && decide (sizeT P e = some esz) | none => false)
  | .index t x i, .idx len ag esz y j => chkOpd g x y && chkOpd g i j && (match arrT P t with | some (n, e) => decide (n = len) && decide (isAggT P e = some ag) && decide (sizeT P e = some esz) | none => false)
  | .index t x i, .idxS y j => chkOpd g x y && chkOpd g i j && isStrT P t
  | .extract x k, .ext k' y => chkOpd g x y && decide (k = k')
  | .call c, a => (match c.callee with
      | .value f => (match a with | .call f' args' => chkOpd g f f' && chkOpds g c.args.toList args' | .callk f' args' => chkOpd g f f' && chkOpds g c.args.toList args' | .callp f' args' => chkOpd g f f' && chkOpds g c.args.toList args' | _ => false)
      | .builtin b => chkBuiltin P g b c.args.toList c.argTypes a
      | .invoke _ _ => false)
  | _, _ => false

def chkGuard (ops : Array Oper) : Option (Nat × Bool) → Option (Nat × Bool) → Bool
  | none, none => true
  | some (j, w), some (d, w') => decide ((ops[j]?).bind (·.dst) = some d) && w == w'
  | _, _ => false

def chkOper (P : Program) (g : GMap) (nt : Nat) (ops : Array Oper) (o : Oper) (a : AOper) : Bool :=
  decide (o.dst = a.dst) && (match a.dst with | some d => decide (d < nt) | none => true) && chkGuard ops o.guard a.guard && chkOp P g o.op a.op

def chkOpers (P : Program) (g : GMap) (nt : Nat) (ops : Array Oper) : List Oper → List AOper → Bool
  | [], [] => true
  | o :: os, a :: as => chkOper P g nt ops o a && chkOpers P g nt ops os as
  | _, _ => false

inductive Cls where
  | pure | read | tok | grow | write
  deriving DecidableEq

def AOp.cls : AOp → Cls
  | .load .. | .mget .. => .read
  | .cB2S mu _ => if mu then .read else .pure
  | .lit8 .. | .lit .. | .callk .. | .storek .. => .tok
  | .alloc _ | .box _ => .grow
  | .store .. | .cS2B .. | .cSame _ | .mk8 .. | .mkms .. | .app .. | .call .. | .copy .. | .mkmap | .mput .. | .clr .. | .frz .. => .write
  | _ => .pure

def clsOk : Cls → Cls → Bool
  | .pure, _ => true
  | _, .pure => true
  | .read, .read => true
  | .read, .tok => true
  | .tok, .read => true
  | .read, .grow => true
  | _, _ => false

def Opd.tmps : Opd → List Nat
  | .tmp t => [t]
  | _ => []
def tmpsOf (xs : List Opd) : List Nat := xs.flatMap Opd.tmps
def AOp.tmps : AOp → List Nat
  | .clr _ x | .frz _ x => x.tmps
  | .mov x | .box x | .boxc x | .nilck x | .un _ x | .cInt _ x | .cS2B _ x | .cB2S _ x | .cStr x | .cSame x | .faddr _ x | .fld _ _ _ x | .ext _ x | .len _ x | .load _ _ x | .loadc _ _ x => x.tmps
  | .pick c a b => tmpsOf [c, a, b]
  | .alloc _ | .mkmap => []
  | .build _ ps => tmpsOf (ps.map (·.2.2))
  | .lit8 _ ps | .lit8c _ ps => tmpsOf (ps.map (·.2))
  | .lit _ _ _ ps | .litc _ _ _ ps => tmpsOf (ps.map (·.2))
  | .mput a b c => tmpsOf [a, b, c]
  | .store _ a x | .storek _ a x | .bin _ _ a x | .mk8 _ a x | .mkms _ a x | .iaddr _ a x | .iaddrA _ _ a x | .idx _ _ _ a x | .idxS a x | .app _ _ a x | .copy a x | .slcT a x | .mget a x => tmpsOf [a, x]
  | .mkfn _ cs => tmpsOf cs
  | .slc _ x lo hi mx | .slcA _ _ x lo hi mx => tmpsOf ([x] ++ lo.toList ++ hi.toList ++ mx.toList)
  | .mnmx _ xs => tmpsOf xs
  | .call f xs | .callk f xs | .callp f xs => tmpsOf (f :: xs)

def AOper.looks (o : AOper) : List Nat := o.op.tmps ++ (match o.guard with | some (d, _) => [d] | none => [])

def free (a b : AOper) : Bool :=
  clsOk a.op.cls b.op.cls &&
  (match a.dst with | some d => !b.looks.contains d && !(b.dst == some d) | none => true) &&
  (match b.dst with | some d => !a.looks.contains d | none => true)

def maskO (acc : List Nat) (o : Oper) : Nat := o.after.toList.foldl (fun s e => if Region.binds .any e then s ||| 2 ^ e.on ||| acc.getD e.on 0 else s) 0

def masks : List Oper → List Nat → List Nat
  | [], acc => acc
  | o :: os, acc => masks os (acc ++ [maskO acc o])

def ordOK (ops : List Oper) (as : List AOper) : Bool :=
  (List.range as.length).all fun j => match as[j]? with
    | some aj => (List.range j).all fun i => match as[i]? with
        | some ai => ((masks ops []).getD j 0).testBit i || free ai aj
        | none => false
    | none => false

def lexOK (ops : List Oper) : Bool :=
  (List.range ops.length).all fun j => match ops[j]? with
    | some o => o.after.toList.all fun e => !Region.binds .any e || decide (e.on < j)
    | none => false

def chkCode (P : Program) (g : GMap) (nt : Nat) : Code → ACode → Bool
  | .skip, .skip => true
  | .region _ ops dr, .region as => chkOpers P g nt ops ops.toList as && (!dr || (ordOK ops.toList as && lexOK ops.toList))
  | .seq a b, .seq a' b' => chkCode P g nt a a' && chkCode P g nt b b'
  | .cond c a b, .cond c' a' b' => chkOpd g c c' && chkCode P g nt a a' && chkCode P g nt b b'
  | .block id b, .block id' b' => decide (id = id') && chkCode P g nt b b'
  | .loop b, .loop b' => chkCode P g nt b b'
  | .rangeFunc f ps asg b, .rangeFunc f' ps' asg' b' => chkOpd g f f' && decide (ps.toList = ps') && (ps'.all fun p => decide (p < nt)) && chkCode P g nt asg asg' && chkCode P g nt b b'
  | .exit id, .exit id' => decide (id = id')
  | .scope b, .scope b' => chkCode P g nt b b'
  | .label l, .label l' => decide (l = l')
  | .goto l, .goto l' => decide (l = l')
  | .ret, .ret => true
  | _, _ => false

def chkRV (P : Program) : ResultVar → RV → Bool
  | .tmp t, .tmp t' => decide (t = t')
  | .cell t ty, .cell t' ag sz => decide (t = t') && decide (isAggT P ty = some ag) && (!ag || decide (sizeT P ty = some sz))
  | _, _ => false

def chkRVs (P : Program) : List ResultVar → List RV → Bool
  | [], [] => true
  | r :: rs, q :: qs => chkRV P r q && chkRVs P rs qs
  | _, _ => false

def chkFn (P : Program) (g : GMap) (fn : Func) (a : ACFn) : Bool :=
  decide (fn.ntmps = a.nt) && chkRVs P fn.results.toList a.results && (match fn.body with | some c => chkCode P g a.nt c a.body | none => false) && decide (fn.name ≠ "runtime.NumGoroutine")

end Go.Ab
/-
  What a world has to do with an abstract state, and how it is kept.
-/
namespace Go.Ab

variable {P : Program} {g : GMap} {base : Nat}

mutual
theorem inB_mono {n m : Nat} (h : n ≤ m) : ∀ p : PV, p.inB n = true → p.inB m = true
  | .ptr b _, hp => by simp only [PV.inB, decide_eq_true_eq] at *; omega
  | .ms b _ _, hp => by simp only [PV.inB, decide_eq_true_eq] at *; omega
  | .mref b, hp => by simp only [PV.inB, decide_eq_true_eq] at *; omega
  | .fn _ cap, hp => by simp only [PV.inB] at *; exact inBAll_mono h cap hp
  | .agg cs, hp => by simp only [PV.inB] at *; exact inBAll_mono h cs hp
  | .tup vs, hp => by simp only [PV.inB] at *; exact inBAll_mono h vs hp
  | .yld _, hp => by simp [PV.inB] at hp
  | .bslot, _ | .undef, _ | .bool _, _ | .b8 _, _ | .int _ _, _ | .str _, _ | .nilp, _ | .cp _, _ | .nils, _ | .bys _ _, _ | .sl _ _ _, _ | .nilf, _ | .nili, _ => rfl
theorem inBAll_mono {n m : Nat} (h : n ≤ m) : ∀ ps : List PV, PV.inB.inBAll n ps = true → PV.inB.inBAll m ps = true
  | [], _ => rfl
  | p :: ps, hp => by
    simp only [PV.inB.inBAll, Bool.and_eq_true] at *
    exact ⟨inB_mono h p hp.1, inBAll_mono h ps hp.2⟩
end

def EnvR (g : GMap) (κ : K) (nt : Nat) (tmps : Array Value) (e : Env) : Prop :=
  nt ≤ tmps.size ∧ ∀ t, R g κ (tmps.getD t undef) (e t)

def Cells (w : World) (blk : Nat) (rs : Array Value) : Prop :=
  ∃ el lo hi, w.heap[blk]? = some (.cells rs el (lo, hi)) ∧ (lo = hi ∨ rs.size ≤ lo)

structure BoxOK (g : GMap) (base : Nat) (κ : K) (w : World) (b blk : Nat) (cs : List PV) : Prop where
  ge : base ≤ blk
  nc : cs ≠ [] → ∀ i, κ.C blk i = none
  ex : ∃ rs, Cells w blk rs ∧ cs.length ≤ rs.size ∧ ∀ (i : Nat) (c : PV), cs[i]? = some c → ∃ v, rs[i]? = some v ∧ R g κ v c
  lf : cs.all leafB = true
  lw : ∀ c ∈ cs, c.inB (b + 1) = true
  sb : PV.bslot ∈ cs → w.shape? blk = some (g.tB, 2)

def KV : List MapEntry → List PV → Prop
  | [], cs => cs = []
  | e :: es, cs => ∃ (s : ByteArray) (b : Bool) (r : List PV), e.key = .string s ∧ e.val = .bool b ∧ cs = .str s.data.toList :: .bool b :: r ∧ KV es r
structure MapOK (base : Nat) (w : World) (blk : Nat) (cs : List PV) : Prop where
  ge : base ≤ blk
  ex : ∃ es clock, w.heap[blk]? = some (.map es clock) ∧ KV es.toList cs
theorem MapOK.lt {w : World} {blk : Nat} {cs : List PV} (h : MapOK base w blk cs) : blk < w.heap.size := by
  obtain ⟨es, clock, h1, _⟩ := h.ex
  exact (Array.getElem?_eq_some_iff.1 h1).1
theorem MapOK.congr {w w' : World} {blk : Nat} {cs : List PV} (h : MapOK base w blk cs) (hh : w'.heap[blk]? = w.heap[blk]?) : MapOK base w' blk cs := by
  obtain ⟨es, clock, h1, h2⟩ := h.ex
  exact ⟨h.ge, es, clock, by rw [hh]; exact h1, h2⟩
theorem MapOK.push {w w' : World} {blk : Nat} {cs : List PV} {o : Obj} (h : MapOK base w blk cs) (hw : w'.heap = w.heap.push o) : MapOK base w' blk cs := h.congr (by rw [hw, Array.getElem?_push, if_neg (by have := h.lt; omega)])
theorem MapOK.ne {w : World} {blk blk' : Nat} {cs : List PV} {rs : Array Value} (h : MapOK base w blk cs) (hc : Cells w blk' rs) : blk ≠ blk' := by
  rintro rfl
  obtain ⟨es, clock, h1, _⟩ := h.ex
  obtain ⟨el, lo, hi, h2, _⟩ := hc
  rw [h1] at h2; cases h2

structure TokRoom (base : Nat) (κ : K) (w : World) (blk e ce : Nat) : Prop where
  ge : base ≤ blk
  nb : blk ∉ κ.φ
  nc : ∀ j, e ≤ j → κ.C blk j = none
  ex : ∃ rs, Cells w blk rs ∧ ce ≤ rs.size

def stOf : Nat → LoopState
  | 0 => .ready
  | 1 => .busy
  | _ => .done

def pendOf : Ex → Option Code
  | .normal => none
  | .ret => some .ret
  | .exit i => some (.exit i)
  | .goto l => some (.goto l)

structure LoopOK (P : Program) (g : GMap) (κ : K) (w : World) (l D : Nat) (r : LoopS) : Prop where
  ex : ∃ (rec : Loop) (nt : Nat), w.heap[l]? = some (.loop rec) ∧ rec.state = stOf r.status ∧ rec.pending = pendOf r.pend ∧ rec.params.toList = r.params ∧
    EnvR g κ nt rec.tmps r.env ∧ chkCode P g nt rec.assign r.assign = true ∧ chkCode P g nt rec.body r.body = true ∧ (∀ p ∈ r.params, p < nt) ∧ rec.defers = D ∧
    w.heap[D]? = some (.deferred (some []))

structure SR (P : Program) (g : GMap) (base : Nat) (κ : K) (w : World) (st : St) : Prop where
  cC : ∀ b i v, κ.C b i = some v → w.cell? ⟨b, i, none⟩ = some v
  sh : ∀ b t, κ.S b = some t → ∃ n, w.shape? b = some (t, n)
  bl : κ.φ.length = st.boxes.length
  bn : κ.φ.Nodup
  bx : ∀ (b blk : Nat) (cs : List PV), st.boxes[b]? = some cs → κ.φ[b]? = some blk → κ.μ b = false → BoxOK g base κ w b blk cs
  mx : ∀ (b blk : Nat) (cs : List PV), st.boxes[b]? = some cs → κ.φ[b]? = some blk → κ.μ b = true → MapOK base w blk cs
  mz : ∀ b, κ.φ.length ≤ b → κ.μ b = false
  tl : κ.τ.length = st.toks.length
  tk : ∀ (i blk e ce : Nat), st.toks[i]? = some true → κ.τ[i]? = some (blk, e, ce) → TokRoom base κ w blk e ce
  td : ∀ (i j bi ei ci bj ej cj : Nat), st.toks[i]? = some true → st.toks[j]? = some true → κ.τ[i]? = some (bi, ei, ci) → κ.τ[j]? = some (bj, ej, cj) → i ≠ j → bi ≠ bj
  ll : κ.lam.length = st.loops.length
  ln : (κ.lam.map (·.1)).Nodup
  lb : ∀ (l D : Nat), (l, D) ∈ κ.lam → base ≤ l
  lp : ∀ (k l D : Nat) (r : LoopS), st.loops[k]? = some r → κ.lam[k]? = some (l, D) → LoopOK P g κ w l D r
  hb : base ≤ w.heap.size
  gv : g.inv κ

def isCells : Obj → Bool
  | .cells .. => true
  | .map .. => true
  | _ => false

structure LoopLike (r r' : Loop) : Prop where
  tmps : r'.tmps = r.tmps
  params : r'.params = r.params
  assign : r'.assign = r.assign
  body : r'.body = r.body
  defers : r'.defers = r.defers

structure Fr (base : Nat) (lam : List (Nat × Nat)) (w w' : World) : Prop where
  below : Go.RowKit.Below base w w'
  objs : ∀ (k : Nat) (o : Obj), w.heap[k]? = some o → isCells o = false → k ∉ lam.map (·.1) → w'.heap[k]? = some o
  loops : ∀ (k : Nat) (r : Loop), k ∈ lam.map (·.1) → w.heap[k]? = some (.loop r) → ∃ r', w'.heap[k]? = some (.loop r') ∧ LoopLike r r'

theorem LoopLike.refl (r : Loop) : LoopLike r r := ⟨rfl, rfl, rfl, rfl, rfl⟩
theorem LoopLike.trans {a b c : Loop} (h : LoopLike a b) (k : LoopLike b c) : LoopLike a c :=
  ⟨k.tmps.trans h.tmps, k.params.trans h.params, k.assign.trans h.assign, k.body.trans h.body, k.defers.trans h.defers⟩

theorem Fr.refl (lam : List (Nat × Nat)) (w : World) : Fr base lam w w := ⟨Go.RowKit.Below.refl _ _, fun _ _ h _ _ => h, fun _ r _ h => ⟨r, h, .refl r⟩⟩
theorem Fr.trans {lam : List (Nat × Nat)} {a b c : World} (h : Fr base lam a b) (k : Fr base lam b c) : Fr base lam a c :=
  ⟨h.below.trans k.below, fun i o h1 h2 h3 => k.objs i o (h.objs i o h1 h2 h3) h2 h3, fun i r h1 h2 =>
    let ⟨r', h3, h4⟩ := h.loops i r h1 h2
    let ⟨r'', h5, h6⟩ := k.loops i r' h1 h3
    ⟨r'', h5, h4.trans h6⟩⟩

theorem Fr.of {lam : List (Nat × Nat)} {w w' : World} (hb : Go.RowKit.Below base w w') (h : ∀ (k : Nat) (o : Obj), w.heap[k]? = some o → isCells o = false → w'.heap[k]? = some o) : Fr base lam w w' :=
  ⟨hb, fun k o h1 h2 _ => h k o h1 h2, fun k r _ h2 => ⟨r, h k _ h2 rfl, .refl r⟩⟩

theorem shape_congr {w w' : World} {blk : Nat} (hh : w'.heap[blk]? = w.heap[blk]?) : w'.shape? blk = w.shape? blk := by simp only [World.shape?, hh]

theorem shape_push {w w' : World} {o : Obj} (hw : w'.heap = w.heap.push o) {b : Nat} {x : TypeId × Nat} (h : w.shape? b = some x) : w'.shape? b = some x := by
  have hlt : b < w.heap.size := by
    rcases Nat.lt_or_ge b w.heap.size with h1 | h1
    · exact h1
    · simp [World.shape?, Array.getElem?_eq_none h1] at h
  rw [← h]; exact shape_congr (by rw [hw, Array.getElem?_push, if_neg (by omega)])

theorem cell_heap {w w' : World} (h : w'.heap = w.heap) (a : Addr) : w'.cell? a = w.cell? a := by simp [World.cell?, h]

theorem Cells.congr {w w' : World} {blk : Nat} {rs : Array Value} (h : Cells w blk rs) (hh : w'.heap[blk]? = w.heap[blk]?) : Cells w' blk rs := by
  obtain ⟨el, lo, hi, h1, h2⟩ := h
  exact ⟨el, lo, hi, by rw [hh]; exact h1, h2⟩

theorem SR.heap {κ : K} {w w' : World} {st : St} (h : SR P g base κ w st) (hh : w'.heap = w.heap) : SR P g base κ w' st where
  cC b i v hc := by rw [cell_heap hh]; exact h.cC b i v hc
  sh b t hb := by
    obtain ⟨n, hn⟩ := h.sh b t hb
    exact ⟨n, by rw [← hn]; exact shape_congr (by rw [hh])⟩
  bl := h.bl
  bn := h.bn
  bx b blk cs h1 h2 hm := by
    have := h.bx b blk cs h1 h2 hm
    obtain ⟨rs, hc, h3, h4⟩ := this.ex
    exact ⟨this.ge, this.nc, ⟨rs, hc.congr (by rw [hh]), h3, h4⟩, this.lf, this.lw, fun hb => by rw [← this.sb hb]; simp only [World.shape?, hh]⟩
  mx b blk cs h1 h2 hm := (h.mx b blk cs h1 h2 hm).congr (by rw [hh])
  mz := h.mz
  tl := h.tl
  tk i blk e ce h1 h2 := by
    have := h.tk i blk e ce h1 h2
    obtain ⟨rs, hc, h3⟩ := this.ex
    exact ⟨this.ge, this.nb, this.nc, ⟨rs, hc.congr (by rw [hh]), h3⟩⟩
  td := h.td
  ll := h.ll
  ln := h.ln
  lb := h.lb
  lp k l D r h1 h2 := by
    obtain ⟨rec, nt, h3⟩ := (h.lp k l D r h1 h2).ex
    exact ⟨rec, nt, by rw [hh]; exact h3⟩
  hb := by rw [hh]; exact h.hb
  gv := h.gv

theorem push_old {h : Array Obj} {o : Obj} {k : Nat} {x : Obj} (hk : h[k]? = some x) : (h.push o)[k]? = some x := by
  have : k < h.size := (Array.getElem?_eq_some_iff.1 hk).1
  rw [Array.getElem?_push, if_neg (by omega)]; exact hk

theorem EnvR.mono {κ κ' : K} (hle : K.le κ κ') {nt : Nat} {tmps : Array Value} {e : Env} (h : EnvR g κ nt tmps e) : EnvR g κ' nt tmps e :=
  ⟨h.1, fun t => (h.2 t).mono hle⟩

theorem LoopOK.mono {κ κ' : K} (hle : K.le κ κ') {w w' : World} {l D : Nat} {r : LoopS} (h : LoopOK P g κ w l D r)
    (hh : ∀ (k : Nat) (o : Obj), w.heap[k]? = some o → isCells o = false → w'.heap[k]? = some o) : LoopOK P g κ' w' l D r := by
  obtain ⟨rec, nt, h1, h2, h3, h4, h5, h6, h7, h8, h9, h10⟩ := h.ex
  exact ⟨rec, nt, hh _ _ h1 rfl, h2, h3, h4, h5.mono hle, h6, h7, h8, h9, hh _ _ h10 rfl⟩

theorem cell_push {w w' : World} {o : Obj} (hw : w'.heap = w.heap.push o) {b i : Nat} {v : Value} (h : w.cell? ⟨b, i, none⟩ = some v) : w'.cell? ⟨b, i, none⟩ = some v := by
  simp only [World.cell?] at *
  cases hb : w.heap[b]? with
  | none => simp [hb] at h
  | some x => rw [hw, push_old hb]; simpa [hb] using h

theorem SR.C_lt {κ : K} {w : World} {st : St} (h : SR P g base κ w st) {b i : Nat} {v : Value} (hc : κ.C b i = some v) : b < w.heap.size := by
  have := h.cC b i v hc
  simp only [World.cell?] at this
  cases hb : w.heap[b]? with
  | none => simp [hb] at this
  | some x => exact (Array.getElem?_eq_some_iff.1 hb).1

theorem Cells.lt {w : World} {blk : Nat} {rs : Array Value} (h : Cells w blk rs) : blk < w.heap.size := by
  obtain ⟨_, _, _, h1, _⟩ := h
  exact (Array.getElem?_eq_some_iff.1 h1).1

theorem SR.phi_lt {κ : K} {w : World} {st : St} (h : SR P g base κ w st) {b blk : Nat} (hb : κ.φ[b]? = some blk) : blk < w.heap.size := by
  have hl : b < st.boxes.length := by rw [← h.bl]; exact (List.getElem?_eq_some_iff.1 hb).1
  cases hm : κ.μ b with
  | true => exact (h.mx b blk st.boxes[b] (by simp [hl]) hb hm).lt
  | false =>
    obtain ⟨rs, hc, _⟩ := (h.bx b blk st.boxes[b] (by simp [hl]) hb hm).ex
    exact hc.lt

def K.addC (κ : K) (blk : Nat) (f : Nat → Option Value) : K := { κ with C := fun b i => if b = blk then (match f i with | some v => some v | none => κ.C b i) else κ.C b i }

theorem SR.sh_push {κ : K} {w w' : World} {st : St} (h : SR P g base κ w st) {o : Obj} (hw : w'.heap = w.heap.push o) : ∀ b t, κ.S b = some t → ∃ n, w'.shape? b = some (t, n) := fun b t hb => by
  obtain ⟨n, hn⟩ := h.sh b t hb
  exact ⟨n, shape_push hw hn⟩

theorem SR.addBox {κ : K} {w w' : World} {st : St} (h : SR P g base κ w st) (rs : Array Value) (el : TypeId) (fz : Nat × Nat) (cs : List PV)
    (hw : w'.heap = w.heap.push (.cells rs el fz)) (hfz : fz.1 = fz.2 ∨ rs.size ≤ fz.1) (hl : cs.length ≤ rs.size)
    (hr : ∀ (i : Nat) (c : PV), cs[i]? = some c → ∃ v, rs[i]? = some v ∧ R g κ v c) (hlf : cs.all leafB = true) (hlw : ∀ c ∈ cs, c.inB st.boxes.length = true) (hsb : PV.bslot ∈ cs → el = g.tB ∧ rs.size = 2) :
    K.le κ { κ with φ := κ.φ ++ [w.heap.size] } ∧ SR P g base { κ with φ := κ.φ ++ [w.heap.size] } w' { st with boxes := st.boxes ++ [cs] } := by
  have hle : K.le κ { κ with φ := κ.φ ++ [w.heap.size] } := ⟨fun _ _ _ h => h, fun i x hx => by
    have := (List.getElem?_eq_some_iff.1 hx).1
    simp [List.getElem?_append_left this, hx], fun _ _ h => h, fun _ _ h => h, fun _ _ h => h, fun _ _ => rfl⟩
  have hsz : w'.heap.size = w.heap.size + 1 := by rw [hw]; simp
  refine ⟨hle, ?_⟩
  refine { cC := fun b i v hc => cell_push hw (h.cC b i v hc), sh := h.sh_push hw, bl := by simp [h.bl], bn := ?_, bx := ?_, mx := ?_, mz := fun b hb => h.mz b (by simp at hb; omega), tl := h.tl, tk := ?_, td := h.td, ll := h.ll, ln := h.ln, lb := h.lb, lp := ?_, hb := ?_, gv := g.mono _ _ hle.C h.gv }
  · rw [List.nodup_append]
    refine ⟨h.bn, by simp, fun a ha b hb => ?_⟩
    simp at hb
    obtain ⟨i, hi⟩ := List.getElem?_of_mem ha
    have := h.phi_lt hi
    omega
  · intro b blk cs' h1 h2 hm
    by_cases hb : b < st.boxes.length
    · simp only [List.getElem?_append_left hb] at h1
      simp only [List.getElem?_append_left (by rw [h.bl]; exact hb)] at h2
      have hx := h.bx b blk cs' h1 h2 hm
      obtain ⟨rs', hc, h3, h4⟩ := hx.ex
      refine ⟨hx.ge, hx.nc, ⟨rs', hc.congr ?_, h3, fun i c hi => ?_⟩, hx.lf, hx.lw, fun hm => by rw [← hx.sb hm]; exact shape_congr (by rw [hw, Array.getElem?_push, if_neg (by have := hc.lt; omega)])⟩
      · rw [hw, Array.getElem?_push, if_neg (by have := hc.lt; omega)]
      · obtain ⟨v, hv, hr'⟩ := h4 i c hi
        exact ⟨v, hv, hr'.mono hle⟩
    · have hb' : b = st.boxes.length := by
        have := (List.getElem?_eq_some_iff.1 h1).1
        simp at this; omega
      subst hb'
      simp only [List.getElem?_concat_length, Option.some.injEq] at h1
      rw [← h.bl, List.getElem?_concat_length, Option.some.injEq] at h2
      subst h1 h2
      refine ⟨h.hb, fun _ i => ?_, ⟨rs, ⟨el, fz.1, fz.2, ?_, hfz⟩, hl, fun i c hi => ?_⟩, hlf, fun c hc => inB_mono (Nat.le_succ _) c (hlw c hc), fun hm => by
        obtain ⟨q1, q2⟩ := hsb hm
        rw [← q1, ← q2]; simp [World.shape?, hw]⟩
      · cases hc : κ.C w.heap.size i with
        | none => simp []
        | some v => have := h.C_lt hc; omega
      · rw [hw]; simp
      · obtain ⟨v, hv, hr'⟩ := hr i c hi
        exact ⟨v, hv, hr'.mono hle⟩
  · intro b blk cs' h1 h2 hm
    have hb : b < st.boxes.length := by
      rcases Nat.lt_or_ge b st.boxes.length with hlt | hge
      · exact hlt
      · have := h.mz b (by rw [h.bl]; exact hge)
        simp only at hm; rw [this] at hm; cases hm
    simp only [List.getElem?_append_left hb] at h1
    simp only [List.getElem?_append_left (by rw [h.bl]; exact hb)] at h2
    exact (h.mx b blk cs' h1 h2 hm).push hw
  · intro i blk e ce h1 h2
    have hx := h.tk i blk e ce h1 h2
    obtain ⟨rs', hc, h3⟩ := hx.ex
    refine ⟨hx.ge, ?_, hx.nc, ⟨rs', hc.congr ?_, h3⟩⟩
    · simp only [List.mem_append, List.mem_singleton, not_or]
      exact ⟨hx.nb, by have := hc.lt; omega⟩
    · rw [hw, Array.getElem?_push, if_neg (by have := hc.lt; omega)]
  · intro k l D r h1 h2
    exact (h.lp k l D r h1 h2).mono hle (fun k o ho _ => by rw [hw]; exact push_old ho)
  · rw [hsz]; have := h.hb; omega

theorem SR.addTok {κ : K} {w w' : World} {st : St} (h : SR P g base κ w st) (rs : Array Value) (el : TypeId) (fz : Nat × Nat) (m ce : Nat)
    (hw : w'.heap = w.heap.push (.cells rs el fz)) (hfz : fz.1 = fz.2 ∨ rs.size ≤ fz.1) (hm : m ≤ rs.size) (hce : ce ≤ rs.size) (toks : List Bool) (htl : toks.length = st.toks.length)
    (htt : ∀ (i : Nat), toks[i]? = some true → st.toks[i]? = some true) :
    let κ' : K := { (κ.addC w.heap.size fun i => if i < m then rs[i]? else none) with τ := κ.τ ++ [(w.heap.size, m, ce)], S := fun b => if b = w.heap.size then some el else κ.S b }
    K.le κ κ' ∧ SR P g base κ' w' { st with toks := toks ++ [true] } := by
  intro κ'
  have hnew : ∀ i, κ.C w.heap.size i = none := fun i => by
    cases hc : κ.C w.heap.size i with
    | none => rfl
    | some v => have := h.C_lt hc; omega
  have hold : ∀ b i, b ≠ w.heap.size → κ'.C b i = κ.C b i := fun b i hb => by simp [κ', K.addC, hb]
  have hle : K.le κ κ' := ⟨fun b i v hc => by
      have : b ≠ w.heap.size := by rintro rfl; rw [hnew] at hc; cases hc
      rw [hold _ _ this]; exact hc, fun _ _ h => h, fun _ _ h => h, fun i x hx => by
    have := (List.getElem?_eq_some_iff.1 hx).1
    simp [κ', List.getElem?_append_left this, hx], fun b t hb => by
    obtain ⟨n, hn⟩ := h.sh b t hb
    have : b ≠ w.heap.size := by
      rintro rfl
      simp [World.shape?] at hn
    simp [κ', this, hb], fun _ _ => rfl⟩
  have hsz : w'.heap.size = w.heap.size + 1 := by rw [hw]; simp
  refine ⟨hle, ?_⟩
  have hshn : ∀ b t, κ'.S b = some t → ∃ n, w'.shape? b = some (t, n) := fun b t hb => by
    by_cases hbs : b = w.heap.size
    · subst hbs
      simp only [κ', if_pos, Option.some.injEq] at hb
      subst hb
      exact ⟨rs.size, by simp [World.shape?, hw]⟩
    · simp only [κ', hbs, if_false] at hb
      exact h.sh_push hw b t hb
  refine { cC := ?_, sh := hshn, bl := h.bl, bn := h.bn, bx := ?_, mx := fun b blk cs h1 h2 hm => (h.mx b blk cs h1 h2 hm).push hw, mz := h.mz, tl := by simp [κ', h.tl, htl], tk := ?_, td := ?_, ll := h.ll, ln := h.ln, lb := h.lb, lp := ?_, hb := ?_, gv := g.mono _ _ hle.C h.gv }
  · intro b i v hc
    by_cases hb : b = w.heap.size
    · subst hb
      simp only [κ', K.addC, if_pos] at hc
      simp only [World.cell?, hw]
      by_cases him : i < m
      · simp only [him, if_true] at hc
        cases hri : rs[i]? with
        | none => simp [hri, hnew] at hc
        | some u => simp [hri] at hc; simp [hri, hc]
      · simp [him, hnew] at hc
    · rw [hold _ _ hb] at hc
      exact cell_push hw (h.cC b i v hc)
  · intro b blk cs h1 h2 hm
    have hx := h.bx b blk cs h1 h2 hm
    obtain ⟨rs', hc, h3, h4⟩ := hx.ex
    have hlt := hc.lt
    refine ⟨hx.ge, fun hne i => by rw [hold _ _ (by omega)]; exact hx.nc hne i, ⟨rs', hc.congr ?_, h3, fun i c hi => ?_⟩, hx.lf, hx.lw, fun hm => by rw [← hx.sb hm]; exact shape_congr (by rw [hw, Array.getElem?_push, if_neg (by omega)])⟩
    · rw [hw, Array.getElem?_push, if_neg (by omega)]
    · obtain ⟨v, hv, hr'⟩ := h4 i c hi
      exact ⟨v, hv, hr'.mono hle⟩
  · intro i blk e ce' h1 h2
    by_cases hi : i < st.toks.length
    · simp only [List.getElem?_append_left (by rw [htl]; exact hi)] at h1
      simp only [κ', List.getElem?_append_left (by rw [h.tl]; exact hi)] at h2
      have hx := h.tk i blk e ce' (htt _ h1) h2
      obtain ⟨rs', hc, h3⟩ := hx.ex
      have hlt := hc.lt
      exact ⟨hx.ge, hx.nb, fun j hj => by rw [hold _ _ (by omega)]; exact hx.nc j hj, ⟨rs', hc.congr (by rw [hw, Array.getElem?_push, if_neg (by omega)]), h3⟩⟩
    · have hi' : i = st.toks.length := by
        have := (List.getElem?_eq_some_iff.1 h1).1
        simp [htl] at this; omega
      subst hi'
      simp only [κ'] at h2
      rw [← h.tl, List.getElem?_concat_length, Option.some.injEq] at h2
      simp only [Prod.mk.injEq] at h2
      obtain ⟨rfl, rfl, rfl⟩ := h2
      refine ⟨h.hb, fun hmem => ?_, fun j hj => ?_, ⟨rs, ⟨el, fz.1, fz.2, by rw [hw]; simp, hfz⟩, hce⟩⟩
      · obtain ⟨i, hi⟩ := List.getElem?_of_mem hmem
        have := h.phi_lt hi; omega
      · simp [κ', K.addC, show ¬ j < m by omega, hnew]
  · intro i j bi ei ci bj ej cj h1 h2 h3 h4 hij
    have key : ∀ (i bi ei ci : Nat), (toks ++ [true])[i]? = some true → (κ.τ ++ [(w.heap.size, m, ce)])[i]? = some (bi, ei, ci) → i < st.toks.length → st.toks[i]? = some true ∧ κ.τ[i]? = some (bi, ei, ci) ∧ bi < w.heap.size := by
      intro i bi ei ci h1 h2 hi
      rw [List.getElem?_append_left (by rw [htl]; exact hi)] at h1
      rw [List.getElem?_append_left (by rw [h.tl]; exact hi)] at h2
      obtain ⟨rs', hc, _⟩ := (h.tk i bi ei ci (htt _ h1) h2).ex
      exact ⟨htt _ h1, h2, hc.lt⟩
    have last : ∀ (i bi ei ci : Nat), (κ.τ ++ [(w.heap.size, m, ce)])[i]? = some (bi, ei, ci) → ¬ i < st.toks.length → bi = w.heap.size ∧ i = st.toks.length := by
      intro i bi ei ci h2 hi
      have h5 := (List.getElem?_eq_some_iff.1 h2).1
      simp [h.tl] at h5
      have h6 : i = κ.τ.length := by rw [h.tl]; omega
      subst h6
      rw [List.getElem?_concat_length, Option.some.injEq] at h2
      simp only [Prod.mk.injEq] at h2
      exact ⟨h2.1.symm, h.tl⟩
    by_cases hi : i < st.toks.length
    · obtain ⟨a1, a2, a3⟩ := key i bi ei ci h1 h3 hi
      by_cases hj : j < st.toks.length
      · obtain ⟨b1, b2, b3⟩ := key j bj ej cj h2 h4 hj
        exact h.td i j bi ei ci bj ej cj a1 b1 a2 b2 hij
      · obtain ⟨b1, b2⟩ := last j bj ej cj h4 hj
        omega
    · obtain ⟨a1, a2⟩ := last i bi ei ci h3 hi
      by_cases hj : j < st.toks.length
      · obtain ⟨b1, b2, b3⟩ := key j bj ej cj h2 h4 hj
        omega
      · obtain ⟨b1, b2⟩ := last j bj ej cj h4 hj
        omega
  · intro k l D r h1 h2
    exact (h.lp k l D r h1 h2).mono hle (fun k o ho _ => by rw [hw]; exact push_old ho)
  · rw [hsz]; have := h.hb; omega

theorem SR.addC {κ : K} {w w' : World} {st : St} (h : SR P g base κ w st) (rs : Array Value) (el : TypeId) (fz : Nat × Nat) (hw : w'.heap = w.heap.push (.cells rs el fz)) :
    K.le κ (κ.addC w.heap.size fun i => rs[i]?) ∧ SR P g base (κ.addC w.heap.size fun i => rs[i]?) w' st := by
  obtain ⟨κ', hκ⟩ : ∃ κ', κ' = κ.addC w.heap.size fun i => rs[i]? := ⟨_, rfl⟩
  rw [← hκ]
  have hnew : ∀ i, κ.C w.heap.size i = none := fun i => by
    cases hc : κ.C w.heap.size i with
    | none => rfl
    | some v => have := h.C_lt hc; omega
  have hold : ∀ b i, b ≠ w.heap.size → κ'.C b i = κ.C b i := fun b i hb => by simp [hκ, K.addC, hb]
  have hφ : κ'.φ = κ.φ := by rw [hκ]; rfl
  have hτ : κ'.τ = κ.τ := by rw [hκ]; rfl
  have hlm : κ'.lam = κ.lam := by rw [hκ]; rfl
  have hS : κ'.S = κ.S := by rw [hκ]; rfl
  have hμ : κ'.μ = κ.μ := by rw [hκ]; rfl
  have hle : K.le κ κ' := ⟨fun b i v hc => by
      have : b ≠ w.heap.size := by rintro rfl; rw [hnew] at hc; cases hc
      rw [hold _ _ this]; exact hc, fun _ _ x => by rw [hφ]; exact x, fun _ _ x => by rw [hlm]; exact x, fun _ _ x => by rw [hτ]; exact x, fun _ _ x => by rw [hS]; exact x, fun _ _ => by rw [hμ]⟩
  have hsz : w'.heap.size = w.heap.size + 1 := by rw [hw]; simp
  refine ⟨hle, ?_⟩
  refine { cC := ?_, sh := fun b t hb => h.sh_push hw b t (by rw [← hS]; exact hb), bl := by rw [hφ]; exact h.bl, bn := by rw [hφ]; exact h.bn, bx := ?_, mx := fun b blk cs h1 h2 hm => (h.mx b blk cs h1 (by rw [← hφ]; exact h2) (by rw [← hμ]; exact hm)).push hw, mz := by rw [hφ, hμ]; exact h.mz, tl := by rw [hτ]; exact h.tl, tk := ?_, td := by rw [hτ]; exact h.td, ll := by rw [hlm]; exact h.ll, ln := by rw [hlm]; exact h.ln, lb := by rw [hlm]; exact h.lb, lp := ?_, hb := ?_, gv := g.mono _ _ hle.C h.gv }
  · intro b i v hc
    by_cases hb : b = w.heap.size
    · subst hb
      simp only [hκ, K.addC, if_pos] at hc
      simp only [World.cell?, hw]
      cases hri : rs[i]? with
      | none => simp [hri, hnew] at hc
      | some u => simp [hri] at hc; simp [hri, hc]
    · rw [hold _ _ hb] at hc
      exact cell_push hw (h.cC b i v hc)
  · intro b blk cs h1 h2 hm
    rw [hφ] at h2
    rw [hμ] at hm
    have hx := h.bx b blk cs h1 h2 hm
    obtain ⟨rs', hc, h3, h4⟩ := hx.ex
    have hlt := hc.lt
    refine ⟨hx.ge, fun hne i => by rw [hold _ _ (by omega)]; exact hx.nc hne i, ⟨rs', hc.congr ?_, h3, fun i c hi => ?_⟩, hx.lf, hx.lw, fun hm => by rw [← hx.sb hm]; exact shape_congr (by rw [hw, Array.getElem?_push, if_neg (by omega)])⟩
    · rw [hw, Array.getElem?_push, if_neg (by omega)]
    · obtain ⟨v, hv, hr'⟩ := h4 i c hi
      exact ⟨v, hv, hr'.mono hle⟩
  · intro i blk e ce h1 h2
    rw [hτ] at h2
    have hx := h.tk i blk e ce h1 h2
    obtain ⟨rs', hc, h3⟩ := hx.ex
    have hlt := hc.lt
    exact ⟨hx.ge, by rw [hφ]; exact hx.nb, fun j hj => by rw [hold _ _ (by omega)]; exact hx.nc j hj, ⟨rs', hc.congr (by rw [hw, Array.getElem?_push, if_neg (by omega)]), h3⟩⟩
  · intro k l D r h1 h2
    rw [hlm] at h2
    exact (h.lp k l D r h1 h2).mono hle (fun k o ho _ => by rw [hw]; exact push_old ho)
  · rw [hsz]; have := h.hb; omega

theorem Fr.push {lam : List (Nat × Nat)} {w w' : World} {o : Obj} (hb : base ≤ w.heap.size) (hw : w'.heap = w.heap.push o) (h1 : w'.os = w.os) (h2 : w'.tape = w.tape) (h3 : w'.output = w.output) : Fr base lam w w' :=
  Fr.of ⟨h1, h2, h3, by rw [hw]; simp, fun k hk => by rw [hw, Array.getElem?_push, if_neg (by omega)]⟩ fun k o ho _ => by rw [hw]; exact push_old ho

theorem Fr.same {lam : List (Nat × Nat)} {w w' : World} (hw : w'.heap = w.heap) (h1 : w'.os = w.os) (h2 : w'.tape = w.tape) (h3 : w'.output = w.output) : Fr base lam w w' :=
  Fr.of ⟨h1, h2, h3, by rw [hw]; exact Nat.le_refl _, fun k hk => by rw [hw]⟩ fun k o ho _ => by rw [hw]; exact ho

end Go.Ab
/-
  Stores: into a box; behind the end of a slice that owns its room.
-/
namespace Go.Ab

variable {P : Program} {g : GMap} {base : Nat}

def setBlk (w : World) (blk : Nat) (rs : Array Value) (el : TypeId) (fz : Nat × Nat) : World := { w with heap := w.heap.setIfInBounds blk (.cells rs el fz) }

def oneCell : Value → Bool
  | .agg _ => false
  | .tuple _ => false
  | _ => true

def setA (rs : Array Value) (off : Nat) : List Value → Array Value
  | [] => rs
  | v :: vs => setA (rs.setIfInBounds off v) (off + 1) vs

theorem setA_size (vs : List Value) : ∀ (rs : Array Value) (off : Nat), (setA rs off vs).size = rs.size := by
  induction vs with
  | nil => intro rs off; rfl
  | cons v vs ih => intro rs off; simp [setA, ih]

theorem setA_get (vs : List Value) : ∀ (rs : Array Value) (off j : Nat), off + vs.length ≤ rs.size →
    (setA rs off vs)[j]? = if off ≤ j ∧ j < off + vs.length then vs[j - off]? else rs[j]? := by
  induction vs with
  | nil => intro rs off j h; simp [setA]; intro h1 h2; omega
  | cons v vs ih =>
    intro rs off j h
    simp at h
    rw [setA, ih _ _ _ (by simp; omega)]
    by_cases h1 : off + 1 ≤ j ∧ j < off + 1 + vs.length
    · rw [if_pos h1, if_pos ⟨by omega, by simp; omega⟩]
      obtain ⟨d, rfl⟩ : ∃ d, j = off + 1 + d := ⟨j - (off + 1), by omega⟩
      rw [show off + 1 + d - off = d + 1 by omega, show off + 1 + d - (off + 1) = d by omega]; simp
    · rw [if_neg h1]
      by_cases h2 : j = off
      · subst h2
        rw [if_pos ⟨Nat.le_refl _, by simp⟩]
        simp [show j < rs.size by omega]
      · rw [if_neg (by simp; omega), Array.getElem?_setIfInBounds_ne (by omega)]

theorem setCell_blk {w : World} {blk j : Nat} {rs : Array Value} {el : TypeId} {fz : Nat × Nat} (h : w.heap[blk]? = some (.cells rs el fz)) (v : Value) :
    w.setCell ⟨blk, j, none⟩ v = setBlk w blk (rs.setIfInBounds j v) el fz := by
  have hlt := (Array.getElem?_eq_some_iff.1 h).1
  simp only [World.setCell, setBlk]
  congr 1
  apply Array.ext_getElem?
  intro i
  rw [Array.getElem?_modify]
  by_cases hi : blk = i
  · subst hi; rw [if_pos rfl, h]; simp [hlt]
  · rw [if_neg hi, Array.getElem?_setIfInBounds_ne hi]

theorem setBlk_get {w : World} {blk : Nat} {rs rs' : Array Value} {el : TypeId} {fz : Nat × Nat} (h : w.heap[blk]? = some (.cells rs el fz)) :
    (setBlk w blk rs' el fz).heap[blk]? = some (.cells rs' el fz) := by
  simp [setBlk, (Array.getElem?_eq_some_iff.1 h).1]

theorem setBlk_other {w : World} {blk k : Nat} {rs' : Array Value} {el : TypeId} {fz : Nat × Nat} (h : k ≠ blk) : (setBlk w blk rs' el fz).heap[k]? = w.heap[k]? := by
  simp [setBlk, Array.getElem?_setIfInBounds_ne (Ne.symm h)]

theorem setBlk_setBlk {w : World} {blk : Nat} {rs rs' : Array Value} {el : TypeId} {fz : Nat × Nat} : setBlk (setBlk w blk rs el fz) blk rs' el fz = setBlk w blk rs' el fz := by
  simp [setBlk]

theorem setBlk_self {w : World} {blk : Nat} {rs : Array Value} {el : TypeId} {fz : Nat × Nat} (h : w.heap[blk]? = some (.cells rs el fz)) : setBlk w blk rs el fz = w := by
  have : w.heap.setIfInBounds blk (.cells rs el fz) = w.heap := by
    apply Array.ext_getElem?
    intro i
    by_cases hi : blk = i
    · subst hi
      rw [h]
      simp [(Array.getElem?_eq_some_iff.1 h).1]
    · rw [Array.getElem?_setIfInBounds_ne hi]
  simp [setBlk, this]

theorem add_eq (blk off i : Nat) : (⟨blk, off, none⟩ : Addr).add i = ⟨blk, off + i, none⟩ := by
  unfold Addr.add; split
  · next h => rw [h]; rfl
  · rfl

theorem run_store {w : World} {blk j : Nat} {rs : Array Value} {el : TypeId} {lo hi : Nat} (h : w.heap[blk]? = some (.cells rs el (lo, hi))) (hf : lo = hi ∨ rs.size ≤ lo) (hj : j < rs.size) {v : Value}
    (hv : oneCell v = true) : (store ⟨blk, j, none⟩ v).run P w = .ok () (setBlk w blk (rs.setIfInBounds j v) el (lo, hi)) := by
  have hc : w.cell? ⟨blk, j, none⟩ = some rs[j] := by simp [World.cell?, h, hj]
  have hfz : w.frozen? ⟨blk, j, none⟩ = false := by
    simp only [World.frozen?, h]
    rcases hf with rfl | hf
    · simp <;> omega
    · simp <;> omega
  rw [← setCell_blk h]
  cases v <;> simp_all [store, Sem.run, oneCell]

theorem run_storeCells {blk : Nat} {el : TypeId} {lo hi : Nat} (off : Nat) : ∀ (vs : List Value) (i : Nat) (w : World) (rs : Array Value), w.heap[blk]? = some (.cells rs el (lo, hi)) → (lo = hi ∨ rs.size ≤ lo) →
    off + i + vs.length ≤ rs.size → (∀ v ∈ vs, oneCell v = true) → (storeCells ⟨blk, off, none⟩ vs i).run P w = .ok () (setBlk w blk (setA rs (off + i) vs) el (lo, hi)) := by
  intro vs
  induction vs with
  | nil => intro i w rs h hf hl hv; simp [storeCells, setA, setBlk_self h]
  | cons v vs ih =>
    intro i w rs h hf hl hv
    simp at hl
    simp only [storeCells, add_eq, Sem.run_bind]
    rw [run_store h hf (by omega) (hv v (by simp))]
    simp only [Result.andThen_ok]
    rw [ih (i + 1) _ (rs.setIfInBounds (off + i) v) (setBlk_get h) (by simpa using hf) (by simp; omega) (fun u hu => hv u (by simp [hu]))]
    rw [setBlk_setBlk, setA, Nat.add_assoc]

theorem cell_setBlk_other {w : World} {blk b i : Nat} {rs : Array Value} {el : TypeId} {fz : Nat × Nat} (h : b ≠ blk) : (setBlk w blk rs el fz).cell? ⟨b, i, none⟩ = w.cell? ⟨b, i, none⟩ := by
  simp [World.cell?, setBlk_other h]

theorem Fr.setBlk {lam : List (Nat × Nat)} {w : World} {blk : Nat} {rs rs' : Array Value} {el : TypeId} {fz : Nat × Nat} (h : w.heap[blk]? = some (.cells rs el fz)) (hb : base ≤ blk) : Fr base lam w (setBlk w blk rs' el fz) := by
  refine Fr.of ⟨rfl, rfl, rfl, by simp [Go.Ab.setBlk], fun k hk => setBlk_other (by omega)⟩ fun k o ho hc => ?_
  rw [setBlk_other]
  · exact ho
  · rintro rfl; rw [h] at ho; cases ho; simp [isCells] at hc

theorem MapOK.setBlk {w : World} {blk blk' : Nat} {rs rs' : Array Value} {el el' : TypeId} {fz fz' : Nat × Nat} {cs : List PV} (h : MapOK base w blk' cs) (hw : w.heap[blk]? = some (.cells rs el fz)) : MapOK base (setBlk w blk rs' el' fz') blk' cs := by
  refine h.congr (setBlk_other ?_)
  rintro rfl
  obtain ⟨es, clock, h1, _⟩ := h.ex
  rw [hw] at h1; cases h1

theorem shape_setBlk {w : World} {blk : Nat} {rs rs' : Array Value} {el : TypeId} {fz fz' : Nat × Nat} (hw : w.heap[blk]? = some (.cells rs el fz)) (hsz : rs'.size = rs.size) (b : Nat) : (setBlk w blk rs' el fz').shape? b = w.shape? b := by
  by_cases hb : b = blk
  · subst hb
    have hlt := (Array.getElem?_eq_some_iff.1 hw).1
    simp only [World.shape?, hw]; simp [setBlk, hlt, hsz]
  · exact shape_congr (setBlk_other hb)

theorem SR.setBox {κ : K} {w : World} {st : St} (h : SR P g base κ w st) {b blk : Nat} {cs cs' : List PV} {rs rs' : Array Value} {el : TypeId} {lo hi : Nat} (low' : Nat)
    (hb : st.boxes[b]? = some cs) (hp : κ.φ[b]? = some blk) (hμ : κ.μ b = false) (hw : w.heap[blk]? = some (.cells rs el (lo, hi))) (hf : lo = hi ∨ rs.size ≤ lo) (hsz : rs'.size = rs.size) (hl : cs'.length ≤ rs.size)
    (hr : ∀ (i : Nat) (c : PV), cs'[i]? = some c → ∃ v, rs'[i]? = some v ∧ R g κ v c) (hlf : cs'.all leafB = true) (hlw : ∀ c ∈ cs', c.inB (b + 1) = true) (hsb : PV.bslot ∈ cs' → PV.bslot ∈ cs) (hem : cs = [] → cs' = [] ∧ rs' = rs) :
    SR P g base κ (setBlk w blk rs' el (lo, hi)) { st with boxes := st.boxes.set b cs', low := low' } := by
  have hx := h.bx b blk cs hb hp hμ
  by_cases hcs : cs = []
  · obtain ⟨rfl, rfl⟩ := hem hcs
    subst hcs
    have hbb : st.boxes.set b [] = st.boxes := by
      apply List.ext_getElem?
      intro j
      by_cases hj : b = j
      · subst hj; rw [List.getElem?_set_self (List.getElem?_eq_some_iff.1 hb).1, hb]
      · rw [List.getElem?_set_ne hj]
    rw [setBlk_self hw, hbb]
    exact { cC := h.cC, sh := h.sh, bl := h.bl, bn := h.bn, bx := h.bx, mx := h.mx, mz := h.mz, tl := h.tl, tk := h.tk, td := h.td, ll := h.ll, ln := h.ln, lb := h.lb, lp := h.lp, hb := h.hb, gv := h.gv }
  have hxn := hx.nc hcs
  have hobj : ∀ (k : Nat) (o : Obj), w.heap[k]? = some o → isCells o = false → (Go.Ab.setBlk w blk rs' el (lo, hi)).heap[k]? = some o := fun k o ho hc => (Fr.setBlk (base := base) (lam := []) hw hx.ge).objs k o ho hc (by simp)
  refine { cC := ?_, sh := fun b t hb => (h.sh b t hb).imp fun n hn => (by rw [shape_setBlk hw hsz]; exact hn), bl := by simp [h.bl], bn := h.bn, bx := ?_, mx := ?_, mz := h.mz, tl := h.tl, tk := ?_, td := h.td, ll := h.ll, ln := h.ln, lb := h.lb, lp := fun k l D r h1 h2 => (h.lp k l D r h1 h2).mono (K.le.refl _) hobj, hb := by simpa [Go.Ab.setBlk] using h.hb, gv := h.gv }
  · intro b' i v hc
    have : b' ≠ blk := by rintro rfl; rw [hxn] at hc; cases hc
    rw [cell_setBlk_other this]; exact h.cC b' i v hc
  · intro b' blk' cs'' h1 h2 hm'
    by_cases hbb : b = b'
    · subst hbb
      rw [hp] at h2; cases h2
      have hlen : b < st.boxes.length := (List.getElem?_eq_some_iff.1 hb).1
      simp [hlen] at h1
      subst h1
      exact ⟨hx.ge, fun _ => hxn, ⟨rs', ⟨el, lo, hi, setBlk_get hw, by rw [hsz]; exact hf⟩, by rw [hsz]; exact hl, hr⟩, hlf, hlw, fun hm => by
        rw [← hx.sb (hsb hm)]
        simp only [World.shape?, setBlk_get hw, hw, hsz]⟩
    · simp only [List.getElem?_set_ne hbb] at h1
      have hy := h.bx b' blk' cs'' h1 h2 hm'
      have hne : blk' ≠ blk := by
        rintro rfl
        exact hbb ((List.getElem?_inj (by rw [h.bl]; exact (List.getElem?_eq_some_iff.1 hb).1) h.bn).1 (hp.trans h2.symm))
      obtain ⟨rs2, hc, h3, h4⟩ := hy.ex
      exact ⟨hy.ge, hy.nc, ⟨rs2, hc.congr (setBlk_other hne), h3, h4⟩, hy.lf, hy.lw, fun hm => by rw [← hy.sb hm]; exact shape_congr (setBlk_other hne)⟩
  · intro b' blk' cs'' h1 h2 hm'
    have hbb : b ≠ b' := by rintro rfl; rw [hμ] at hm'; cases hm'
    simp only [List.getElem?_set_ne hbb] at h1
    exact (h.mx b' blk' cs'' h1 h2 hm').setBlk hw
  · intro i blk' e ce h1 h2
    have hy := h.tk i blk' e ce h1 h2
    have hne : blk' ≠ blk := by
      rintro rfl
      exact hy.nb (List.mem_of_getElem? hp)
    obtain ⟨rs2, hc, h3⟩ := hy.ex
    exact ⟨hy.ge, hy.nb, hy.nc, ⟨rs2, hc.congr (setBlk_other hne), h3⟩⟩

theorem SR.extTok {κ : K} {w : World} {st : St} (h : SR P g base κ w st) {i blk e ce m : Nat} {rs rs' : Array Value} {el : TypeId} {lo hi : Nat}
    (hi' : st.toks[i]? = some true) (hτ : κ.τ[i]? = some (blk, e, ce)) (hw : w.heap[blk]? = some (.cells rs el (lo, hi))) (hf : lo = hi ∨ rs.size ≤ lo) (hsz : rs'.size = rs.size) (hm : e + m ≤ rs.size)
    (hold : ∀ j, j < e → rs'[j]? = rs[j]?) (hce : ce ≤ rs.size) :
    let κ' : K := { (κ.addC blk fun j => if e ≤ j ∧ j < e + m then rs'[j]? else none) with τ := κ.τ ++ [(blk, e + m, ce)] }
    K.le κ κ' ∧ SR P g base κ' (setBlk w blk rs' el (lo, hi)) { st with toks := st.toks.set i false ++ [true] } := by
  intro κ'
  have hx := h.tk i blk e ce hi' hτ
  have hCne : ∀ b j, b ≠ blk → κ'.C b j = κ.C b j := fun b j hb => by simp [κ', K.addC, hb]
  have hCold : ∀ j v, κ.C blk j = some v → j < e := fun j v hc => by
    by_cases hj : j < e
    · exact hj
    · rw [hx.nc j (by omega)] at hc; cases hc
  have hle : K.le κ κ' := ⟨fun b j v hc => by
      by_cases hb : b = blk
      · subst hb
        have hj := hCold j v hc
        simp [κ', K.addC, show ¬ e ≤ j by omega, hc]
      · rw [hCne _ _ hb]; exact hc, fun _ _ h => h, fun _ _ h => h, fun j x hxx => by
    have := (List.getElem?_eq_some_iff.1 hxx).1
    simp [κ', List.getElem?_append_left this, hxx], fun _ _ h => h, fun _ _ => rfl⟩
  have hobj : ∀ (k : Nat) (o : Obj), w.heap[k]? = some o → isCells o = false → (Go.Ab.setBlk w blk rs' el (lo, hi)).heap[k]? = some o := fun k o ho hc => (Fr.setBlk (base := base) (lam := []) hw hx.ge).objs k o ho hc (by simp)
  refine ⟨hle, { cC := ?_, sh := fun b t hb => (h.sh b t hb).imp fun n hn => (by rw [shape_setBlk hw hsz]; exact hn), bl := h.bl, bn := h.bn, bx := ?_, mx := fun b blk' cs h1 h2 hm => (h.mx b blk' cs h1 h2 hm).setBlk hw, mz := h.mz, tl := by simp [κ', h.tl], tk := ?_, td := ?_, ll := h.ll, ln := h.ln, lb := h.lb, lp := fun k l D r h1 h2 => (h.lp k l D r h1 h2).mono hle hobj, hb := by simpa [Go.Ab.setBlk] using h.hb, gv := g.mono _ _ hle.C h.gv }⟩
  · intro b j v hc
    by_cases hb : b = blk
    · subst hb
      simp only [World.cell?, setBlk_get hw]
      by_cases hj : e ≤ j ∧ j < e + m
      · simp only [κ', K.addC, if_pos, hj, and_self] at hc
        cases hr : rs'[j]? with
        | none =>
          have : rs'.size ≤ j := by simpa using hr
          omega
        | some u => simp [hr] at hc; simp [hc]
      · simp only [κ', K.addC, if_pos, hj, if_false] at hc
        have := h.cC b j v hc
        simp only [World.cell?, hw] at this
        simp at this ⊢
        rw [hold j (hCold j v hc)]; exact this
    · rw [hCne _ _ hb] at hc
      rw [cell_setBlk_other hb]; exact h.cC b j v hc
  · intro b blk' cs h1 h2 hm'
    have hy := h.bx b blk' cs h1 h2 hm'
    have hne : blk' ≠ blk := by
      rintro rfl
      exact hx.nb (List.mem_of_getElem? h2)
    obtain ⟨rs2, hc, h3, h4⟩ := hy.ex
    exact ⟨hy.ge, fun hq j => by rw [hCne _ _ hne]; exact hy.nc hq j, ⟨rs2, hc.congr (setBlk_other hne), h3, fun k c hk => by
      obtain ⟨v, hv, hr⟩ := h4 k c hk
      exact ⟨v, hv, hr.mono hle⟩⟩, hy.lf, hy.lw, fun hm => by rw [← hy.sb hm]; exact shape_congr (setBlk_other hne)⟩
  · intro j blk' e' ce' h1 h2
    by_cases hj : j < st.toks.length
    · simp only [List.getElem?_append_left (show j < (st.toks.set i false).length by simpa using hj)] at h1
      simp only [κ', List.getElem?_append_left (by rw [h.tl]; exact hj)] at h2
      have hij : i ≠ j := by rintro rfl; simp [hj] at h1
      rw [List.getElem?_set_ne hij] at h1
      have hy := h.tk j blk' e' ce' h1 h2
      have hne : blk' ≠ blk := fun he => h.td i j blk e ce blk' e' ce' hi' h1 hτ h2 hij he.symm
      obtain ⟨rs2, hc, h3⟩ := hy.ex
      exact ⟨hy.ge, hy.nb, fun k hk => by rw [hCne _ _ hne]; exact hy.nc k hk, ⟨rs2, hc.congr (setBlk_other hne), h3⟩⟩
    · have hj' : j = κ.τ.length := by
        have := (List.getElem?_eq_some_iff.1 h2).1
        simp [κ'] at this; rw [h.tl] at *; omega
      subst hj'
      simp only [κ'] at h2
      rw [List.getElem?_concat_length, Option.some.injEq] at h2
      simp only [Prod.mk.injEq] at h2
      obtain ⟨rfl, rfl, rfl⟩ := h2
      refine ⟨hx.ge, hx.nb, fun k hk => ?_, ⟨rs', ⟨el, lo, hi, setBlk_get hw, by rw [hsz]; exact hf⟩, by rw [hsz]; exact hce⟩⟩
      simp [κ', K.addC, show ¬ k < e + m by omega, hx.nc k (by omega)]
  · intro a c bi ei ci bj ej cj h1 h2 h3 h4 hac
    have key : ∀ (a bi ei ci : Nat), (st.toks.set i false ++ [true])[a]? = some true → (κ.τ ++ [(blk, e + m, ce)])[a]? = some (bi, ei, ci) →
        (a < st.toks.length ∧ st.toks[a]? = some true ∧ κ.τ[a]? = some (bi, ei, ci) ∧ a ≠ i) ∨ (a = st.toks.length ∧ bi = blk) := by
      intro a bi ei ci h1 h2
      by_cases ha : a < st.toks.length
      · left
        rw [List.getElem?_append_left (by simpa using ha)] at h1
        rw [List.getElem?_append_left (by rw [h.tl]; exact ha)] at h2
        have hia : i ≠ a := by rintro rfl; simp [ha] at h1
        rw [List.getElem?_set_ne hia] at h1
        exact ⟨ha, h1, h2, hia.symm⟩
      · right
        have h5 := (List.getElem?_eq_some_iff.1 h2).1
        simp [h.tl] at h5
        have h6 : a = κ.τ.length := by rw [h.tl]; omega
        subst h6
        rw [List.getElem?_concat_length, Option.some.injEq] at h2
        simp only [Prod.mk.injEq] at h2
        exact ⟨h.tl, h2.1.symm⟩
    rcases key a bi ei ci h1 h3 with ⟨a1, a2, a3, a4⟩ | ⟨a1, a2⟩ <;> rcases key c bj ej cj h2 h4 with ⟨b1, b2, b3, b4⟩ | ⟨b1, b2⟩
    · exact h.td a c bi ei ci bj ej cj a2 b2 a3 b3 hac
    · rw [b2]; exact h.td a i bi ei ci blk e ce a2 hi' a3 hτ a4
    · rw [a2]; exact fun he => h.td i c blk e ce bj ej cj hi' b2 hτ b3 (Ne.symm b4) he
    · omega

end Go.Ab
/-
  The operations that make no memory.
-/
namespace Go.Ab

variable {P : Program} {g : GMap} {base : Nat} {κ : K} {w : World} {st : St}

theorem chkLeaf_R {v : Value} {p : PV} (h : chkLeaf v p = true) : R g κ v p ∧ leafOk p = true ∧ (∀ n, p.inB n = true) ∧ p.data = true ∧ p.cells = [p] ∧ v.cells = #[v] := by
  unfold chkLeaf at h
  split at h
  · simp at h; subst h; exact ⟨.bool _, rfl, fun _ => rfl, rfl, rfl, rfl⟩
  · simp at h; obtain ⟨rfl, rfl⟩ := h; exact ⟨.b8 _ _ rfl, rfl, fun _ => rfl, rfl, rfl, rfl⟩
  · simp at h; obtain ⟨⟨rfl, rfl⟩, h3⟩ := h; exact ⟨.int _ _ h3, rfl, fun _ => rfl, rfl, rfl, rfl⟩
  · simp at h; subst h; exact ⟨.str _ _ rfl, rfl, fun _ => rfl, rfl, rfl, rfl⟩
  · exact ⟨.nilp, rfl, fun _ => rfl, rfl, rfl, rfl⟩
  · exact ⟨.nils, rfl, fun _ => rfl, rfl, rfl, rfl⟩
  · exact ⟨.nilf, rfl, fun _ => rfl, rfl, rfl, rfl⟩
  · exact ⟨.nili, rfl, fun _ => rfl, rfl, rfl, rfl⟩
  · cases h

theorem chkLeaves_R : ∀ (vs : List Value) (ps : List PV), chkLeaves vs ps = true → vs.length = ps.length ∧ (∀ (i : Nat) (v : Value) (p : PV), vs[i]? = some v → ps[i]? = some p → R g κ v p) ∧ ps.all leafOk = true ∧ (∀ n, ∀ p ∈ ps, p.inB n = true) ∧ dataAll ps = true := by
  intro vs
  induction vs with
  | nil => intro ps h; cases ps with
    | nil => simp [dataAll]
    | cons => simp [chkLeaves] at h
  | cons v vs ih =>
    intro ps h
    cases ps with
    | nil => simp [chkLeaves] at h
    | cons p ps =>
      simp [chkLeaves] at h
      obtain ⟨h1, h2, h3, h4, h5⟩ := ih ps h.2
      obtain ⟨r1, r2, r3, r4, _, _⟩ := chkLeaf_R (g := g) (κ := κ) h.1
      refine ⟨by simp [h1], fun i v' p' a b => ?_, by simp [r2]; simpa using h3, fun n q hq => ?_, by simp [dataAll, r4, h5]⟩
      · cases i with
        | zero => simp at a b; subst a b; exact r1
        | succ i => simp at a b; exact h2 i v' p' a b
      · simp at hq; rcases hq with rfl | hq
        · exact r3 n
        · exact h4 n q hq

theorem chkConst_R {v : Value} {p : PV} (h : chkConst v p = true) : R g κ v p := by
  unfold chkConst at h
  split at h
  · obtain ⟨h1, h2, h3, _, _⟩ := chkLeaves_R (g := g) (κ := κ) _ _ h
    exact .agg _ _ (by simpa using h1) (leafB_all h3) (fun i v p a b => h2 i v p (by simpa using a) b)
  · rename_i cs
    have : cs = #[] := by simpa using h
    subst this; exact .undef
  · exact (chkLeaf_R h).1

def OpdR (g : GMap) (κ : K) (ρ : Operand → Value) (e : Env) : Prop := ∀ x y, chkOpd g x y = true → R g κ (ρ x) (y.ev e)

theorem opdR_of (hi : g.inv κ) {nt : Nat} {a : Act} {e : Env} (h : EnvR g κ nt a.tmps e) : OpdR g κ a.eval e := by
  intro x y hx
  unfold chkOpd at hx
  split at hx
  · simp at hx; subst hx; exact h.2 _
  · exact chkConst_R hx
  · simp at hx
    exact .fn _ _ _ _ hx rfl rfl (fun i v p a b => by simp at a)
  · rename_i gi ps
    split at hx
    · rename_i vs hvs
      obtain ⟨h1, h2, h3, h4, h5⟩ := chkLeaves_R (g := g) (κ := κ) _ _ hx
      exact .cp gi 0 vs ps h1 (fun i v hv => by rw [Nat.zero_add]; exact g.globOK κ hi gi vs hvs i v hv) h2 h5 h3
    · cases hx
  · cases hx

theorem run_underlying {t : TypeId} {d : TypeDesc} (h : P.underlying t = some d) : (underlying t).run P w = .ok d w := by
  simp [underlying, program, Sem.run, h]
theorem run_typeInfo {t : TypeId} {i : TypeInfo} (h : P.info? t = some i) : (typeInfo t).run P w = .ok i w := by
  simp [typeInfo, program, Sem.run, h]
theorem run_sizeOf {t : TypeId} {n : Nat} (h : sizeT P t = some n) : (sizeOf t).run P w = .ok n w := by
  unfold sizeT at h
  cases hi : P.info? t with
  | none => simp [hi] at h
  | some i => simp [hi] at h; simp [sizeOf, run_typeInfo hi, h]
theorem run_zeroValue {t : TypeId} {v : Value} (h : zeroT P t = some v) : (zeroValue t).run P w = .ok v w := by
  unfold zeroT at h
  cases hi : P.info? t with
  | none => simp [hi] at h
  | some i => simp [hi] at h; simp [zeroValue, run_typeInfo hi, h]
theorem run_isAgg {t : TypeId} {b : Bool} (h : isAggT P t = some b) : (isAgg t).run P w = .ok b w := by
  unfold isAggT at h
  cases hu : P.underlying t with
  | none => simp [hu] at h
  | some d => cases d <;> simp [hu] at h <;> subst h <;> simp [isAgg, run_underlying hu]
theorem sliceElem_eq {t e : TypeId} (h : sliceElem P t = some e) : P.underlying t = some (.slice e) := by
  unfold sliceElem at h; split at h <;> simp_all
theorem isU8_eq {e : TypeId} (h : isU8 P e = true) : P.underlying e = some (.int .u8) := by
  unfold isU8 at h; split at h <;> simp_all
theorem isStrT_eq {e : TypeId} (h : isStrT P e = true) : P.underlying e = some .string := by
  unfold isStrT at h; split at h <;> simp_all
theorem intT_eq {e : TypeId} {k : IntKind} (h : intT P e = some k) : P.underlying e = some (.int k) := by
  unfold intT at h; split at h <;> simp_all
theorem arrT_eq {t e : TypeId} {n : Nat} (h : arrT P t = some (n, e)) : P.underlying t = some (.array n e) := by
  unfold arrT at h; split at h <;> simp_all
theorem fieldsT_eq {t : TypeId} {fs : Array Field} (h : fieldsT P t = some fs) : P.underlying t = some (.struct fs) := by
  unfold fieldsT at h; split at h <;> simp_all

def CellsAt (w : World) (blk off : Nat) (vs : List Value) : Prop := ∀ (i : Nat) (v : Value), vs[i]? = some v → w.cell? ⟨blk, off + i, none⟩ = some v

theorem run_load1 {a : Addr} {v : Value} (h : w.cell? a = some v) : (load a).run P w = .ok v w := by simp [load, Sem.run, h]

theorem run_loadVar {t : TypeId} {ag : Bool} {sz blk off : Nat} {vs : List Value} {cells : List PV} {p : PV} (hag : isAggT P t = some ag) (hsz : ag = true → sizeT P t = some sz) (hc : CellsAt w blk off vs)
    (hl : vs.length = cells.length) (hr : ∀ (i : Nat) (v : Value) (p : PV), vs[i]? = some v → cells[i]? = some p → R g κ v p) (hlf : cells.all leafB = true) (hp : readCells ag sz cells = some p) :
    ∃ v, (loadVar t ⟨blk, off, none⟩).run P w = .ok v w ∧ R g κ v p := by
  cases ag with
  | true =>
    simp only [readCells, if_true] at hp
    split at hp
    · rename_i hle
      cases hp
      have h1 := run_loadCells_list (P := P) w ⟨blk, off, none⟩ (vs.take sz) (fun j v hj => by
        rw [add_eq]; exact hc j v (by rw [List.getElem?_take] at hj; split at hj <;> simp_all))
      have hlen : (vs.take sz).length = sz := by simp; omega
      rw [hlen] at h1
      refine ⟨.agg (vs.take sz).toArray, by simp [loadVar, run_isAgg hag, run_sizeOf (hsz rfl), h1], .agg _ _ (by simp [hl]) ?_ (fun i v p a b => ?_)⟩
      · simp only [List.all_eq_true] at *; exact fun x hx => hlf x (List.mem_of_mem_take hx)
      · simp only [List.getElem?_toArray] at a
        rw [List.getElem?_take] at a b
        split at a
        · rename_i hi; rw [if_pos hi] at b; exact hr i v p a b
        · cases a
    · cases hp
  | false =>
    simp only [readCells] at hp
    cases cells with
    | nil => simp at hp
    | cons c cells =>
      simp at hp; subst hp
      cases vs with
      | nil => simp at hl
      | cons v vs =>
        have h1 : w.cell? ⟨blk, off, none⟩ = some v := hc 0 v rfl
        exact ⟨v, by unfold loadVar; simp only [Sem.run_bind, run_isAgg hag, Result.andThen_ok, Bool.false_eq_true, if_false]; exact run_load1 h1, hr 0 v c rfl rfl⟩

theorem SR.cellsAt_cp (h : SR P g base κ w st) {blk off : Nat} {vs : List Value} (hc : ∀ (i : Nat) (v : Value), vs[i]? = some v → κ.C blk (off + i) = some v) : CellsAt w blk off vs :=
  fun i v hi => h.cC _ _ _ (hc i v hi)

theorem SR.cellsAt_box (h : SR P g base κ w st) {b blk : Nat} {cs : List PV} (h1 : st.boxes[b]? = some cs) (h2 : κ.φ[b]? = some blk) (hm : κ.μ b = false) (off : Nat) :
    ∃ vs : List Value, CellsAt w blk off vs ∧ vs.length = (cs.drop off).length ∧ ∀ (i : Nat) (v : Value) (p : PV), vs[i]? = some v → (cs.drop off)[i]? = some p → R g κ v p := by
  have hx := h.bx b blk cs h1 h2 hm
  obtain ⟨rs, ⟨el, lo, hi, hw, _⟩, hl, hr⟩ := hx.ex
  refine ⟨(rs.toList.take cs.length).drop off, fun i v hi' => ?_, by simp; omega, fun i v p a b => ?_⟩
  · rw [List.getElem?_drop, List.getElem?_take] at hi'
    split at hi'
    · simp only [World.cell?, hw]; simpa using hi'
    · cases hi'
  · rw [List.getElem?_drop] at a b
    rw [List.getElem?_take] at a
    split at a
    · obtain ⟨u, hu, hr'⟩ := hr _ _ b
      simp at a; rw [hu] at a; cases a; exact hr'
    · cases a

theorem drop_all {cs : List PV} (h : cs.all leafOk = true) (n : Nat) : (cs.drop n).all leafOk = true := by
  simp only [List.all_eq_true] at *; exact fun x hx => h x (List.mem_of_mem_drop hx)
theorem drop_allB {cs : List PV} (h : cs.all leafB = true) (n : Nat) : (cs.drop n).all leafB = true := by
  simp only [List.all_eq_true] at *; exact fun x hx => h x (List.mem_of_mem_drop hx)

theorem load_sim (h : SR P g base κ w st) {t : TypeId} {ag : Bool} {sz : Nat} {v : Value} {a p : PV} (hag : isAggT P t = some ag) (hsz : ag = true → sizeT P t = some sz) (hr : R g κ v a) (hp : loadPV st ag sz a = some p) :
    ∃ u, (Instr.loadAt t v).run P w = .ok u w ∧ R g κ u p := by
  unfold loadPV at hp
  split at hp
  · cases hr with
    | cp blk off vs cells hl hc hr' hd hlf =>
      obtain ⟨u, h1, h2⟩ := run_loadVar (P := P) hag hsz (h.cellsAt_cp hc) hl hr' (leafB_all hlf) hp
      exact ⟨u, by simpa [Instr.loadAt, Instr.sureAddr] using h1, h2⟩
  · split at hp
    · rename_i b off _ cs hcs
      cases hr with
      | ptr _ _ blk hφ hμ =>
        obtain ⟨vs, h1, h2, h3⟩ := h.cellsAt_box hcs hφ hμ off
        obtain ⟨u, h4, h5⟩ := run_loadVar (P := P) hag hsz h1 h2 h3 (drop_allB (h.bx _ _ _ hcs hφ hμ).lf off) hp
        exact ⟨u, by simpa [Instr.loadAt, Instr.sureAddr] using h4, h5⟩
    · cases hp
  · cases hp

theorem u8_wrap (n : Int) : IntKind.u8.wrap n = n % 256 := by
  simp [IntKind.wrap, IntKind.bits, IntKind.signed]

theorem u8_toNat_ofNat (n : Nat) : (UInt8.ofNat n).toNat = n % 256 := by simp

theorem bin8_sim {op : BinOp} {a b : UInt8} {p : PV} (h : bin8 op a b = some p) :
    ∃ v, (match op with
      | .add | .sub | .mul => Op.intArith op .u8 a.toNat b.toNat
      | .quo | .rem => Op.intDiv op .u8 a.toNat b.toNat
      | .and | .or | .xor | .andNot => Op.intBits op .u8 a.toNat b.toNat
      | _ => Op.intCmp op a.toNat b.toNat).run P w = .ok v w ∧ R g κ v p := by
  have ha := a.toNat_lt
  have hb := b.toNat_lt
  have h8 : ∀ x : UInt8, BitVec.ofInt 8 (x.toNat : Int) = x.toBitVec := fun x => by
    apply BitVec.eq_of_toNat_eq
    have := x.toNat_lt
    rw [BitVec.toNat_ofInt, UInt8.toNat_toBitVec]; omega
  have hzn : b ≠ 0 → ¬ b.toNat = 0 := fun h h' => h (by apply UInt8.toNat_inj.1; simpa using h')
  have hz : b ≠ 0 → ¬ ((b.toNat : Int) = 0) := fun h h' => h (by
    apply UInt8.toNat_inj.1; simp; omega)
  cases op <;> simp only [bin8] at h
  case add => cases h; exact ⟨_, rfl, .b8 _ _ (by rw [u8_wrap, UInt8.toNat_add]; omega)⟩
  case sub => cases h; exact ⟨_, rfl, .b8 _ _ (by rw [u8_wrap, UInt8.toNat_sub]; omega)⟩
  case mul => cases h; exact ⟨_, rfl, .b8 _ _ (by rw [u8_wrap, UInt8.toNat_mul]; simp [Int.natCast_mul])⟩
  case quo =>
    split at h
    · cases h
    · rename_i hne
      cases h
      refine ⟨.int .u8 (IntKind.u8.wrap ((a.toNat : Int).tdiv b.toNat)), by simp only [Op.intDiv]; rw [if_neg (hz hne)]; rfl, .b8 _ _ ?_⟩
      rw [u8_wrap, UInt8.toNat_div, ← Int.ofNat_tdiv]
      have : a.toNat / b.toNat ≤ a.toNat := Nat.div_le_self _ _
      generalize a.toNat / b.toNat = q at *
      omega
  case rem =>
    split at h
    · cases h
    · rename_i hne
      cases h
      refine ⟨.int .u8 ((a.toNat : Int).tmod b.toNat), by simp only [Op.intDiv]; rw [if_neg (hz hne)]; rfl, .b8 _ _ ?_⟩
      rw [UInt8.toNat_mod, ← Int.ofNat_tmod]
  case and =>
    cases h
    refine ⟨_, rfl, .b8 _ _ ?_⟩
    rw [u8_wrap]
    show (((BitVec.ofInt 8 (a.toNat : Int) &&& BitVec.ofInt 8 (b.toNat : Int)).toNat : Nat) : Int) % 256 = _
    rw [h8, h8, ← UInt8.toBitVec_and, UInt8.toNat_toBitVec]
    have := (a &&& b).toNat_lt
    omega
  case or =>
    cases h
    refine ⟨_, rfl, .b8 _ _ ?_⟩
    rw [u8_wrap]
    show (((BitVec.ofInt 8 (a.toNat : Int) ||| BitVec.ofInt 8 (b.toNat : Int)).toNat : Nat) : Int) % 256 = _
    rw [h8, h8, ← UInt8.toBitVec_or, UInt8.toNat_toBitVec]
    have := (a ||| b).toNat_lt
    omega
  case xor =>
    cases h
    refine ⟨_, rfl, .b8 _ _ ?_⟩
    rw [u8_wrap]
    show (((BitVec.ofInt 8 (a.toNat : Int) ^^^ BitVec.ofInt 8 (b.toNat : Int)).toNat : Nat) : Int) % 256 = _
    rw [h8, h8, ← UInt8.toBitVec_xor, UInt8.toNat_toBitVec]
    have := (a ^^^ b).toNat_lt
    omega
  case eql => cases h; refine ⟨_, rfl, ?_⟩; rw [show ((a.toNat : Int) == b.toNat) = (a == b) by rw [Bool.eq_iff_iff]; simp [← UInt8.toNat_inj]; omega]; exact .bool _
  case neq => cases h; refine ⟨_, rfl, ?_⟩; rw [show ((a.toNat : Int) != b.toNat) = (a != b) by rw [Bool.eq_iff_iff]; simp [← UInt8.toNat_inj]; omega]; exact .bool _
  case lss => cases h; refine ⟨_, rfl, ?_⟩; rw [show decide ((a.toNat : Int) < b.toNat) = decide (a < b) by simp [UInt8.lt_iff_toNat_lt]]; exact .bool _
  case leq => cases h; refine ⟨_, rfl, ?_⟩; rw [show decide ((a.toNat : Int) ≤ b.toNat) = decide (a ≤ b) by simp [UInt8.le_iff_toNat_le]]; exact .bool _
  case gtr => cases h; refine ⟨_, rfl, ?_⟩; rw [show decide ((a.toNat : Int) > b.toNat) = decide (b < a) by simp [UInt8.lt_iff_toNat_lt]]; exact .bool _
  case geq => cases h; refine ⟨_, rfl, ?_⟩; rw [show decide ((a.toNat : Int) ≥ b.toNat) = decide (b ≤ a) by simp [UInt8.le_iff_toNat_le]]; exact .bool _
  all_goals cases h

theorem binI_sim {op : BinOp} {k : IntKind} {a b : Int} {p : PV} (hk : k ≠ .u8) (h : binI op k a b = some p) :
    ∃ v, (match op with
      | .add | .sub | .mul => Op.intArith op k a b
      | .quo | .rem => Op.intDiv op k a b
      | .and | .or | .xor | .andNot => Op.intBits op k a b
      | _ => Op.intCmp op a b).run P w = .ok v w ∧ R g κ v p := by
  cases op <;> simp only [binI] at h
  case add => cases h; exact ⟨_, rfl, .int _ _ hk⟩
  case sub => cases h; exact ⟨_, rfl, .int _ _ hk⟩
  case mul => cases h; exact ⟨_, rfl, .int _ _ hk⟩
  case quo =>
    split at h
    · cases h
    · rename_i hne; cases h; exact ⟨_, by simp [Op.intDiv, hne], .int _ _ hk⟩
  case rem =>
    split at h
    · cases h
    · rename_i hne; cases h; exact ⟨_, by simp [Op.intDiv, hne], .int _ _ hk⟩
  case and => cases h; exact ⟨_, rfl, .int _ _ hk⟩
  case or => cases h; exact ⟨_, rfl, .int _ _ hk⟩
  case xor => cases h; exact ⟨_, rfl, .int _ _ hk⟩
  case eql => cases h; exact ⟨_, rfl, .bool _⟩
  case neq => cases h; exact ⟨_, rfl, .bool _⟩
  case lss => cases h; exact ⟨_, rfl, .bool _⟩
  case leq => cases h; exact ⟨_, rfl, .bool _⟩
  case gtr => cases h; exact ⟨_, rfl, .bool _⟩
  case geq => cases h; exact ⟨_, rfl, .bool _⟩
  all_goals cases h

theorem sh8_sim {op : BinOp} {yk : IntKind} {a : UInt8} {n : Int} {p : PV} (h : sh8 op a n = some p) : ∃ v, (Op.shift op .u8 a.toNat yk n).run P w = .ok v w ∧ R g κ v p := by
  unfold sh8 at h
  split at h
  · cases h
  · rename_i hn
    have ha := a.toNat_lt
    cases op <;> simp only at h
    case shl =>
      cases h
      refine ⟨.int .u8 (IntKind.u8.wrap ((a.toNat : Int) * 2 ^ (min n.toNat 8))), by simp [Op.shift, hn, IntKind.bits], .b8 _ _ ?_⟩
      rw [u8_wrap, u8_toNat_ofNat]
      rw [show ((a.toNat : Int) * 2 ^ (min n.toNat 8)) = ((a.toNat * 2 ^ (min n.toNat 8) : Nat) : Int) by push_cast; rfl]
      omega
    case shr =>
      cases h
      refine ⟨.int .u8 ((a.toNat : Int).fdiv (2 ^ (min n.toNat 8))), by simp [Op.shift, hn, IntKind.bits], .b8 _ _ ?_⟩
      rw [u8_toNat_ofNat]
      have h2 : (0 : Int) ≤ 2 ^ (min n.toNat 8) := by
        have : (0 : Nat) < 2 ^ (min n.toNat 8) := Nat.pow_pos (by omega)
        have h3 : ((2 ^ (min n.toNat 8) : Nat) : Int) = 2 ^ (min n.toNat 8) := by push_cast; rfl
        omega
      rw [Int.fdiv_eq_ediv_of_nonneg _ h2]
      rw [show ((a.toNat : Int) / 2 ^ (min n.toNat 8)) = ((a.toNat / 2 ^ (min n.toNat 8) : Nat) : Int) by push_cast; rfl]
      have : a.toNat / 2 ^ (min n.toNat 8) ≤ a.toNat := Nat.div_le_self _ _
      generalize a.toNat / 2 ^ (min n.toNat 8) = q at *
      omega
    all_goals cases h

theorem shI_sim {op : BinOp} {k yk : IntKind} {a n : Int} {p : PV} (hk : k ≠ .u8) (h : shI op k a n = some p) : ∃ v, (Op.shift op k a yk n).run P w = .ok v w ∧ R g κ v p := by
  unfold shI at h
  split at h
  · cases h
  · rename_i hn
    cases op <;> simp at h
    case shl => subst h; exact ⟨.int k (k.wrap (a * 2 ^ (min n.toNat k.bits))), by simp [Op.shift, hn], .int _ _ hk⟩
    case shr => subst h; exact ⟨.int k (a.fdiv (2 ^ (min n.toNat k.bits))), by simp [Op.shift, hn], .int _ _ hk⟩

theorem toList_eq (s : ByteArray) : s.toList = s.data.toList := ByteArray.toList_eq s

theorem binS_sim {op : BinOp} {a b : ByteArray} {p : PV} (h : binS op a.data.toList b.data.toList = some p) : ∃ v, (Op.stringOp op a b).run P w = .ok v w ∧ R g κ v p := by
  cases op <;> simp only [binS] at h
  case add =>
    split at h
    · rename_i hle
      cases h
      have : ¬ ((a.size + b.size : Nat) : Int) > IntKind.i64.max := by
        have h1 : a.data.toList.length = a.size := rfl
        have h2 : b.data.toList.length = b.size := rfl
        have h3 : IntKind.i64.max = 9223372036854775807 := by decide
        rw [h1, h2] at hle
        omega
      refine ⟨.string (a ++ b), by simp only [Op.stringOp]; rw [if_neg this]; rfl, .str _ _ (by simp)⟩
    · cases h
  case eql => cases h; refine ⟨_, rfl, ?_⟩; rw [toList_eq, toList_eq]; exact .bool _
  case neq => cases h; refine ⟨_, rfl, ?_⟩; rw [toList_eq, toList_eq]; exact .bool _
  case lss => cases h; refine ⟨_, rfl, ?_⟩; rw [toList_eq, toList_eq]; exact .bool _
  case leq => cases h; refine ⟨_, rfl, ?_⟩; rw [toList_eq, toList_eq]; exact .bool _
  case gtr => cases h; refine ⟨_, rfl, ?_⟩; rw [toList_eq, toList_eq]; exact .bool _
  case geq => cases h; refine ⟨_, rfl, ?_⟩; rw [toList_eq, toList_eq]; exact .bool _
  all_goals cases h

theorem eqLeaf_sim {d : Nat} {t : TypeId} {k : FK} {x y : Value} {p q : PV} {b : Bool} (ht : fkOK P t k = true)
    (hx : R g κ x p) (hy : R g κ y q) (h : eqLeaf k p q = some b) : (Op.equalIn (d + 1) t x y).run P w = .ok b w := by
  unfold eqLeaf at h
  split at h
  · simp only [fkOK] at ht
    split at ht <;> simp at ht
    rename_i hu
    cases hx; cases hy; cases h
    simp [Op.equalIn, run_underlying hu]
  · simp only [fkOK] at ht
    split at ht <;> simp at ht
    rename_i hu
    cases hx with | b8 _ m hm' => cases hy with | b8 _ m' hm'' =>
    cases h; subst hm' hm''
    simp only [Op.equalIn, Sem.run_bind, run_underlying hu, Result.andThen_ok, if_true, Sem.run_pure]
    congr 1
    rw [Bool.eq_iff_iff]; simp [← UInt8.toNat_inj]; omega
  · simp only [fkOK] at ht
    split at ht <;> simp at ht
    rename_i hu
    cases hx; cases hy
    split at h
    · rename_i hk; subst hk; cases h
      simp [Op.equalIn, run_underlying hu]
    · cases h
  · simp only [fkOK] at ht
    split at ht <;> simp at ht
    rename_i hu
    cases hx with | str s l hl => cases hy with | str s' l' hl' =>
    cases h; subst hl hl'
    simp only [Op.equalIn, Sem.run_bind, run_underlying hu, Result.andThen_ok, Sem.run_pure]
    rw [beq_toListBytes, toList_eq, toList_eq]
  · cases h

theorem run_isAgg_fk {t : TypeId} {k : FK} (h : fkOK P t k = true) : isAggT P t = some false := by
  unfold isAggT
  cases k <;> simp only [fkOK] at h <;> split at h <;> simp_all

theorem run_part {t : TypeId} {cs : Array Value} {off : Nat} {v : Value} (h : isAggT P t = some false) (hv : cs[off]? = some v) : (part t cs off).run P w = .ok v w := by
  simp [part, run_isAgg h, hv]

theorem eqFields_sim {d : Nat} {xs ys : Array Value} {ps qs : List PV} (hx : ∀ (i : Nat) (v : Value) (p : PV), xs[i]? = some v → ps[i]? = some p → R g κ v p) (hxl : xs.size = ps.length)
    (hy : ∀ (i : Nat) (v : Value) (p : PV), ys[i]? = some v → qs[i]? = some p → R g κ v p) (hyl : ys.size = qs.length) :
    ∀ (fs : List Field) (ks : List FK) (i : Nat) (b : Bool), eqFields P i fs ks = true → eqCells ks (ps.drop i) (qs.drop i) = some b → (Op.eqFields (d + 1) xs ys fs).run P w = .ok b w := by
  intro fs
  induction fs with
  | nil =>
    intro ks i b h1 h2
    cases ks with
    | cons => simp [Ab.eqFields] at h1
    | nil =>
      generalize ps.drop i = a at *
      generalize qs.drop i = c at *
      cases a <;> cases c <;> simp [eqCells] at h2
      subst h2; simp [Op.eqFields]
  | cons f fs ih =>
    intro ks i b h1 h2
    cases ks with
    | nil => simp [Ab.eqFields] at h1
    | cons k ks =>
      simp only [Ab.eqFields, Bool.and_eq_true, decide_eq_true_eq] at h1
      obtain ⟨⟨⟨hoff, hname⟩, hfk⟩, hrest⟩ := h1
      cases hp : ps.drop i with
      | nil => rw [hp] at h2; cases hq : qs.drop i <;> simp [eqCells] at h2
      | cons a as =>
        cases hq : qs.drop i with
        | nil => rw [hp, hq] at h2; simp [eqCells] at h2
        | cons c cs =>
          rw [hp, hq] at h2
          have hpi : ps[i]? = some a := by have := congrArg List.head? hp; simpa [List.head?_drop] using this
          have hqi : qs[i]? = some c := by have := congrArg List.head? hq; simpa [List.head?_drop] using this
          have hil : i < ps.length := (List.getElem?_eq_some_iff.1 hpi).1
          have hil' : i < qs.length := (List.getElem?_eq_some_iff.1 hqi).1
          have hxi : xs[i]? = some xs[i] := by simp [show i < xs.size by omega]
          have hyi : ys[i]? = some ys[i] := by simp [show i < ys.size by omega]
          have hp' : ps.drop (i + 1) = as := by rw [← List.drop_drop, hp]; rfl
          have hq' : qs.drop (i + 1) = cs := by rw [← List.drop_drop, hq]; rfl
          simp only [eqCells] at h2
          cases he : eqLeaf k a c with
          | none => simp [he] at h2
          | some r =>
            have h3 := eqLeaf_sim (P := P) (w := w) (d := d) hfk (hx i _ _ hxi hpi) (hy i _ _ hyi hqi) he
            simp only [Op.eqFields, hname, ne_eq, not_false_eq_true, if_true, Sem.run_bind, hoff, run_part (run_isAgg_fk hfk) hxi, run_part (run_isAgg_fk hfk) hyi, Result.andThen_ok, h3]
            cases r with
            | false => simp [he] at h2; subst h2; simp
            | true =>
              simp [he] at h2
              simp only [Bool.not_true, Bool.false_eq_true, if_false]
              exact ih ks (i + 1) b hrest (by rw [hp', hq']; exact h2)

theorem eq_ptr (d : Nat) {t e : TypeId} (hu : P.underlying t = some (.pointer e)) (a b : Option Addr) (h : a = none ∨ b = none) : (Op.equalIn (d + 1) t (.pointer a) (.pointer b)).run P w = .ok (a.isNone && b.isNone) w := by
  rcases h with rfl | rfl
  · simp [Op.equalIn, run_underlying hu]
  · cases a <;> simp [Op.equalIn, run_underlying hu]
theorem eq_slice (d : Nat) {t e : TypeId} (hu : P.underlying t = some (.slice e)) (a b : Option Addr) (n c n' c' : Nat) (h : a = none ∨ b = none) : (Op.equalIn (d + 1) t (.slice a n c) (.slice b n' c')).run P w = .ok (a.isNone && b.isNone) w := by
  rcases h with rfl | rfl
  · simp [Op.equalIn, run_underlying hu]
  · cases a <;> simp [Op.equalIn, run_underlying hu]
theorem eq_func1 (d : Nat) {t : TypeId} {ps rs : Array TypeId} {v : Bool} (hu : P.underlying t = some (.func ps rs v)) : (Op.equalIn (d + 1) t .nilFunc .nilFunc).run P w = .ok true w := by
  simp [Op.equalIn, run_underlying hu]
theorem eq_func2 (d : Nat) {t : TypeId} {ps rs : Array TypeId} {v : Bool} (hu : P.underlying t = some (.func ps rs v)) (f : Fn) (a b : Array Value) : (Op.equalIn (d + 1) t .nilFunc (.func f a b)).run P w = .ok false w := by
  simp [Op.equalIn, run_underlying hu]
theorem eq_func3 (d : Nat) {t : TypeId} {ps rs : Array TypeId} {v : Bool} (hu : P.underlying t = some (.func ps rs v)) (f : Fn) (a b : Array Value) : (Op.equalIn (d + 1) t (.func f a b) .nilFunc).run P w = .ok false w := by
  simp [Op.equalIn, run_underlying hu]

theorem eqPV_sim' (d : Nat) {t : TypeId} {ek : EK} {x y : Value} {p q : PV} {b : Bool} (ht : ekOK P t ek = true) (hx : R g κ x p) (hy : R g κ y q) (h : eqPV ek p q = some b) :
    (Op.equalIn (d + 1 + 1) t x y).run P w = .ok b w := by
  unfold eqPV at h
  split at h
  all_goals (first | (cases h; done) | skip)
  case _ =>
    simp only [ekOK] at ht
    split at ht <;> simp at ht
    rename_i hu
    cases hx; cases hy; cases h
    exact run_equalIn_bool w _ t _ _ hu
  all_goals (first
    | (simp only [ekOK] at ht
       split at ht <;> simp at ht
       rename_i hu
       cases hx <;> cases hy <;> cases h <;>
       first | exact eq_ptr _ hu _ _ (.inl rfl) | exact eq_ptr _ hu _ _ (.inr rfl) | exact eq_slice _ hu _ _ _ _ _ _ (.inl rfl) | exact eq_slice _ hu _ _ _ _ _ _ (.inr rfl) | exact eq_func1 _ hu | exact eq_func2 _ hu _ _ _ | exact eq_func3 _ hu _ _ _)
    | skip)
  simp only [ekOK] at ht
  split at ht
  · rename_i fs hu
    simp only [Bool.and_eq_true] at ht
    obtain ⟨⟨h2, h3⟩, h4⟩ := ht
    cases hx with | agg vs _ hl _ hr => cases hy with | agg vs' _ hl' _ hr' =>
    have hf : P.fieldsOf t = fs := by simp [Program.fieldsOf, hu]
    rw [run_equalIn_struct w (d + 1) t vs vs' (by rw [hf]; exact hu) (by simpa using h3), hf]
    exact eqFields_sim (d := d) hr hl hr' hl' fs.toList _ 0 b h2 (by simpa using h)
  · cases ht

theorem eqPV_sim {t : TypeId} {ek : EK} {x y : Value} {p q : PV} {b : Bool} (ht : ekOK P t ek = true) (hx : R g κ x p) (hy : R g κ y q) (h : eqPV ek p q = some b) :
    (Op.equal t x y).run P w = .ok b w := eqPV_sim' 9998 ht hx hy h

theorem eqGuard_sim {op : BinOp} {t : TypeId} {ek : EK} {x y : Operand} {v u : Value} {p q r : PV} (ht : ekOK P t ek = true) (hx : R g κ v p) (hy : R g κ u q) (h : binPV op ek p q = some r) :
    (eqGuard op t x y v u).run P w = .ok () w := by
  cases hx
  case nili => cases hy <;> cases op <;> simp_all [binPV, eqPV] <;> (cases ek <;> simp_all)
  case agg vs ps hl hlf hr =>
    cases hy
    case agg vs' ps' hl' hlf' hr' =>
      by_cases ho : op = .eql ∨ op = .neq
      · have hg : P.eqGuardType P.depth t = false := by
          have : ∃ ks, ek = .struct ks := by
            rcases ho with rfl | rfl <;> cases ek <;> simp_all [binPV, eqPV]
          obtain ⟨ks, rfl⟩ := this
          simp only [ekOK] at ht
          split at ht
          · simp only [Bool.and_eq_true] at ht; simpa using ht.2
          · cases ht
        exact run_eqGuard_agg w op t x y vs vs' hg
      · cases op <;> simp_all [eqGuard]
    all_goals (cases op <;> simp [eqGuard])
  all_goals (cases op <;> simp [eqGuard])

theorem binPV_sim {op : BinOp} {t : TypeId} {ek : EK} {v u : Value} {p q r : PV} (ht : ekOK P t ek = true) (hx : R g κ v p) (hy : R g κ u q) (h : binPV op ek p q = some r) :
    ∃ z, (binOp op t v u).run P w = .ok z w ∧ R g κ z r := by
  unfold binPV at h
  split at h
  · rename_i a b
    cases hx with | b8 _ m hm => cases hy with | b8 _ m' hm' =>
    subst hm hm'
    by_cases hs : op = .shl ∨ op = .shr
    · have h' : sh8 op a b.toNat = some r := by rcases hs with rfl | rfl <;> exact h
      obtain ⟨z, h1, h2⟩ := sh8_sim (P := P) (w := w) (g := g) (κ := κ) (yk := .u8) h'
      exact ⟨z, by rcases hs with rfl | rfl <;> exact h1, h2⟩
    · have h' : bin8 op a b = some r := by cases op <;> simp_all
      obtain ⟨z, h1, h2⟩ := bin8_sim (P := P) (w := w) (g := g) (κ := κ) h'
      exact ⟨z, by cases op <;> first | exact h1 | simp_all, h2⟩
  · rename_i k a k' b
    cases hx with | int _ _ hk => cases hy with | int _ _ hk' =>
    by_cases hs : op = .shl ∨ op = .shr
    · have h' : shI op k a b = some r := by rcases hs with rfl | rfl <;> exact h
      obtain ⟨z, h1, h2⟩ := shI_sim (P := P) (w := w) (g := g) (κ := κ) (yk := k') hk h'
      exact ⟨z, by rcases hs with rfl | rfl <;> exact h1, h2⟩
    · have h' : k = k' ∧ binI op k a b = some r := by
        by_cases hkk : k = k'
        · exact ⟨hkk, by cases op <;> simp_all⟩
        · cases op <;> simp_all
      obtain ⟨rfl, h'⟩ := h'
      obtain ⟨z, h1, h2⟩ := binI_sim (P := P) (w := w) (g := g) (κ := κ) hk h'
      exact ⟨z, by cases op <;> first | (simp only [binOp, ne_eq, not_true, if_false]; exact h1) | simp_all, h2⟩
  · rename_i k a b
    cases hx with | int _ _ hk => cases hy with | b8 _ m' hm' =>
    subst hm'
    by_cases hs : op = .shl ∨ op = .shr
    · have h' : shI op k a b.toNat = some r := by rcases hs with rfl | rfl <;> exact h
      obtain ⟨z, h1, h2⟩ := shI_sim (P := P) (w := w) (g := g) (κ := κ) (yk := .u8) hk h'
      exact ⟨z, by rcases hs with rfl | rfl <;> exact h1, h2⟩
    · cases op <;> simp_all
  · rename_i a k b
    cases hx with | b8 _ m hm => cases hy with | int _ _ hk =>
    subst hm
    by_cases hs : op = .shl ∨ op = .shr
    · have h' : sh8 op a b = some r := by rcases hs with rfl | rfl <;> exact h
      obtain ⟨z, h1, h2⟩ := sh8_sim (P := P) (w := w) (g := g) (κ := κ) (yk := k) h'
      exact ⟨z, by rcases hs with rfl | rfl <;> exact h1, h2⟩
    · cases op <;> simp_all
  · cases hx with | str s l hl => cases hy with | str s' l' hl' =>
    subst hl hl'
    obtain ⟨z, h1, h2⟩ := binS_sim (P := P) (w := w) (g := g) (κ := κ) h
    exact ⟨z, by cases op <;> exact h1, h2⟩
  · split at h
    · cases he : eqPV ek p q with
      | none => simp [he] at h
      | some b =>
        simp [he] at h; subst h
        have h3 := eqPV_sim (P := P) (w := w) ht hx hy he
        refine ⟨.bool b, ?_, .bool b⟩
        have h4 : ∀ (hb : binOp .eql t v u = (do pure (.bool (← Op.equal t v u)))), (binOp .eql t v u).run P w = .ok (.bool b) w := fun hb => by
          rw [hb]; simp only [Sem.run_bind, h3, Result.andThen_ok, Sem.run_pure]
        apply h4
        cases hx <;> cases hy <;> first | rfl | (exfalso; clear h3 h4 ht; cases ek <;> simp [eqPV] at he) | (exfalso; simp_all)
    · cases he : eqPV ek p q with
      | none => simp [he] at h
      | some b =>
        simp [he] at h; subst h
        have h3 := eqPV_sim (P := P) (w := w) ht hx hy he
        refine ⟨.bool (!b), ?_, .bool _⟩
        have h4 : ∀ (hb : binOp .neq t v u = (do pure (.bool (!(← Op.equal t v u))))), (binOp .neq t v u).run P w = .ok (.bool (!b)) w := fun hb => by
          rw [hb]; simp only [Sem.run_bind, h3, Result.andThen_ok, Sem.run_pure]
        apply h4
        cases hx <;> cases hy <;> first | rfl | (exfalso; clear h3 h4 ht; cases ek <;> simp [eqPV] at he) | (exfalso; simp_all)
    · cases h

end Go.Ab
/-
  Operations that make no memory, second part.
-/
namespace Go.Ab

variable {P : Program} {g : GMap} {base : Nat} {κ : K} {w : World} {st : St}

theorem unPV_sim {op : UnOp} {v : Value} {p r : PV} (hx : R g κ v p) (h : unPV op p = some r) : ∃ z, (Op.unary op v).run P w = .ok z w ∧ R g κ z r := by
  unfold unPV at h
  split at h
  · cases hx; cases h; exact ⟨_, rfl, .bool _⟩
  · cases hx with | int k n hk => cases h; exact ⟨_, rfl, .int _ _ hk⟩
  · cases h

theorem wrap_nat (k : IntKind) (hk : k ≠ .u8) (hk' : k ≠ .i8) (b : UInt8) : k.wrap b.toNat = b.toNat := by
  have := b.toNat_lt
  cases k <;> simp [IntKind.wrap, IntKind.bits, IntKind.signed] at * <;> omega

theorem cInt_sim {s d : TypeId} {k : IntKind} {v : Value} {p r : PV} (hs : (P.underlying s).isSome = true) (hd : intT P d = some k) (hx : R g κ v p) (h : cIntPV k p = some r) :
    ∃ z, (convert s d v).run P w = .ok z w ∧ R g κ z r := by
  obtain ⟨ds, hs⟩ := Option.isSome_iff_exists.1 hs
  have hd := intT_eq hd
  have key : ∀ (k' : IntKind) (n : Int), (convert s d (.int k' n)).run P w = .ok (.int k (k.wrap n)) w := fun k' n => by
    simp [convert, run_underlying hs, run_underlying hd, Conv.intToInt]
  unfold cIntPV at h
  split at h
  · cases hx with | int k' n hk =>
    split at h
    · cases h
      exact ⟨_, key _ _, .b8 _ _ (by rw [u8_wrap, u8_toNat_ofNat]; omega)⟩
    · rename_i hne
      cases h; exact ⟨_, key _ _, .int _ _ (by rintro rfl; exact hne rfl)⟩
  · cases hx with | b8 b n hn =>
    subst hn
    split at h
    · cases h
      exact ⟨_, key _ _, .b8 _ _ (by rw [u8_wrap]; have := UInt8.toNat_lt (by assumption); omega)⟩
    · cases h; exact ⟨_, key _ _, .int _ _ (by simp)⟩
    · rename_i h1 h2
      cases h
      refine ⟨_, key _ _, ?_⟩
      rw [wrap_nat _ (by rintro rfl; exact h1 rfl) (by rintro rfl; exact h2 rfl)]
      exact .int _ _ (by rintro rfl; exact h1 rfl)
  · cases h

theorem cStr_sim {s d : TypeId} {v : Value} {l : List UInt8} (hs : (P.underlying s).isSome = true) (hd : isStrT P d = true) (hx : R g κ v (.str l)) : (convert s d v).run P w = .ok v w := by
  obtain ⟨ds, hs⟩ := Option.isSome_iff_exists.1 hs
  have hd := isStrT_eq hd
  cases hx
  simp [convert, run_underlying hs, run_underlying hd]

theorem ext_sim {k : Nat} {v : Value} {p r : PV} (hx : R g κ v p) (h : qcjz k p = some r) : ∃ z, (Instr.extract v k).run P w = .ok z w ∧ R g κ z r := by
  unfold qcjz at h
  split at h
  · rename_i ps
    cases hx with | tup vs _ hl hne hr =>
    have hk : k < ps.length := (List.getElem?_eq_some_iff.1 h).1
    have hv : vs[k]? = some vs[k] := by simp [show k < vs.size by omega]
    exact ⟨vs[k], by simp only [Instr.extract, hv]; rfl, hr k _ _ hv h⟩
  · cases h

theorem len_sim {st' : Bool} {t : TypeId} {argTypes : Array TypeId} {ty : TypeId} {v : Value} {p r : PV} (hat : argTypes[0]? = some t) (ht : (if st' then isStrT P t else (sliceElem P t).isSome) = true) (hx : R g κ v p) (h : lenPV st' p = some r) :
    ∃ z, (Builtin.len_ argTypes ty #[v]).run P w = .ok z w ∧ R g κ z r := by
  cases st' with
  | true =>
    have hu := isStrT_eq (show isStrT P t = true from ht)
    cases p <;> simp [lenPV] at h
    cases hx with | str s l hl =>
    subst h hl
    exact ⟨_, by simp [Builtin.len_, hat, run_underlying hu, goInt] <;> rfl, .int _ _ (by simp)⟩
  | false =>
    obtain ⟨e, he⟩ := Option.isSome_iff_exists.1 (show (sliceElem P t).isSome = true from ht)
    have hu := sliceElem_eq he
    cases p <;> simp [lenPV] at h
    · cases hx; subst h
      exact ⟨_, by simp [Builtin.len_, hat, run_underlying hu, goInt] <;> rfl, .int _ _ (by simp)⟩
    · cases hx with | bys blk off n c t l hn hc hb ht' =>
      subst h hn
      exact ⟨_, by simp [Builtin.len_, hat, run_underlying hu, goInt], .int _ _ (by simp)⟩
    · cases hx with
      | sl0 a esz t ht0 =>
        subst h
        exact ⟨_, by simp [Builtin.len_, hat, run_underlying hu, goInt] <;> rfl, .int _ _ (by simp)⟩
      | sl blk off n c esz t xs vs hn =>
      subst h hn
      exact ⟨_, by simp [Builtin.len_, hat, run_underlying hu, goInt], .int _ _ (by simp)⟩
    · cases hx with | ms b off off' n c blk h1 h2 h3 hμ =>
      subst h
      exact ⟨_, by simp [Builtin.len_, hat, run_underlying hu, goInt], .int _ _ (by simp)⟩

theorem nilck_sim {v : Value} {p r : PV} {o : Oper} {ρ : Operand → Value} {x : Operand} (ho : o.op = .nilCheck x) (hv : ρ x = v) (hx : R g κ v p) (h : qckz p = some r) : (execOp ρ o).run P w = .ok (.value v) w ∧ R g κ v r := by
  unfold qckz at h
  split at h <;> (first | (cases h; done) | skip)
  · cases h; refine ⟨?_, hx⟩; cases hx; simp [execOp, ho, hv]
  · cases h; refine ⟨?_, hx⟩; cases hx; simp [execOp, ho, hv]
  · cases h; refine ⟨?_, hx⟩; cases hx; simp [execOp, ho, hv]
  · cases h; refine ⟨?_, hx⟩; cases hx; simp [execOp, ho, hv]

theorem faddr_sim (hsr : SR P g base κ w st) {s : TypeId} {fs : Array Field} {f : Nat} {fd : Field} {n off : Nat} {v : Value} {p r : PV} (hs : fieldsT P s = some fs) (hf : fs[f]? = some fd) (ho : fd.offset = off) (hn : sizeT P fd.type = some n) (hn0 : n ≠ 0)
    (hx : R g κ v p) (h : faddrPV off p = some r) : ∃ z, (Instr.fieldAt s v f).run P w = .ok z w ∧ R g κ z r := by
  have hu := fieldsT_eq hs
  unfold faddrPV at h
  split at h
  · rename_i b o
    cases hx with | ptr _ _ blk hφ hμ =>
    cases h
    refine ⟨.pointer (some ⟨blk, o + off, none⟩), ?_, .ptr _ _ _ hφ hμ⟩
    simp [Instr.fieldAt, run_underlying hu, hf, Instr.sureAddr, fieldPlace, run_sizeOf hn, hn0, ho, add_eq]
  · rename_i cells
    cases hx with | cp blk o vs _ hl hc hr hd hlf =>
    cases h
    refine ⟨.pointer (some ⟨blk, o + off, none⟩), ?_, .cp _ _ (vs.drop off) _ (by simp [hl]) (fun i v hi => ?_) (fun i v p a b => ?_) ?_ (drop_all hlf off)⟩
    · simp [Instr.fieldAt, run_underlying hu, hf, Instr.sureAddr, fieldPlace, run_sizeOf hn, hn0, ho, add_eq]
    · rw [List.getElem?_drop] at hi
      rw [Nat.add_assoc]; exact hc _ _ hi
    · rw [List.getElem?_drop] at a b; exact hr _ _ _ a b
    · have : dataAll (cells.take off ++ cells.drop off) = true := by rw [List.take_append_drop]; exact hd
      rw [dataAll_append, Bool.and_eq_true] at this; exact this.2
  · cases h

theorem readCells_part {t : TypeId} {ag : Bool} {sz off : Nat} {vs : Array Value} {ps : List PV} {r : PV} (hag : isAggT P t = some ag) (hsz : ag = true → sizeT P t = some sz) (hl : vs.size = ps.length) (hlf : ps.all leafB = true)
    (hr : ∀ (i : Nat) (v : Value) (p : PV), vs[i]? = some v → ps[i]? = some p → R g κ v p) (h : readCells ag sz (ps.drop off) = some r) : ∃ z, (part t vs off).run P w = .ok z w ∧ R g κ z r := by
  cases ag with
  | true =>
    simp only [readCells, if_true] at h
    split at h
    · rename_i hle
      cases h
      simp at hle
      refine ⟨.agg (vs.extract off (off + sz)), by simp [part, run_isAgg hag, run_sizeOf (hsz rfl)], .agg _ _ (by simp; omega) ?_ (fun i v p a b => ?_)⟩
      · simp only [List.all_eq_true] at *; exact fun x hx => hlf x (List.mem_of_mem_drop (List.mem_of_mem_take hx))
      · rw [Array.getElem?_extract] at a
        split at a
        · rw [List.getElem?_take] at b
          split at b
          · rw [List.getElem?_drop] at b; exact hr _ _ _ a b
          · cases b
        · cases a
    · cases h
  | false =>
    simp only [readCells] at h
    cases hp : ps.drop off with
    | nil => simp [hp] at h
    | cons c cs =>
      simp [hp] at h; subst h
      have hpi : ps[off]? = some c := by have := congrArg List.head? hp; simpa [List.head?_drop] using this
      have hil : off < ps.length := (List.getElem?_eq_some_iff.1 hpi).1
      have hv : vs[off]? = some vs[off] := by simp [show off < vs.size by omega]
      exact ⟨vs[off], run_part hag hv, hr _ _ _ hv hpi⟩

theorem fld_sim {t : TypeId} {fs : Array Field} {f : Nat} {fd : Field} {ag : Bool} {sz off : Nat} {v : Value} {p r : PV} (hs : fieldsT P t = some fs) (hf : fs[f]? = some fd) (ho : fd.offset = off) (hag : isAggT P fd.type = some ag)
    (hsz : ag = true → sizeT P fd.type = some sz) (hx : R g κ v p) (h : fldPV ag off sz p = some r) : ∃ z, (Instr.field t v f).run P w = .ok z w ∧ R g κ z r := by
  have hu := fieldsT_eq hs
  unfold fldPV at h
  split at h
  · cases hx with | agg vs ps hl hlf hr =>
    obtain ⟨z, h1, h2⟩ := readCells_part (P := P) (w := w) hag hsz hl hlf hr h
    exact ⟨z, by simp [Instr.field, run_underlying hu, hf, asAgg, ho, h1], h2⟩
  · cases h

theorem intOf_sim {v : Value} {p : PV} {i : Int} (hx : R g κ v p) (h : intOf p = some i) : ∃ k, v = .int k i := by
  unfold intOf at h
  split at h
  · cases hx; cases h; exact ⟨_, rfl⟩
  · cases hx with | b8 b n hn => cases h; subst hn; exact ⟨_, rfl⟩
  · cases h

theorem flat_get {esz : Nat} : ∀ {xs : List PV} (he : ∀ x ∈ xs, x.cells.length = esz) {k j : Nat} {x q : PV}, xs[k]? = some x → x.cells[j]? = some q → (flat xs)[k * esz + j]? = some q := by
  intro xs
  induction xs with
  | nil => intro he k j x q h; simp at h
  | cons y ys ih =>
    intro he k j x q h1 h2
    have hy : y.cells.length = esz := he y (by simp)
    simp only [flat, List.flatMap_cons]
    cases k with
    | zero =>
      simp at h1; subst h1
      have : j < y.cells.length := (List.getElem?_eq_some_iff.1 h2).1
      rw [List.getElem?_append_left (by omega)]; simpa using h2
    | succ k =>
      simp at h1
      rw [List.getElem?_append_right (by rw [hy, Nat.succ_mul]; omega), hy]
      have := ih (fun x hx => he x (by simp [hx])) h1 h2
      rw [show (k + 1) * esz + j - esz = k * esz + j by rw [Nat.succ_mul]; omega]
      exact this

theorem flat_length {esz : Nat} : ∀ {xs : List PV} (he : ∀ x ∈ xs, x.cells.length = esz), (flat xs).length = xs.length * esz := by
  intro xs
  induction xs with
  | nil => intro _; simp [flat]
  | cons y ys ih =>
    intro he
    have := ih (fun x hx => he x (by simp [hx]))
    simp only [flat, List.flatMap_cons, List.length_append, List.length_cons] at *
    rw [this, he y (by simp), Nat.succ_mul]; omega

theorem iaddr_sim (hsr : SR P g base κ w st) {t e : TypeId} {esz : Nat} {v u : Value} {p q r : PV} (hs : sliceElem P t = some e) (hz : sizeT P e = some esz) (hx : R g κ v p) (hi : R g κ u q) (h : iaddrPV esz p q = some r) :
    ∃ z, (Instr.indexAt t v u).run P w = .ok z w ∧ R g κ z r := by
  have hu := sliceElem_eq hs
  unfold iaddrPV at h
  split at h
  · cases h
  · rename_i i hii
    obtain ⟨k, rfl⟩ := intOf_sim hi hii
    have run : ∀ (a : Addr) (n c : Nat), 0 ≤ i → i < n → (Instr.indexAt t (.slice (some a) n c) (.int k i)).run P w = .ok (.pointer (some (a.add (i.toNat * esz)))) w := fun a n c h1 h2 => by
      simp [Instr.indexAt, asIntOf, run_underlying hu, run_sizeOf hz, h1, h2]
    split at h
    · rename_i t' l
      split at h
      · rename_i hb
        obtain ⟨he, h1, h2⟩ := hb
        cases hx with | bys blk off n c _ _ hn hc hb ht =>
        cases h; subst hn he
        refine ⟨_, run _ _ _ h1 h2, ?_⟩
        rw [add_eq, Nat.mul_one]
        have hlt : i.toNat < l.length := by omega
        have hg : l[i.toNat]? = some (l.getD i.toNat 0) := by rw [List.getD_eq_getElem?_getD]; simp [hlt]
        refine .cp blk _ [.int .u8 (l.getD i.toNat 0).toNat] _ rfl (fun j v hj => ?_) (fun j v p a b => ?_) rfl rfl
        · cases j with
          | zero => simp only [List.getElem?_cons_zero, Option.some.injEq] at hj; subst hj; exact hb _ _ hg
          | succ j => simp at hj
        · cases j with
          | zero => simp only [List.getElem?_cons_zero, Option.some.injEq] at a b; subst a b; exact .b8 _ _ rfl
          | succ j => simp at a
      · cases h
    · rename_i esz' t' xs
      split at h
      · rename_i hb
        obtain ⟨he, h1, h2⟩ := hb
        cases hx with
        | sl0 a esz t ht0 => simp at h2; omega
        | sl blk off n c _ _ _ vs hn hc hee hl hv hr hd hlf ht =>
        cases h; subst hn he
        refine ⟨_, run _ _ _ h1 h2, ?_⟩
        rw [add_eq]
        have hlt : i.toNat < xs.length := by omega
        have hg : xs[i.toNat]? = some (xs.getD i.toNat .undef) := by rw [List.getD_eq_getElem?_getD]; simp [hlt]
        have hmem := List.mem_of_getElem? hg
        have hlen := hee _ hmem
        have hfl := flat_length hee
        have hbd : i.toNat * esz' + esz' ≤ vs.length := by
          rw [hl, hfl, ← Nat.succ_mul]
          exact Nat.mul_le_mul_right _ hlt
        have hdx : dataAll (xs.getD i.toNat .undef).cells = true := data_cells (dataAll_get hd hg)
        refine .cp blk _ ((vs.drop (i.toNat * esz')).take esz') _ (by rw [List.length_take, List.length_drop, hlen]; omega) (fun j v hj => ?_) (fun j v p a b => ?_) hdx ?_
        · rw [List.getElem?_take] at hj
          split at hj
          · rw [List.getElem?_drop] at hj
            rw [Nat.add_assoc]; exact hv _ _ hj
          · cases hj
        · rw [List.getElem?_take] at a
          split at a
          · rw [List.getElem?_drop] at a
            exact hr _ _ _ a (flat_get hee hg b)
          · cases a
        · rw [List.all_eq_true] at *
          exact fun x hx => hlf x (List.mem_flatMap.2 ⟨_, hmem, hx⟩)
      · cases h
    · rename_i b off n
      split at h
      · rename_i hb
        cases hx with | ms _ _ off' _ c blk h1 h2 h3 hμ =>
        cases h
        refine ⟨_, run _ _ _ hb.1 hb.2, ?_⟩
        rw [add_eq]
        obtain rfl : off' = off := by rcases h3 with h3 | h3 <;> omega
        exact .ptr _ _ _ h1 hμ
      · cases h
    · cases h

theorem iaddrA_sim {t e : TypeId} {len esz : Nat} {v u : Value} {p q r : PV} (hs : arrT P t = some (len, e)) (hz : sizeT P e = some esz) (hx : R g κ v p) (hi : R g κ u q) (h : iaddrAPV len esz p q = some r) :
    ∃ z, (Instr.indexAt t v u).run P w = .ok z w ∧ R g κ z r := by
  have hu := arrT_eq hs
  unfold iaddrAPV at h
  split at h
  · cases h
  · rename_i i hii
    obtain ⟨k, rfl⟩ := intOf_sim hi hii
    split at h
    · rename_i hb
      have run : ∀ (a : Addr), (Instr.indexAt t (.pointer (some a)) (.int k i)).run P w = .ok (.pointer (some (a.add (i.toNat * esz)))) w := fun a => by
        simp [Instr.indexAt, asIntOf, run_underlying hu, run_sizeOf hz, hb.1, hb.2, Instr.sureAddr]
      unfold faddrPV at h
      split at h
      · rename_i b o
        cases hx with | ptr _ _ blk hφ hμ =>
        cases h
        refine ⟨_, run _, ?_⟩
        rw [add_eq]; exact .ptr _ _ _ hφ hμ
      · rename_i cells
        cases hx with | cp blk o vs _ hl hc hr hd hlf =>
        cases h
        refine ⟨_, run _, ?_⟩
        rw [add_eq]
        refine .cp _ _ (vs.drop (i.toNat * esz)) _ (by simp [hl]) (fun j v hi => ?_) (fun j v p a b => ?_) ?_ (drop_all hlf _)
        · rw [List.getElem?_drop] at hi
          rw [Nat.add_assoc]; exact hc _ _ hi
        · rw [List.getElem?_drop] at a b; exact hr _ _ _ a b
        · have : dataAll (cells.take (i.toNat * esz) ++ cells.drop (i.toNat * esz)) = true := by rw [List.take_append_drop]; exact hd
          rw [dataAll_append, Bool.and_eq_true] at this; exact this.2
      · cases h
    · cases h

theorem idx_sim {t e : TypeId} {len esz : Nat} {ag : Bool} {v u : Value} {p q r : PV} (hs : arrT P t = some (len, e)) (hag : isAggT P e = some ag) (hz : sizeT P e = some esz) (hx : R g κ v p) (hi : R g κ u q) (h : idxPV len ag esz p q = some r) :
    ∃ z, (Instr.index t v u).run P w = .ok z w ∧ R g κ z r := by
  have hu := arrT_eq hs
  unfold idxPV at h
  split at h
  · cases h
  · rename_i i hii
    obtain ⟨k, rfl⟩ := intOf_sim hi hii
    split at h
    · rename_i cells
      split at h
      · rename_i hb
        cases hx with | agg vs _ hl hlf hr =>
        obtain ⟨z, h1, h2⟩ := readCells_part (P := P) (w := w) hag (fun _ => hz) hl hlf hr h
        exact ⟨z, by simp [Instr.index, asIntOf, run_underlying hu, run_sizeOf hz, hb.1, hb.2, h1], h2⟩
      · cases h
    · cases h

theorem idxS_sim {t : TypeId} {v u : Value} {p q r : PV} (hs : isStrT P t = true) (hx : R g κ v p) (hi : R g κ u q) (h : idxSPV p q = some r) :
    ∃ z, (Instr.index t v u).run P w = .ok z w ∧ R g κ z r := by
  have hu := isStrT_eq hs
  unfold idxSPV at h
  split at h
  · cases h
  · rename_i i hii
    obtain ⟨k, rfl⟩ := intOf_sim hi hii
    split at h
    · rename_i l
      split at h
      · rename_i hb
        cases hx with | str s _ hl =>
        cases h; subst hl
        have hlt : i.toNat < s.data.toList.length := by omega
        have hg : s[i.toNat]? = some (s.data.toList.getD i.toNat 0) := by
          rw [List.getD_eq_getElem?_getD]
          simp at hlt
          have h1 : s[i.toNat]? = some (s[i.toNat]'hlt) := by simp [hlt]
          rw [h1]; simp [hlt]; rfl
        refine ⟨.int .u8 (s.data.toList.getD i.toNat 0).toNat, ?_, .b8 _ _ rfl⟩
        simp [Instr.index, asIntOf, run_underlying hu, hb.1, hg]
      · cases h
    · cases h

theorem mkfn_sim {f f' : Nat} {first : Array Value} {caps : Array Value} {ps : List PV} (h : g f = some f') (h0 : first = #[]) (hk : ps.all capOk = true) (hl : caps.size = ps.length)
    (hr : ∀ (i : Nat) (v : Value) (p : PV), caps[i]? = some v → ps[i]? = some p → R g κ v p) : ∃ z, (Instr.makeFunc (.func f) first caps).run P w = .ok z w ∧ R g κ z (.fn f' ps) := by
  subst h0
  exact ⟨_, rfl, .fn _ _ _ _ h hl hk hr⟩

def OptR (g : GMap) (κ : K) : Option Value → Option PV → Prop
  | none, none => True
  | some v, some p => R g κ v p
  | _, _ => False

theorem bnd_some {y d m : Nat} {p : PV} (h : bnd y d (some p) = some m) : ∃ i, intOf p = some i ∧ 0 ≤ i ∧ i ≤ y ∧ m = i.toNat := by
  unfold bnd at h
  simp only at h
  cases hi : intOf p with
  | none => simp [hi] at h
  | some i =>
    simp only [hi] at h
    split at h
    · rename_i hb; cases h; exact ⟨i, rfl, hb.1, hb.2, rfl⟩
    · cases h

theorem run_sliceBound {v : Value} {p : PV} {i : Int} {y : Nat} (code : BoundsCode) (hx : R g κ v p) (hi : intOf p = some i) (h0 : 0 ≤ i) (h1 : i ≤ y) : (Instr.sliceBound v y code).run P w = .ok i.toNat w := by
  obtain ⟨k, rfl⟩ := intOf_sim hx hi
  simp [Instr.sliceBound, asIntOf, h0, h1]

theorem run_sliceBounds {isS : Bool} {n c m h l : Nat} {lo hi mx : Option Value} {plo phi pmx : Option PV} (hc : n ≤ c) (rlo : OptR g κ lo plo) (rhi : OptR g κ hi phi) (rmx : OptR g κ mx pmx) (hmh : pmx.isSome = true → phi.isSome = true)
    (hm : bnd n n pmx = some m) (hh : bnd m n phi = some h) (hl : bnd h 0 plo = some l) :
    (Instr.sliceBounds isS n c lo hi mx).run P w = .ok (l, h, if pmx.isSome then m else c) w ∧ l ≤ h ∧ h ≤ m ∧ m ≤ n ∧ (pmx = none → m = n) ∧ (phi = none → h = n) := by
  have hlow : ((lo = none ∧ l = 0) ∨ ∃ v, lo = some v ∧ ∀ code, (Instr.sliceBound v h code).run P w = .ok l w) ∧ l ≤ h := by
    cases plo with
    | none => cases lo with
      | none => simp [bnd] at hl; subst hl; simp
      | some => exact rlo.elim
    | some q => cases lo with
      | none => exact rlo.elim
      | some v =>
        obtain ⟨i, h1, h2, h3, rfl⟩ := bnd_some hl
        exact ⟨.inr ⟨v, rfl, fun code => run_sliceBound code rlo h1 h2 h3⟩, by omega⟩
  obtain ⟨hlow, hlh⟩ := hlow
  cases pmx with
  | none =>
    cases mx with
    | some => exact rmx.elim
    | none =>
      simp [bnd] at hm; subst hm
      cases phi with
      | none => cases hi with
        | some => exact rhi.elim
        | none =>
          simp [bnd] at hh; subst hh
          refine ⟨?_, hlh, Nat.le_refl _, Nat.le_refl _, fun _ => rfl, fun _ => rfl⟩
          rcases hlow with ⟨rfl, rfl⟩ | ⟨u, rfl, hu⟩ <;> simp [Instr.sliceBounds, *]
      | some q => cases hi with
        | none => exact rhi.elim
        | some v =>
          obtain ⟨i, h1, h2, h3, rfl⟩ := bnd_some hh
          refine ⟨?_, hlh, by omega, Nat.le_refl _, fun _ => rfl, fun h => by cases h⟩
          have hv := fun code => run_sliceBound (P := P) (w := w) (y := c) code rhi h1 h2 (by omega)
          rcases hlow with ⟨rfl, rfl⟩ | ⟨u, rfl, hu⟩ <;> simp [Instr.sliceBounds, *]
  | some q =>
    cases mx with
    | none => exact rmx.elim
    | some u =>
      obtain ⟨j, a1, a2, a3, rfl⟩ := bnd_some hm
      cases phi with
      | none => simp at hmh
      | some q' => cases hi with
        | none => exact rhi.elim
        | some v =>
          obtain ⟨i, h1, h2, h3, rfl⟩ := bnd_some hh
          refine ⟨?_, hlh, by omega, by omega, fun h => (by cases h), fun h => (by cases h)⟩
          have hu' := fun code => run_sliceBound (P := P) (w := w) (y := c) code rmx a1 a2 (by omega)
          have hv := fun code => run_sliceBound (P := P) (w := w) (y := j.toNat) code rhi h1 h2 (by omega)
          rcases hlow with ⟨rfl, rfl⟩ | ⟨u, rfl, hu⟩ <;> simp [Instr.sliceBounds, *]

theorem sufTok_ok {κ : K} {t : Tok} {blk off n c esz l h m : Nat} {hi mx : Option PV} (ht : TokOK κ t blk off n c esz) (hl : l ≤ h) (hh : h ≤ m) (hm : m ≤ n) (hc : n ≤ c) (h1 : mx = none → m = n) (h2 : hi = none → h = n) (hmh : mx.isSome = true → hi.isSome = true) :
    TokOK κ (sufTok t hi mx h m) blk (off + l * esz) (h - l) ((if mx.isSome then m else c) - l) esz := by
  cases hi with
  | none =>
    cases mx with
    | some => simp at hmh
    | none =>
      obtain rfl := h1 rfl
      obtain rfl := h2 rfl
      simp only [sufTok, Option.isSome_none, Bool.false_eq_true, if_false]
      cases t with
      | no => trivial
      | ex => simp only [TokOK] at *; omega
      | own i =>
        obtain ⟨e, ce, h3, h4⟩ := ht
        refine ⟨e, ce, h3, fun hlt => ?_⟩
        obtain ⟨rfl, rfl⟩ := h4 (by omega)
        constructor
        · rw [Nat.add_assoc, ← Nat.add_mul]; congr 2; omega
        · rw [Nat.add_assoc, ← Nat.add_mul]; congr 2; omega
  | some q =>
    cases mx with
    | none => trivial
    | some q' =>
      simp only [sufTok]
      split
      · subst h; simp [TokOK]
      · trivial

theorem flat_take_drop {xs : List PV} {h l : Nat} {esz : Nat} (he : ∀ x ∈ xs, x.cells.length = esz) : ∀ (i : Nat) (q : PV), (flat ((xs.take h).drop l))[i]? = some q → (flat xs)[l * esz + i]? = some q := by
  intro i q hq
  have h1 : flat xs = flat (xs.take h) ++ flat (xs.drop h) := by
    simp only [flat]; rw [← List.flatMap_append, List.take_append_drop]
  have h2 : flat (xs.take h) = flat ((xs.take h).take l) ++ flat ((xs.take h).drop l) := by
    simp only [flat]; rw [← List.flatMap_append, List.take_append_drop]
  have hlt : i < (flat ((xs.take h).drop l)).length := (List.getElem?_eq_some_iff.1 hq).1
  have hne : l ≤ (xs.take h).length := by
    by_cases hle : l ≤ (xs.take h).length
    · exact hle
    · rw [List.drop_of_length_le (by omega)] at hlt; simp [flat] at hlt
  have h3 : (flat ((xs.take h).take l)).length = l * esz := by
    rw [flat_length (esz := esz) (fun x hx => he x (List.mem_of_mem_take (List.mem_of_mem_take hx))), List.length_take, Nat.min_eq_left hne]
  rw [h1, List.getElem?_append_left (by rw [h2, List.length_append, h3]; omega), h2, List.getElem?_append_right (by omega), h3]
  rw [show l * esz + i - l * esz = i by omega]; exact hq

theorem slc_sim {t : TypeId} {esz : Nat} {v : Value} {p r : PV} {lo hi mx : Option Value} {plo phi pmx : Option PV}
    (ht : (if esz = 0 then isStrT P t else (match sliceElem P t with | some e => decide (sizeT P e = some esz) | none => false)) = true)
    (hx : R g κ v p) (rlo : OptR g κ lo plo) (rhi : OptR g κ hi phi) (rmx : OptR g κ mx pmx) (hmh : pmx.isSome = true → phi.isSome = true) (h : slcPV esz p plo phi pmx = some r) :
    ∃ z, (Instr.slice t v lo hi mx).run P w = .ok z w ∧ R g κ z r := by
  unfold slcPV at h
  simp only at h
  split at h
  · cases h
  · rename_i n hn
    split at h
    · cases h
    · rename_i m hm
      split at h
      · cases h
      · rename_i hh hhh
        split at h
        · cases h
        · rename_i l hl
          split at h
          · rename_i s
            split at h
            · cases h
            · rename_i hne
              simp only [not_or, Decidable.not_not] at hne
              obtain ⟨hmx, rfl⟩ := hne
              simp at hn; subst hn
              have hu := isStrT_eq (show isStrT P t = true from by simpa using ht)
              cases pmx with
              | some => simp at hmx
              | none =>
                cases mx with
                | some => exact rmx.elim
                | none =>
                  cases hx with | str s' _ hs =>
                  subst hs
                  cases h
                  obtain ⟨hb, h1, h2, h3, h4, h5⟩ := run_sliceBounds (P := P) (w := w) (isS := false) (c := s'.size) (Nat.le_refl _) rlo rhi (show OptR g κ none none from trivial) (by simp) hm hhh hl
                  obtain rfl := h4 rfl
                  refine ⟨.string (s'.extract l hh), ?_, .str _ _ ?_⟩
                  · have hb' : (Instr.sliceBounds false s'.size s'.size lo hi none).run P w = .ok (l, hh, if (none : Option PV).isSome then s'.data.toList.length else s'.size) w := hb
                    simp [Instr.slice, run_underlying hu, hb']
                  · simp [ByteArray.data_extract, Array.toList_extract, List.drop_take]
          · split at h
            · cases h
            · rename_i hez
              cases h
              cases hx
              simp at hn; subst hn
              rw [if_neg hez] at ht
              split at ht
              · rename_i e he
                have hu := sliceElem_eq he
                obtain ⟨hb, h1, h2, h3, h4, h5⟩ := run_sliceBounds (P := P) (w := w) (isS := true) (c := 0) (Nat.le_refl _) rlo rhi rmx hmh hm hhh hl
                have hm0 : m = 0 := by omega
                have hh0 : hh = 0 := by omega
                have hl0 : l = 0 := by omega
                subst hm0 hh0 hl0
                refine ⟨.slice none 0 0, ?_, .nils⟩
                simp only [ite_self] at hb
                simp [Instr.slice, run_underlying hu, hb, run_sizeOf (by simpa using ht)]
              · cases ht
          · rename_i t' s
            split at h
            · rename_i hez
              subst hez
              cases h
              simp at hn; subst hn
              cases hx with | bys blk off n c _ _ hn hc hb ht' hz =>
              subst hn
              rw [if_neg (by decide)] at ht
              split at ht
              · rename_i e he
                have hu := sliceElem_eq he
                obtain ⟨hbd, h1, h2, h3, h4, h5⟩ := run_sliceBounds (P := P) (w := w) (isS := true) hc rlo rhi rmx hmh hm hhh hl
                have hlen : hh - l = ((s.take hh).drop l).length := by simp; omega
                have hmc : hh ≤ (if pmx.isSome then m else c) := by split <;> omega
                have htok := sufTok_ok ht' h1 h2 h3 hc h4 h5 hmh
                generalize (if pmx.isSome = true then m else c) = cc at hbd hmc htok
                refine ⟨.slice (if cc = l then some ⟨blk, off, none⟩ else some (Addr.add ⟨blk, off, none⟩ (l * 1))) (hh - l) (cc - l), ?_, ?_⟩
                · simp [Instr.slice, run_underlying hu, hbd, run_sizeOf (by simpa using ht)]
                · rw [add_eq]
                  have hzn : ∀ i, cutTok l (sufTok t' phi pmx hh m) = .own i → off = 0 ∧ κ.S blk = some g.tU := fun i hi => by
                    have h6 : sufTok t' phi pmx hh m = .own i := by
                      unfold cutTok at hi
                      split at hi
                      · exact hi
                      · split at hi
                        · cases hi
                        · rename_i hne; exact absurd hi (hne i)
                    have h7 : t' = .own i := by
                      unfold sufTok at h6
                      split at h6
                      · exact h6
                      · cases h6
                      · split at h6 <;> cases h6
                    exact hz i h7
                  split
                  · rename_i heq
                    have : (s.take hh).drop l = [] := by rw [← List.length_eq_zero_iff, ← hlen]; omega
                    refine .bys blk off _ _ _ _ hlen (by omega) (fun i b hi => by rw [this] at hi; simp at hi) ?_ hzn
                    revert htok
                    cases hst : sufTok t' phi pmx hh m with
                    | no => exact fun _ => by unfold cutTok; split <;> trivial
                    | ex => intro h3; unfold cutTok; split <;> exact h3
                    | own i =>
                      rintro ⟨e, ce, h3, h4⟩
                      unfold cutTok
                      split
                      · exact ⟨e, ce, h3, fun hlt => by omega⟩
                      · trivial
                  · refine .bys blk (off + l * 1) _ _ _ _ hlen (by omega) (fun i b hi => ?_) ?_ (fun i hi => ?_)
                    rotate_left
                    · revert htok
                      cases hst : sufTok t' phi pmx hh m with
                      | no => exact fun _ => by unfold cutTok; split <;> trivial
                      | ex => intro h3; unfold cutTok; split <;> exact h3
                      | own i =>
                        intro h3
                        unfold cutTok
                        split
                        · exact h3
                        · trivial
                    · obtain ⟨q1, q2⟩ := hzn i hi
                      refine ⟨?_, q2⟩
                      have : l = 0 := by
                        unfold cutTok at hi
                        split at hi
                        · assumption
                        · split at hi <;> simp_all
                      subst this; omega
                    rw [List.getElem?_drop, List.getElem?_take] at hi
                    split at hi
                    · rw [Nat.mul_one, Nat.add_assoc]; exact hb _ _ hi
                    · cases hi
              · cases ht
            · cases h
          · rename_i e' t' xs
            split at h
            · rename_i hez
              obtain ⟨rfl, hez⟩ := hez
              cases h
              simp at hn; subst hn
              cases hx with
              | sl0 a esz t ht0 =>
                split at ht
                · exact absurd (by assumption) hez
                · split at ht
                  · rename_i e he
                    have hu := sliceElem_eq he
                    obtain ⟨hbd, h1, h2, h3, h4, h5⟩ := run_sliceBounds (P := P) (w := w) (isS := true) (Nat.le_refl 0) rlo rhi rmx hmh hm hhh hl
                    have q1 : hh = 0 := by simp at h3; omega
                    have q2 : l = 0 := by omega
                    have q3 : m = 0 := by simp at h3; omega
                    subst q1 q2 q3
                    refine ⟨.slice (some a) 0 0, ?_, ?_⟩
                    · have hbd' : (Instr.sliceBounds true 0 0 lo hi mx).run P w = .ok (0, 0, 0) w := by rw [hbd]; simp
                      simp [Instr.slice, run_underlying hu, hbd', run_sizeOf (by simpa using ht)]
                    · simp only [List.take_nil, List.drop_nil]
                      refine .sl0 a _ _ (fun i hi2 => ?_)
                      cases phi with
                      | none => simp [sufTok] at hi2; exact ht0 i hi2
                      | some _ =>
                        cases pmx with
                        | none => simp [sufTok] at hi2
                        | some _ => simp [sufTok] at hi2
                  · cases ht
              | sl blk off n c _ _ _ vs hn hc hee hvl hv hr hd hlf ht' =>
              subst hn
              split at ht
              · exact absurd (by assumption) hez
              · split at ht
                · rename_i e he
                  have hu := sliceElem_eq he
                  obtain ⟨hbd, h1, h2, h3, h4, h5⟩ := run_sliceBounds (P := P) (w := w) (isS := true) hc rlo rhi rmx hmh hm hhh hl
                  have hlen : hh - l = ((xs.take hh).drop l).length := by simp; omega
                  have hmc : hh ≤ (if pmx.isSome then m else c) := by split <;> omega
                  have htok := sufTok_ok ht' h1 h2 h3 hc h4 h5 hmh
                  generalize (if pmx.isSome = true then m else c) = cc at hbd hmc htok
                  have hee' : ∀ x ∈ (xs.take hh).drop l, x.cells.length = e' := fun x hx => hee x (List.mem_of_mem_take (List.mem_of_mem_drop hx))
                  have hdd : dataAll ((xs.take hh).drop l) = true := by
                    have h6 : dataAll (xs.take hh ++ xs.drop hh) = true := by rw [List.take_append_drop]; exact hd
                    rw [dataAll_append, Bool.and_eq_true] at h6
                    have h7 : dataAll ((xs.take hh).take l ++ (xs.take hh).drop l) = true := by rw [List.take_append_drop]; exact h6.1
                    rw [dataAll_append, Bool.and_eq_true] at h7; exact h7.2
                  have hfl : (flat ((xs.take hh).drop l)).length = (hh - l) * e' := by rw [flat_length hee', ← hlen]
                  have hfl2 := flat_length hee
                  have hbig : l * e' + (hh - l) * e' ≤ vs.length := by
                    rw [hvl, hfl2, ← Nat.add_mul]; exact Nat.mul_le_mul_right _ (by omega)
                  have hlff : (flat ((xs.take hh).drop l)).all leafOk = true := by
                    rw [List.all_eq_true] at *
                    intro x hx
                    obtain ⟨y, hy, hxy⟩ := List.mem_flatMap.1 hx
                    exact hlf x (List.mem_flatMap.2 ⟨y, List.mem_of_mem_take (List.mem_of_mem_drop hy), hxy⟩)
                  refine ⟨.slice (if cc = l then some ⟨blk, off, none⟩ else some (Addr.add ⟨blk, off, none⟩ (l * e'))) (hh - l) (cc - l), ?_, ?_⟩
                  · simp [Instr.slice, run_underlying hu, hbd, run_sizeOf (by simpa using ht)]
                  · rw [add_eq]
                    split
                    · rename_i heq
                      have : (xs.take hh).drop l = [] := by rw [← List.length_eq_zero_iff, ← hlen]; omega
                      refine .sl blk off _ _ _ _ _ [] hlen (by omega) hee' (by rw [this]; rfl) (fun i v hi => by simp at hi) (fun i v p hi => by simp at hi) hdd hlff ?_
                      revert htok
                      cases sufTok t' phi pmx hh m with
                      | no => exact fun _ => trivial
                      | ex => exact id
                      | own i => exact fun ⟨e, ce, h3, h4⟩ => ⟨e, ce, h3, fun hlt => by omega⟩
                    · refine .sl blk (off + l * e') _ _ _ _ _ ((vs.drop (l * e')).take ((hh - l) * e')) hlen (by omega) hee' (by rw [List.length_take, List.length_drop, hfl]; omega) (fun i v hi => ?_) (fun i v p a b => ?_) hdd hlff htok
                      · rw [List.getElem?_take] at hi
                        split at hi
                        · rw [List.getElem?_drop] at hi
                          rw [Nat.add_assoc]; exact hv _ _ hi
                        · cases hi
                      · rw [List.getElem?_take] at a
                        split at a
                        · rw [List.getElem?_drop] at a
                          exact hr _ _ _ a (flat_take_drop hee _ _ b)
                        · cases a
                · cases ht
            · cases h
          · rename_i b off n'
            split at h
            · cases h
            · rename_i hez
              cases h
              simp at hn; subst hn
              cases hx with | ms _ _ off' _ c blk hφ hc ho hμ =>
              rw [if_neg hez] at ht
              split at ht
              · rename_i e he
                have hu := sliceElem_eq he
                obtain ⟨hbd, h1, h2, h3, h4, h5⟩ := run_sliceBounds (P := P) (w := w) (isS := true) hc rlo rhi rmx hmh hm hhh hl
                have hmc : hh ≤ (if pmx.isSome then m else c) := by split <;> omega
                generalize (if pmx.isSome = true then m else c) = cc at hbd hmc
                refine ⟨.slice (if cc = l then some ⟨blk, off', none⟩ else some (Addr.add ⟨blk, off', none⟩ (l * esz))) (hh - l) (cc - l), ?_, ?_⟩
                · simp [Instr.slice, run_underlying hu, hbd, run_sizeOf (by simpa using ht)]
                · rw [add_eq]
                  split
                  · exact .ms _ _ _ _ _ _ hφ (by omega) (.inl (by omega)) hμ
                  · refine .ms _ _ _ _ _ _ hφ (by omega) ?_ hμ
                    rcases ho with ho | rfl
                    · left; omega
                    · right; rfl
              · cases ht
          · cases h

theorem slcA_sim {t e : TypeId} {len esz : Nat} {v : Value} {p r : PV} {lo hi mx : Option Value} {plo phi pmx : Option PV}
    (hs : arrT P t = some (len, e)) (hz : sizeT P e = some esz)
    (hx : R g κ v p) (rlo : OptR g κ lo plo) (rhi : OptR g κ hi phi) (rmx : OptR g κ mx pmx) (hmh : pmx.isSome = true → phi.isSome = true) (h : slcAPV len esz p plo phi pmx = some r) :
    ∃ z, (Instr.sliceAt t v lo hi mx).run P w = .ok z w ∧ R g κ z r := by
  have hu := arrT_eq hs
  unfold slcAPV at h
  split at h
  · rename_i b off
    split at h
    · cases h
    · rename_i m hm
      split at h
      · cases h
      · rename_i hh hhh
        split at h
        · cases h
        · rename_i l hl
          split at h
          · cases h
          · cases h
            cases hx with | ptr _ _ blk hφ hμ =>
            obtain ⟨hb, h1, h2, h3, h4, h5⟩ := run_sliceBounds (P := P) (w := w) (isS := false) (c := len) (Nat.le_refl _) rlo rhi rmx hmh hm hhh hl
            have hmc : hh ≤ (if pmx.isSome then m else len) := by split <;> omega
            generalize (if pmx.isSome = true then m else len) = cc at hb hmc
            refine ⟨.slice (some (if cc = l then ⟨blk, off, none⟩ else Addr.add ⟨blk, off, none⟩ (l * esz))) (hh - l) (cc - l), ?_, ?_⟩
            · simp [Instr.sliceAt, Instr.sureAddr, run_underlying hu, hb, run_sizeOf hz]
            · rw [add_eq]
              by_cases hcl : cc = l
              · rw [if_pos hcl]
                exact .ms _ _ _ _ _ _ hφ (by omega) (.inl (by omega)) hμ
              · rw [if_neg hcl]
                exact .ms _ _ _ _ _ _ hφ (by omega) (.inr rfl) hμ
  · cases h

theorem slcT_sim {t e : TypeId} {v u : Value} {p q r : PV} (hs : sliceElem P t = some e) (hz : sizeT P e = some 1) (hx : R g κ v p) (hi : R g κ u q) (h : slcTPV p q = some r) :
    ∃ z, (Instr.sliceAt t v none (some u) none).run P w = .ok z w ∧ R g κ z r := by
  have hu := sliceElem_eq hs
  unfold slcTPV at h
  split at h
  · cases h
  · rename_i i hii
    obtain ⟨k, rfl⟩ := intOf_sim hi hii
    split at h
    · split at h
      · rename_i h0
        cases h
        cases hx
        subst h0
        refine ⟨.slice none 0 0, ?_, .nils⟩
        simp [Instr.sliceAt, Instr.slice, run_underlying hu, run_sizeOf hz, Instr.sliceBounds, Instr.sliceBound, asIntOf]
      · cases h
    · rename_i tk l
      split at h
      · rename_i hb
        cases hx with | bys blk off n c _ _ hn hc hbb ht hzz =>
        have run : (Instr.sliceAt t (.slice (some ⟨blk, off, none⟩) n c) none (some (.int k i)) none).run P w = .ok (.slice (some ⟨blk, off, none⟩) i.toNat c) w := by
          have h1 : i ≤ (c : Int) := by omega
          by_cases hc0 : c = 0
          · simp [Instr.sliceAt, Instr.slice, run_underlying hu, run_sizeOf hz, Instr.sliceBounds, Instr.sliceBound, asIntOf, hb.1, hc0]
            omega
          · simp [Instr.sliceAt, Instr.slice, run_underlying hu, run_sizeOf hz, Instr.sliceBounds, Instr.sliceBound, asIntOf, hb.1, h1, Addr.add]
        refine ⟨_, run, ?_⟩
        cases h
        split
        · rename_i he
          have hin : i.toNat = n := by omega
          rw [hin]
          exact .bys blk off n c tk l hn hc hbb ht hzz
        · refine .bys blk off _ c .no _ (by rw [List.length_take]; omega) (by omega) (fun j b hj => ?_) trivial (fun i h => by cases h)
          rw [List.getElem?_take] at hj
          split at hj
          · exact hbb j b hj
          · cases hj
      · cases h
    · cases h

end Go.Ab
/-
  Operations that make or write memory.
-/
namespace Go.Ab

variable {P : Program} {g : GMap} {base : Nat} {κ : K} {w : World} {st : St}

def Good (P : Program) (g : GMap) (base : Nat) (κ : K) (w : World) (z : Value) (w' : World) (v : PV) (st' : St) : Prop :=
  ∃ κ', K.le κ κ' ∧ κ'.lam = κ.lam ∧ SR P g base κ' w' st' ∧ R g κ' z v ∧ Fr base κ.lam w w'

theorem Good.same (h : SR P g base κ w st) {z : Value} {v : PV} (hr : R g κ z v) : Good P g base κ w z w v st := ⟨κ, K.le.refl κ, rfl, h, hr, Fr.refl _ _⟩

theorem run_newRow (t : TypeId) (cells : Array Value) : (newRow t cells).run P w = .ok ⟨w.heap.size, 0, none⟩ { w with heap := w.heap.push (.cells cells t (0, 0)) } := by
  simp [newRow, newObj, Sem.run]

def CR (g : GMap) (κ : K) (vs : Array Value) (ps : List PV) : Prop := vs.size = ps.length ∧ ∀ (i : Nat) (v : Value) (p : PV), vs[i]? = some v → ps[i]? = some p → R g κ v p

theorem good_box (h : SR P g base κ w st) {el : TypeId} {rs : Array Value} {cs : List PV} (hcr : CR g κ rs cs) (hlf : cs.all leafB = true) (hlw : ∀ c ∈ cs, c.inB st.boxes.length = true) (hsb : PV.bslot ∈ cs → el = g.tB ∧ rs.size = 2) :
    Good P g base κ w (.pointer (some ⟨w.heap.size, 0, none⟩)) { w with heap := w.heap.push (.cells rs el (0, 0)) } (.ptr st.boxes.length 0) { st with boxes := st.boxes ++ [cs] } := by
  obtain ⟨h1, h2⟩ := h.addBox (w' := { w with heap := w.heap.push (.cells rs el (0, 0)) }) rs el (0, 0) cs rfl (.inl rfl) (by rw [hcr.1]; exact Nat.le_refl _) (fun i c hi => by
    have : i < rs.size := by rw [hcr.1]; exact (List.getElem?_eq_some_iff.1 hi).1
    exact ⟨rs[i], by simp [this], hcr.2 i _ _ (by simp [this]) hi⟩) hlf hlw hsb
  refine ⟨_, h1, rfl, h2, .ptr _ _ _ ?_ (h.mz _ (by rw [h.bl]; exact Nat.le_refl _)), Fr.push h.hb rfl rfl rfl rfl⟩
  show (κ.φ ++ [w.heap.size])[st.boxes.length]? = _
  rw [← h.bl]; simp

theorem alloc_sim (h : SR P g base κ w st) {t : TypeId} {v : Value} {z : List PV} (hz : zeroT P t = some v) (hc : chkAlloc g t v z = true) :
    ∃ u w', (Instr.alloc t true (.tuple #[])).run P w = .ok u w' ∧ Good P g base κ w u w' (allocPV st z).1 (allocPV st z).2 := by
  have hrun : (Instr.alloc t true (.tuple #[])).run P w = .ok (.pointer (some ⟨w.heap.size, 0, none⟩)) { w with heap := w.heap.push (.cells v.cells t (0, 0)) } := by
    simp [Instr.alloc, run_zeroValue hz, newVar, run_newRow]
  simp only [chkAlloc, Bool.or_eq_true] at hc
  rcases hc with hc | hc
  · simp only [Bool.and_eq_true, decide_eq_true_eq] at hc
    obtain ⟨⟨h1, h2⟩, h3⟩ := hc
    have hz2 : z = [.bslot, .nils] := by
      revert h1
      match z with
      | [.bslot, .nils] => exact fun _ => rfl
      | [] | [_] | _ :: _ :: _ :: _ => simp [isBslot]
      | [a, b] => cases a <;> cases b <;> simp [isBslot]
    have hv : v.cells.toList = [.pointer none, .slice none 0 0] := by
      revert h3
      generalize v.cells.toList = l
      match l with
      | [.pointer none, .slice none 0 0] => exact fun _ => rfl
      | [] | [_] | _ :: _ :: _ :: _ => simp [isBzero]
      | [a, b] => 
        intro h
        unfold isBzero at h
        split at h
        · rename_i he; exact he
        · cases h
    subst hz2
    refine ⟨_, _, hrun, good_box h (el := t) (rs := v.cells) ⟨by have := congrArg List.length hv; simpa using this, fun i u p a b => ?_⟩ rfl (fun c hc => by simp at hc; rcases hc with rfl | rfl <;> rfl) (fun _ => ⟨h2, by have := congrArg List.length hv; simpa using this⟩)⟩
    rw [← Array.getElem?_toList, hv] at a
    match i with
    | 0 => simp at a b; subst a b; exact .bslot
    | 1 => simp at a b; subst a b; exact .nils
    | i + 2 => simp at a
  · obtain ⟨h1, h2, h3, h4, _⟩ := chkLeaves_R (g := g) (κ := κ) _ _ hc
    exact ⟨_, _, hrun, good_box h (el := t) (rs := v.cells) ⟨by simpa using h1, fun i v p a b => h2 i v p (by simpa using a) b⟩ (leafB_all h3) (fun c hc => h4 _ c hc) (fun hm => by
      have := (List.all_eq_true.1 h3) _ hm
      simp [leafOk] at this)⟩

theorem inB_cells {n : Nat} {p : PV} (h : p.inB n = true) : ∀ c ∈ p.cells, c.inB n = true := by
  cases p <;> simp only [PV.cells, List.mem_singleton] <;> (try (rintro c rfl; exact h))
  rename_i cs
  simp only [PV.inB] at h
  intro c hc
  induction cs with
  | nil => simp at hc
  | cons x xs ih =>
    simp only [PV.inB.inBAll, Bool.and_eq_true] at h
    simp at hc
    rcases hc with rfl | hc
    · exact h.1
    · exact ih h.2 hc

theorem box_sim (h : SR P g base κ w st) {t : TypeId} {v : Value} {p : PV} (hx : R g κ v p) (hb : p.inB st.boxes.length = true) (hlf : p.cells.all leafOk = true) :
    ∃ u w', (Instr.box t v).run P w = .ok u w' ∧ Good P g base κ w u w' (allocPV st p.cells).1 (allocPV st p.cells).2 := by
  refine ⟨_, _, ?_, good_box h (el := t) (rs := v.cells) hx.cells (leafB_all hlf) (inB_cells hb) (fun hm => by
    have := (List.all_eq_true.1 hlf) _ hm
    simp [leafOk] at this)⟩
  simp [Instr.box, newVar, run_newRow]

theorem setCells_allB (vs : List PV) : ∀ (cs : List PV) (off : Nat), cs.all leafB = true → vs.all leafB = true → (setCells cs off vs).all leafB = true := by
  induction vs with
  | nil => intro cs off h _; exact h
  | cons v vs ih =>
    intro cs off h1 h2
    simp only [List.all_cons, Bool.and_eq_true] at h2
    refine ih _ _ ?_ h2.2
    rw [List.all_eq_true] at *
    intro x hx
    rcases List.mem_or_eq_of_mem_set hx with hx | rfl
    · exact h1 x hx
    · exact h2.1

theorem setCells_length (vs : List PV) : ∀ (cs : List PV) (off : Nat), (setCells cs off vs).length = cs.length := by
  induction vs with
  | nil => intro cs off; rfl
  | cons v vs ih => intro cs off; simp [setCells, ih]

theorem setCells_get (vs : List PV) : ∀ (cs : List PV) (off j : Nat), off + vs.length ≤ cs.length →
    (setCells cs off vs)[j]? = if off ≤ j ∧ j < off + vs.length then vs[j - off]? else cs[j]? := by
  induction vs with
  | nil => intro cs off j h; simp [setCells]; intro h1 h2; omega
  | cons v vs ih =>
    intro cs off j h
    simp at h
    rw [setCells, ih _ _ _ (by simp; omega)]
    by_cases h1 : off + 1 ≤ j ∧ j < off + 1 + vs.length
    · rw [if_pos h1, if_pos ⟨by omega, by simp; omega⟩]
      obtain ⟨d, rfl⟩ : ∃ d, j = off + 1 + d := ⟨j - (off + 1), by omega⟩
      rw [show off + 1 + d - off = d + 1 by omega, show off + 1 + d - (off + 1) = d by omega]; simp
    · rw [if_neg h1]
      by_cases h2 : j = off
      · subst h2
        rw [if_pos ⟨Nat.le_refl _, by simp⟩]
        simp [show j < cs.length by omega]
      · rw [if_neg (by simp; omega), List.getElem?_set_ne (by omega)]

theorem setCells_all (vs : List PV) : ∀ (cs : List PV) (off : Nat), cs.all leafOk = true → vs.all leafOk = true → (setCells cs off vs).all leafOk = true := by
  induction vs with
  | nil => intro cs off h _; exact h
  | cons v vs ih =>
    intro cs off h1 h2
    simp only [List.all_cons, Bool.and_eq_true] at h2
    refine ih _ _ ?_ h2.2
    rw [List.all_eq_true] at *
    intro x hx
    rcases List.mem_or_eq_of_mem_set hx with hx | rfl
    · exact h1 x hx
    · exact h2.1

theorem CR.set {vs us : Array Value} {ps qs : List PV} (h : CR g κ vs ps) (k : CR g κ us qs) {off : Nat} (hl : off + qs.length ≤ ps.length) : CR g κ (setA vs off us.toList) (setCells ps off qs) := by
  refine ⟨by rw [setA_size, setCells_length]; exact h.1, fun i v p a b => ?_⟩
  rw [setA_get _ _ _ _ (by rw [h.1]; simpa [k.1] using hl)] at a
  rw [setCells_get _ _ _ _ hl] at b
  have : us.toList.length = qs.length := by simpa using k.1
  rw [this] at a
  split at a
  · rename_i hi
    rw [if_pos hi] at b
    exact k.2 _ _ _ (by simpa using a) b
  · rename_i hi
    rw [if_neg hi] at b
    exact h.2 _ _ _ a b

theorem zipIdx_fold (off : Nat) : ∀ (l : List Value) (k : Nat) (cs : Array Value), (l.zipIdx k).foldl (fun cs (q : Value × Nat) => cs.setIfInBounds (off + q.2) q.1) cs = setA cs (off + k) l := by
  intro l
  induction l with
  | nil => intro k cs; rfl
  | cons v l ih =>
    intro k cs
    simp only [List.zipIdx_cons, List.foldl_cons]
    rw [ih, setA, Nat.add_assoc]

theorem fill_step (cells : Array Value) (off : Nat) (us : Array Value) : us.zipIdx.foldl (fun cs (q : Value × Nat) => cs.setIfInBounds (off + q.2) q.1) cells = setA cells off us.toList := by
  rw [← Array.foldl_toList, Array.toList_zipIdx]
  exact zipIdx_fold off us.toList 0 cells

def PartsR (g : GMap) (κ : K) (place : Nat → Option (Nat × Nat)) : List (Nat × Value) → List (Nat × Nat × PV) → Prop
  | [], [] => True
  | (i, v) :: r, (off, sz, p) :: r' => place i = some (off, sz) ∧ R g κ v p ∧ PartsR g κ place r r'
  | _, _ => False

theorem fill_sim {place : Nat → Option (Nat × Nat)} : ∀ (parts : List (Nat × Value)) (ps : List (Nat × Nat × PV)) (vs : Array Value) (cs cs' : List PV), PartsR g κ place parts ps → CR g κ vs cs → cs.all leafOk = true →
    buildCells cs ps = some cs' → ∃ vs', Instr.fill place vs parts = some vs' ∧ CR g κ vs' cs' ∧ cs'.all leafOk = true := by
  intro parts
  induction parts with
  | nil =>
    intro ps vs cs cs' hp hc hlf h
    cases ps with
    | cons => exact hp.elim
    | nil => simp [buildCells] at h; subst h; exact ⟨vs, rfl, hc, hlf⟩
  | cons q r ih =>
    obtain ⟨i, v⟩ := q
    intro ps vs cs cs' hp hc hlf h
    cases ps with
    | nil => exact hp.elim
    | cons q' r' =>
      obtain ⟨off, sz, p⟩ := q'
      obtain ⟨h1, h2, h3⟩ := hp
      simp only [buildCells] at h
      split at h
      · rename_i hb
        obtain ⟨hb1, hb2, hb3⟩ := hb
        have hcl := h2.cells
        have hcr := CR.set hc (κ := κ) (g := g) (us := v.cells) (qs := p.cells) hcl (off := off) (by omega)
        obtain ⟨vs', a1, a2, a3⟩ := ih r' _ _ _ h3 hcr (setCells_all _ _ _ hlf hb3) h
        refine ⟨vs', ?_, a2, a3⟩
        simp only [Instr.fill, h1]
        rw [if_neg (by simp [hcl.1, hb1, hc.1]; omega)]
        rw [fill_step]
        exact a1
      · cases h

theorem run_mapM {α β : Type} (f : α → Sem β) (k : α → β) : ∀ (l : List α), (∀ x ∈ l, (f x).run P w = .ok (k x) w) → (l.mapM f).run P w = .ok (l.map k) w := by
  intro l
  induction l with
  | nil => intro _; rfl
  | cons x l ih =>
    intro h
    simp only [List.mapM_cons, Sem.run_bind, h x (by simp), Result.andThen_ok, ih (fun y hy => h y (by simp [hy])), List.map_cons, Sem.run_pure]

theorem build_struct {t : TypeId} {fs : Array Field} {zero : Value} {z cs' : List PV} {parts : Array (Nat × Value)} {ps : List (Nat × Nat × PV)} (hz : zeroT P t = some zero) (hu : P.underlying t = some (.struct fs))
    (hall : allFields P fs = true) (hzc : chkLeaves zero.cells.toList z = true) (hp : PartsR g κ (fun (i : Nat) => (fs[i]?).bind fun (f : Field) => (sizeT P f.type).map fun n => (f.offset, n)) parts.toList ps) (hb : buildCells z ps = some cs') :
    ∃ u, (Instr.build t parts).run P w = .ok u w ∧ R g κ u (.agg cs') := by
  obtain ⟨h1, h2, h3, h4, _⟩ := chkLeaves_R (g := g) (κ := κ) _ _ hzc
  obtain ⟨vs', a1, a2, a3⟩ := fill_sim parts.toList ps zero.cells z cs' hp ⟨by simpa using h1, fun i v p a b => h2 i v p (by simpa using a) b⟩ h3 hb
  have hpl : (fs.mapM fun (f : Field) => (do pure (f.offset, ← sizeOf f.type) : Sem (Nat × Nat))).run P w = .ok ((fs.toList.map fun (f : Field) => (f.offset, (sizeT P f.type).getD 0)).toArray) w := by
    rw [Array.mapM_eq_mapM_toList]
    simp only [Sem.run_map]
    rw [run_mapM _ (fun (f : Field) => (f.offset, (sizeT P f.type).getD 0)) _ (fun f hf => by
      simp only [allFields, List.all_eq_true] at hall
      obtain ⟨n, hn⟩ := Option.isSome_iff_exists.1 (hall f hf)
      simp [run_sizeOf hn, hn])]
    simp
  have hplace : (fun (i : Nat) => (((fs.toList.map fun (f : Field) => (f.offset, (sizeT P f.type).getD 0)).toArray)[i]? : Option (Nat × Nat))) = (fun (i : Nat) => (fs[i]?).bind fun (f : Field) => (sizeT P f.type).map fun n => (f.offset, n)) := by
    funext i
    simp only [List.getElem?_toArray, List.getElem?_map, Array.getElem?_toList]
    cases hf : fs[i]? with
    | none => rfl
    | some f =>
      simp only [allFields, List.all_eq_true] at hall
      obtain ⟨n, hn⟩ := Option.isSome_iff_exists.1 (hall f (by rw [← Array.getElem?_toList] at hf; exact List.mem_of_getElem? hf))
      simp [hn]
  refine ⟨.agg vs', ?_, .agg _ _ a2.1 (leafB_all a3) a2.2⟩
  simp only [Instr.build, Sem.run_bind, run_zeroValue hz, Result.andThen_ok, run_underlying hu, hpl]
  rw [hplace, a1]; rfl

theorem build_array {t e : TypeId} {len n : Nat} {zero : Value} {z cs' : List PV} {parts : Array (Nat × Value)} {ps : List (Nat × Nat × PV)} (hz : zeroT P t = some zero) (hu : P.underlying t = some (.array len e)) (hn : sizeT P e = some n)
    (hzc : chkLeaves zero.cells.toList z = true) (hp : PartsR g κ (fun i => some (i * n, n)) parts.toList ps) (hb : buildCells z ps = some cs') :
    ∃ u, (Instr.build t parts).run P w = .ok u w ∧ R g κ u (.agg cs') := by
  obtain ⟨h1, h2, h3, h4, _⟩ := chkLeaves_R (g := g) (κ := κ) _ _ hzc
  obtain ⟨vs', a1, a2, a3⟩ := fill_sim parts.toList ps zero.cells z cs' hp ⟨by simpa using h1, fun i v p a b => h2 i v p (by simpa using a) b⟩ h3 hb
  refine ⟨.agg vs', ?_, .agg _ _ a2.1 (leafB_all a3) a2.2⟩
  simp only [Instr.build, Sem.run_bind, run_zeroValue hz, Result.andThen_ok, run_underlying hu, run_sizeOf hn, a1]
  rfl

end Go.Ab
/-
  Rows of values that do not turn: literals, conversions, make; stores into boxes.
-/
namespace Go.Ab

variable {P : Program} {g : GMap} {base : Nat} {κ : K} {w : World} {st : St}

theorem good_row (h : SR P g base κ w st) {w' : World} {el : TypeId} {fz : Nat × Nat} {rs : Array Value} {xs : List PV} {esz n c : Nat} {toks : List Bool}
    (hw : w'.heap = w.heap.push (.cells rs el fz)) (ho : w'.os = w.os) (hta : w'.tape = w.tape) (hou : w'.output = w.output) (hfz : fz.1 = fz.2 ∨ rs.size ≤ fz.1)
    (hn : n = xs.length) (hc : n ≤ c) (hcs : c * esz ≤ rs.size) (he : ∀ x ∈ xs, x.cells.length = esz) (hd : dataAll xs = true) (hlf : (flat xs).all leafOk = true)
    (hr : ∀ (i : Nat) (v : Value) (p : PV), rs[i]? = some v → (flat xs)[i]? = some p → R g κ v p)
    (htl : toks.length = st.toks.length) (htt : ∀ (i : Nat), toks[i]? = some true → st.toks[i]? = some true) :
    Good P g base κ w (.slice (some ⟨w.heap.size, 0, none⟩) n c) w' (.sl esz (.own st.toks.length) xs) { st with toks := toks ++ [true] } := by
  have hfl := flat_length he
  have hm : n * esz ≤ rs.size := Nat.le_trans (Nat.mul_le_mul_right _ hc) hcs
  obtain ⟨h1, h2⟩ := h.addTok rs el fz (n * esz) (c * esz) hw hfz hm hcs toks htl htt
  refine ⟨_, h1, rfl, h2, ?_, Fr.push h.hb hw ho hta hou⟩
  refine .sl _ 0 n c esz _ xs (rs.toList.take (n * esz)) hn hc he (by rw [hfl, ← hn]; simp; omega) (fun i v hi => ?_) (fun i v p a b => ?_) hd hlf ?_
  · rw [List.getElem?_take] at hi
    split at hi
    · rename_i hlt
      simp [K.addC, hlt] at hi ⊢
      simp [hi]
    · cases hi
  · rw [List.getElem?_take] at a
    split at a
    · exact (hr i v p (by simpa using a) b).mono h1
    · cases a
  · refine ⟨n * esz, c * esz, ?_, fun _ => ⟨by omega, by omega⟩⟩
    show (κ.τ ++ [_])[st.toks.length]? = _
    rw [← h.tl]; simp

theorem good_bytes (h : SR P g base κ w st) {w' : World} {el : TypeId} {fz : Nat × Nat} {rs : Array Value} {l : List UInt8} {n c : Nat} {toks : List Bool}
    (hw : w'.heap = w.heap.push (.cells rs el fz)) (ho : w'.os = w.os) (hta : w'.tape = w.tape) (hou : w'.output = w.output) (hfz : fz.1 = fz.2 ∨ rs.size ≤ fz.1)
    (hn : n = l.length) (hc : n ≤ c) (hcs : c ≤ rs.size) (hr : ∀ (i : Nat) (b : UInt8), l[i]? = some b → rs[i]? = some (.int .u8 b.toNat))
    (htl : toks.length = st.toks.length) (htt : ∀ (i : Nat), toks[i]? = some true → st.toks[i]? = some true) (hel : el = g.tU) :
    Good P g base κ w (.slice (some ⟨w.heap.size, 0, none⟩) n c) w' (.bys (.own st.toks.length) l) { st with toks := toks ++ [true] } := by
  obtain ⟨h1, h2⟩ := h.addTok rs el fz n c hw hfz (by omega) hcs toks htl htt
  refine ⟨_, h1, rfl, h2, ?_, Fr.push h.hb hw ho hta hou⟩
  refine .bys _ 0 n c _ l hn hc (fun i b hi => ?_) ?_ (fun i _ => ⟨rfl, by simp [hel]⟩)
  · have hlt : i < n := by rw [hn]; exact (List.getElem?_eq_some_iff.1 hi).1
    simp [K.addC, hlt, hr i b hi]
  · refine ⟨n, c, ?_, fun _ => ⟨by omega, by omega⟩⟩
    show (κ.τ ++ [_])[st.toks.length]? = _
    rw [← h.tl]; simp

theorem stripLeaf_R {v : Value} {p q : PV} (hx : R g κ v p) (h : stripLeaf p = some q) : R g κ v q ∧ q.data = true ∧ leafOk q = (leafOk p) ∧ q.cells = [q] ∧ v.cells = #[v] := by
  cases p <;> simp [stripLeaf] at h <;> subst h
  case bool => cases hx; exact ⟨.bool _, rfl, rfl, rfl, rfl⟩
  case b8 => cases hx with | b8 b n hn => exact ⟨.b8 _ _ hn, rfl, rfl, rfl, rfl⟩
  case int => cases hx with | int k n hk => exact ⟨.int _ _ hk, rfl, rfl, rfl, rfl⟩
  case str => cases hx with | str s l hl => exact ⟨.str _ _ hl, rfl, rfl, rfl, rfl⟩
  case nilp => cases hx; exact ⟨.nilp, rfl, rfl, rfl, rfl⟩
  case nils => cases hx; exact ⟨.nils, rfl, rfl, rfl, rfl⟩
  case nilf => cases hx; exact ⟨.nilf, rfl, rfl, rfl, rfl⟩
  case nili => cases hx; exact ⟨.nili, rfl, rfl, rfl, rfl⟩
  case bys => cases hx with | bys blk off n c t l hn hc hb ht => exact ⟨.bys _ _ _ _ _ _ hn hc hb trivial (fun i h => by cases h), rfl, rfl, rfl, rfl⟩
  case sl => cases hx with | sl0 a esz t ht0 => exact ⟨.sl0 a _ _ (fun i h => by cases h), by simp [PV.data, Tok.isNo, dataAll], rfl, rfl, rfl⟩ | sl blk off n c esz t xs vs hn hc he hl hv hr hd hlf ht => exact ⟨.sl _ _ _ _ _ _ _ _ hn hc he hl hv hr hd hlf trivial, by simp [PV.data, Tok.isNo, hd], rfl, rfl, rfl⟩

theorem stripAll_get : ∀ {ps qs : List PV}, stripAll ps = some qs → ps.length = qs.length ∧ ∀ (i : Nat) (q : PV), qs[i]? = some q → ∃ p, ps[i]? = some p ∧ stripLeaf p = some q := by
  intro ps
  induction ps with
  | nil => intro qs h; simp [stripAll] at h; subst h; simp
  | cons p ps ih =>
    intro qs h
    simp only [stripAll] at h
    split at h
    · rename_i y ys h1 h2
      cases h
      obtain ⟨a, b⟩ := ih h2
      refine ⟨by simp [a], fun i q hq => ?_⟩
      cases i with
      | zero => simp at hq; subst hq; exact ⟨p, rfl, h1⟩
      | succ i => simp at hq; exact b i q hq
    · cases h

theorem strip_R {v : Value} {p q : PV} (hx : R g κ v p) (h : strip p = some q) : R g κ v q ∧ q.data = true ∧ q.cells.all leafOk = true := by
  unfold strip at h
  split at h
  · rename_i cs
    cases hs : stripAll cs with
    | none => simp [hs] at h
    | some qs =>
      simp [hs] at h; subst h
      cases hx with | agg vs _ hl hlf hr =>
      obtain ⟨a, b⟩ := stripAll_get hs
      have hd : dataAll qs = true ∧ qs.all leafOk = true := by
        have key : ∀ q ∈ qs, q.data = true ∧ leafOk q = true := fun q hq => by
          obtain ⟨i, hi⟩ := List.getElem?_of_mem hq
          obtain ⟨p, hp, hpq⟩ := b i q hi
          have hiv : i < vs.size := by rw [hl]; exact (List.getElem?_eq_some_iff.1 hp).1
          obtain ⟨c1, c2, c3, _⟩ := stripLeaf_R (hr i vs[i] p (by simp [hiv]) hp) hpq
          rw [List.all_eq_true] at hlf
          exact ⟨c2, by clear c3; cases p <;> simp [stripLeaf] at hpq <;> subst hpq <;> rfl⟩
        refine ⟨?_, by rw [List.all_eq_true]; exact fun q hq => (key q hq).2⟩
        clear hs a b hl hr
        induction qs with
        | nil => rfl
        | cons q qs ih => simp only [dataAll, (key q (by simp)).1, Bool.true_and]; exact ih (fun q hq => key q (by simp [hq]))
      refine ⟨.agg vs qs (by rw [hl, a]) (leafB_all hd.2) (fun i v q c d => ?_), by simpa [PV.data] using hd.1, by simpa [PV.cells] using hd.2⟩
      obtain ⟨p, hp, hpq⟩ := b i q d
      exact (stripLeaf_R (hr i v p c hp) hpq).1
  · obtain ⟨a, b, c, d, e⟩ := stripLeaf_R hx h
    refine ⟨a, b, ?_⟩
    rw [d]
    simp only [List.all_cons, List.all_nil, Bool.and_true]
    rw [c]
    cases p <;> simp_all [leafOk, stripLeaf]


theorem boxc_sim (h : SR P g base κ w st) {t : TypeId} {v : Value} {p u : PV} (hx : R g κ v p) (hu : strip p = some u) :
    ∃ z w', (Instr.box t v).run P w = .ok z w' ∧ Good P g base κ w z w' (.cp u.cells) st := by
  obtain ⟨r1, r2, r3⟩ := strip_R hx hu
  obtain ⟨hle, hs⟩ := h.addC (w' := { w with heap := w.heap.push (.cells v.cells t (0, 0)) }) v.cells t (0, 0) rfl
  have hc := r1.cells
  refine ⟨.pointer (some ⟨w.heap.size, 0, none⟩), { w with heap := w.heap.push (.cells v.cells t (0, 0)) }, by simp [Instr.box, newVar, run_newRow], _, hle, rfl, hs, ?_, Fr.push h.hb rfl rfl rfl rfl⟩
  refine .cp w.heap.size 0 v.cells.toList u.cells (by simpa using hc.1) (fun i x hi => ?_) (fun i x q a b => (hc.2 i x q (by simpa using a) b).mono hle) (data_cells r2) r3
  have hi2 : v.cells[i]? = some x := by simpa using hi
  simp [K.addC, hi2]

theorem flat_set {esz : Nat} {l : List PV} {i : Nat} {u : PV} (he : ∀ x ∈ l, x.cells.length = esz) (hu : u.cells.length = esz) (hi : i < l.length) (h0 : 0 < esz) : flat (l.set i u) = setCells (flat l) (i * esz) u.cells := by
  have he' : ∀ x ∈ l.set i u, x.cells.length = esz := fun x hx => by
    rcases List.mem_or_eq_of_mem_set hx with hx | rfl
    · exact he x hx
    · exact hu
  have hbd : i * esz + u.cells.length ≤ (flat l).length := by
    rw [flat_length he, hu, ← Nat.succ_mul]; exact Nat.mul_le_mul_right _ hi
  apply List.ext_getElem?
  intro j
  rw [setCells_get _ _ _ _ hbd, hu]
  have hj : j = (j / esz) * esz + j % esz := by rw [Nat.mul_comm]; exact (Nat.div_add_mod j esz).symm
  have hmod : j % esz < esz := Nat.mod_lt _ h0
  by_cases hk : j / esz = i
  · rw [if_pos (by rw [hk] at hj; omega)]
    have h1 : (l.set i u)[i]? = some u := by simp [hi]
    have h2 : u.cells[j % esz]? = some u.cells[j % esz] := by simp [show j % esz < u.cells.length by omega]
    have h3 := flat_get he' h1 h2
    rw [hk] at hj
    rw [show j - i * esz = j % esz by omega, h2, ← h3]
    congr 1
  · have hne : ¬ (i * esz ≤ j ∧ j < i * esz + esz) := by
      rintro ⟨a, b⟩
      apply hk
      apply Nat.div_eq_of_lt_le
      · exact a
      · rw [Nat.succ_mul]; exact b
    rw [if_neg hne]
    by_cases hlt : j / esz < l.length
    · have h1 : l[j / esz]? = some l[j / esz] := by simp [hlt]
      have hm := he _ (List.mem_of_getElem? h1)
      have h2 : (l[j / esz]).cells[j % esz]? = some (l[j / esz]).cells[j % esz] := by simp [show j % esz < (l[j / esz]).cells.length by omega]
      have h3 := flat_get he h1 h2
      have h4 := flat_get he' (show (l.set i u)[j / esz]? = some l[j / esz] by rw [List.getElem?_set_ne (Ne.symm hk)]; exact h1) h2
      rw [hj, h3, h4]
    · have hge : l.length * esz ≤ j := by
        have : l.length * esz ≤ (j / esz) * esz := Nat.mul_le_mul_right _ (by omega)
        omega
      rw [List.getElem?_eq_none (by rw [flat_length he', List.length_set]; exact hge), List.getElem?_eq_none (by rw [flat_length he]; exact hge)]

structure LitOK (g : GMap) (κ : K) (esz : Nat) (vs : Array Value) (l : List PV) : Prop where
  cr : CR g κ vs (flat l)
  he : ∀ x ∈ l, x.cells.length = esz
  hd : dataAll l = true
  hlf : (flat l).all leafOk = true

def PartsV (g : GMap) (κ : K) : List (Nat × Value) → List (Nat × PV) → Prop
  | [], [] => True
  | (i, v) :: r, (j, p) :: r' => i = j ∧ R g κ v p ∧ PartsV g κ r r'
  | _, _ => False

theorem dataAll_set {l : List PV} {i : Nat} {u : PV} (h : dataAll l = true) (hu : u.data = true) : dataAll (l.set i u) = true := by
  induction l generalizing i with
  | nil => simp [dataAll]
  | cons x xs ih =>
    simp only [dataAll, Bool.and_eq_true] at h
    cases i with
    | zero => simp [dataAll, hu, h.2]
    | succ i => simp [dataAll, h.1, ih h.2]

theorem litFill_sim {esz : Nat} (h0 : 0 < esz) : ∀ (parts : List (Nat × Value)) (ps : List (Nat × PV)) (vs : Array Value) (l l' : List PV), PartsV g κ parts ps → LitOK g κ esz vs l →
    litFill esz l ps = some l' → ∃ vs', Instr.fill (fun i => some (i * esz, esz)) vs parts = some vs' ∧ LitOK g κ esz vs' l' ∧ l'.length = l.length := by
  intro parts
  induction parts with
  | nil =>
    intro ps vs l l' hp hc h
    cases ps with
    | cons => exact hp.elim
    | nil => simp [litFill] at h; subst h; exact ⟨vs, rfl, hc, rfl⟩
  | cons q r ih =>
    obtain ⟨i, v⟩ := q
    intro ps vs l l' hp hc h
    cases ps with
    | nil => exact hp.elim
    | cons q' r' =>
      obtain ⟨j, p⟩ := q'
      obtain ⟨rfl, h2, h3⟩ := hp
      simp only [litFill] at h
      split at h
      · rename_i u hu
        split at h
        · rename_i hb
          obtain ⟨hb1, hb2⟩ := hb
          obtain ⟨r1, r2, r3⟩ := strip_R h2 hu
          have hcl := r1.cells
          have hbd : i * esz + u.cells.length ≤ (flat l).length := by
            rw [flat_length hc.he, hb2, ← Nat.succ_mul]; exact Nat.mul_le_mul_right _ hb1
          have hcr := CR.set hc.cr (us := v.cells) (qs := u.cells) hcl hbd
          rw [← flat_set hc.he hb2 hb1 h0] at hcr
          have hnew : LitOK g κ esz (setA vs (i * esz) v.cells.toList) (l.set i u) := by
            refine ⟨hcr, fun x hx => ?_, dataAll_set hc.hd r2, ?_⟩
            · rcases List.mem_or_eq_of_mem_set hx with hx | rfl
              · exact hc.he x hx
              · exact hb2
            · rw [flat_set hc.he hb2 hb1 h0]; exact setCells_all _ _ _ hc.hlf r3
          obtain ⟨vs', a1, a2, a3⟩ := ih r' _ _ _ h3 hnew h
          refine ⟨vs', ?_, a2, by rw [a3]; simp⟩
          simp only [Instr.fill]
          rw [if_neg (by simp only [Bool.or_eq_true, decide_eq_true_eq, ne_eq, not_or]; rw [hcl.1, hb2, hc.cr.1]; rw [hb2] at hbd; simp; omega)]
          rw [fill_step]
          exact a1
        · cases h
      · cases h

theorem flat_replicate_get {esz : Nat} {z : PV} (hz : z.cells.length = esz) (h0 : 0 < esz) {len i : Nat} (hi : i < len * esz) : (flat (List.replicate len z))[i]? = z.cells[i % esz]? := by
  have hmod : i % esz < esz := Nat.mod_lt _ h0
  have hk : i / esz < len := Nat.div_lt_of_lt_mul (by rw [Nat.mul_comm]; exact hi)
  have h1 : (List.replicate len z)[i / esz]? = some z := by simp [hk]
  have h2 : z.cells[i % esz]? = some z.cells[i % esz] := by simp [show i % esz < z.cells.length by omega]
  have h3 := flat_get (esz := esz) (fun x hx => by rw [List.eq_of_mem_replicate hx]; exact hz) h1 h2
  rw [show (i / esz) * esz + i % esz = i by rw [Nat.mul_comm]; exact Nat.div_add_mod i esz] at h3
  rw [h3, h2]

theorem dataAll_replicate {z : PV} (h : z.data = true) (n : Nat) : dataAll (List.replicate n z) = true := by
  induction n with
  | zero => rfl
  | succ n ih => simp [List.replicate_succ, dataAll, h, ih]

theorem flat_all {xs : List PV} (h : ∀ x ∈ xs, x.cells.all leafOk = true) : (flat xs).all leafOk = true := by
  rw [List.all_eq_true]
  intro x hx
  obtain ⟨y, hy, hxy⟩ := List.mem_flatMap.1 hx
  have := h y hy
  rw [List.all_eq_true] at this
  exact this x hxy

theorem zeros_CR {esz len : Nat} {zero : Value} {z : PV} (h0 : 0 < esz) (hz : z.cells.length = esz) (hc : chkLeaves zero.cells.toList z.cells = true) :
    CR g κ ((Array.range (len * esz)).map (zero.cells[· % zero.cells.size]!)) (flat (List.replicate len z)) := by
  obtain ⟨h1, h2, h3, h4, h5⟩ := chkLeaves_R (g := g) (κ := κ) _ _ hc
  have hsz : zero.cells.size = esz := by rw [← hz]; simpa using h1
  refine ⟨by rw [flat_length (esz := esz) (fun x hx => by rw [List.eq_of_mem_replicate hx]; exact hz)]; simp, fun i v p a b => ?_⟩
  have hi : i < len * esz := by
    have := (Array.getElem?_eq_some_iff.1 a).1
    simpa using this
  rw [flat_replicate_get hz h0 hi] at b
  have hmod : i % esz < esz := Nat.mod_lt _ h0
  have hm' : i % zero.cells.size < zero.cells.size := by rw [hsz]; exact hmod
  simp [hi] at a
  refine h2 (i % esz) v p ?_ b
  rw [← a, ← hsz]
  simp [hsz, hmod]

theorem zeros_LitOK {esz len : Nat} {zero : Value} {z : PV} (h0 : 0 < esz) (hz : z.cells.length = esz) (hc : chkLeaves zero.cells.toList z.cells = true) (hcz : chkConst zero z = true) :
    LitOK g κ esz ((Array.range (len * esz)).map (zero.cells[· % zero.cells.size]!)) (List.replicate len z) := by
  obtain ⟨h1, h2, h3, h4, h5⟩ := chkLeaves_R (g := g) (κ := κ) _ _ hc
  have hzd : z.data = true := by
    cases z <;> simp_all [PV.cells, PV.data, dataAll]
  exact ⟨zeros_CR h0 hz hc, fun x hx => by rw [List.eq_of_mem_replicate hx]; exact hz, dataAll_replicate hzd _, flat_all fun x hx => by rw [List.eq_of_mem_replicate hx]; exact h3⟩

theorem lit_sim (h : SR P g base κ w st) {t e : TypeId} {esz len : Nat} {zero : Value} {z : PV} {parts : Array (Nat × Value)} {ps : List (Nat × PV)} {l : List PV}
    (ht : sliceElem P t = some e) (hs : sizeT P e = some esz) (h0 : 0 < esz) (hlen : len * esz ≤ 16777216) (hz : z.cells.length = esz) (hzv : zeroT P e = some zero) (hcz : chkConst zero z = true) (hc : chkLeaves zero.cells.toList z.cells = true)
    (hp : PartsV g κ parts.toList ps) (hl : litFill esz (List.replicate len z) ps = some l) :
    ∃ u w', (Instr.buildSlice t len parts).run P w = .ok u w' ∧ Good P g base κ w u w' (.sl esz (freshT st).1 l) (freshT st).2 := by
  have hu := sliceElem_eq ht
  obtain ⟨vs', a1, a2, a3⟩ := litFill_sim h0 parts.toList ps _ _ l hp (zeros_LitOK (g := g) (κ := κ) (len := len) h0 hz hc hcz) hl
  have hll : l.length = len := by rw [a3]; simp
  have hvs : vs'.size = len * esz := by rw [a2.cr.1, flat_length a2.he, hll]
  have hzero : (if len * esz = 0 then pure #[] else (do pure (← zeroValue e).cells) : Sem (Array Value)).run P w = .ok (if len * esz = 0 then #[] else zero.cells) w := by
    split
    · rfl
    · simp [run_zeroValue hzv]
  refine ⟨.slice (some ⟨w.heap.size, 0, none⟩) len len, { w with heap := w.heap.push (.cells vs' e (0, 0)) }, ?_,
    good_row (toks := st.toks) h rfl rfl rfl rfl (.inl rfl) hll.symm (Nat.le_refl _) (by rw [hvs]; exact Nat.le_refl _) a2.he a2.hd a2.hlf (fun i v p a b => a2.cr.2 i v p a b) rfl (fun _ h => h)⟩
  have hfill : Instr.fill (fun i => some (i * esz, esz)) ((Array.range (len * esz)).map ((if len * esz = 0 then #[] else zero.cells : Array Value)[· % (if len * esz = 0 then #[] else zero.cells : Array Value).size]!)) parts.toList = some vs' := by
    rw [← a1]
    by_cases hle : len * esz = 0
    · simp [hle, show Array.range 0 = #[] from rfl]
    · rw [if_neg hle]
  simp only [Instr.buildSlice, Sem.run_bind, run_underlying hu, Result.andThen_ok, run_sizeOf hs]
  rw [if_neg (by omega)]
  split
  · rename_i hc2
    rw [if_pos hc2] at hfill
    simp only [Sem.run_bind, Sem.run_pure, Result.andThen_ok]
    rw [hfill]
    simp [run_newRow]
  · rename_i hc2
    simp only [Sem.run_bind, run_zeroValue hzv, Result.andThen_ok, Sem.run_pure]
    rw [if_neg hc2] at hfill
    rw [hfill]
    simp [run_newRow]

theorem lit8Fill_eq : ∀ (ps : List (Nat × PV)) (l l' : List UInt8), lit8Fill l ps = some l' → litFill 1 (l.map .b8) ps = some (l'.map .b8) := by
  intro ps
  induction ps with
  | nil => intro l l' h; simp [lit8Fill] at h; subst h; rfl
  | cons q r ih =>
    obtain ⟨i, p⟩ := q
    intro l l' h
    cases p <;> simp [lit8Fill] at h
    obtain ⟨h1, h2⟩ := h
    simp only [litFill, strip, stripLeaf, PV.cells, List.length_map, List.length_cons, List.length_nil]
    rw [if_pos ⟨h1, trivial⟩, ← List.map_set]
    exact ih _ _ h2

theorem flat_b8 (l : List UInt8) : flat (l.map .b8) = l.map .b8 := by
  induction l with
  | nil => rfl
  | cons x xs ih => simp only [List.map_cons, flat, List.flatMap_cons] at *; rw [ih]; rfl

theorem lit8_sim (h : SR P g base κ w st) {t e : TypeId} {len : Nat} {zero : Value} {parts : Array (Nat × Value)} {ps : List (Nat × PV)} {l : List UInt8}
    (ht : sliceElem P t = some e) (hs : sizeT P e = some 1) (hlen : len ≤ 16777216) (hzv : zeroT P e = some zero) (hc : chkLeaf zero (.b8 0) = true)
    (hp : PartsV g κ parts.toList ps) (hl : lit8Fill (List.replicate len 0) ps = some l) (heu : e = g.tU) :
    ∃ u w', (Instr.buildSlice t len parts).run P w = .ok u w' ∧ Good P g base κ w u w' (.bys (freshT st).1 l) (freshT st).2 := by
  have hu := sliceElem_eq ht
  have hcells : zero.cells = #[zero] := (chkLeaf_R (g := g) (κ := κ) hc).2.2.2.2.2
  have hcl : chkLeaves zero.cells.toList (PV.b8 0).cells = true := by rw [hcells]; simp [PV.cells, chkLeaves, hc]
  have hcc : chkConst zero (.b8 0) = true := by
    cases zero <;> simp_all [chkConst, chkLeaf, Value.cells]
  have hl' := lit8Fill_eq _ _ _ hl
  rw [List.map_replicate] at hl'
  obtain ⟨vs', a1, a2, a3⟩ := litFill_sim (esz := 1) (by decide) parts.toList ps _ _ _ hp (zeros_LitOK (g := g) (κ := κ) (len := len) (by decide) rfl hcl hcc) hl'
  have hll : l.length = len := by simpa using a3
  have hcr := a2.cr
  rw [flat_b8] at hcr
  have hvs : vs'.size = len := by rw [hcr.1]; simpa using hll
  have hzero : (if len * 1 = 0 then pure #[] else (do pure (← zeroValue e).cells) : Sem (Array Value)).run P w = .ok (if len * 1 = 0 then #[] else zero.cells) w := by
    split
    · rfl
    · simp [run_zeroValue hzv]
  refine ⟨.slice (some ⟨w.heap.size, 0, none⟩) len len, { w with heap := w.heap.push (.cells vs' e (0, 0)) }, ?_,
    good_bytes (toks := st.toks) h rfl rfl rfl rfl (.inl rfl) hll.symm (Nat.le_refl _) (by rw [hvs]; exact Nat.le_refl _) (fun i b hi => ?_) rfl (fun _ h => h) heu⟩
  · simp only [Instr.buildSlice, Sem.run_bind, run_underlying hu, Result.andThen_ok, run_sizeOf hs]
    rw [if_neg (by omega)]
    split
    · rename_i hc2
      have hfill : Instr.fill (fun i => some (i * 1, 1)) ((Array.range (len * 1)).map ((#[] : Array Value)[· % (#[] : Array Value).size]!)) parts.toList = some vs' := by
        have hz0 : len = 0 := by omega
        subst hz0
        rw [← a1]; simp [show Array.range 0 = #[] from rfl]
      simp only [Sem.run_bind, Sem.run_pure, Result.andThen_ok]
      rw [hfill]
      simp [run_newRow]
    · rename_i hc2
      simp only [Sem.run_bind, run_zeroValue hzv, Result.andThen_ok, Sem.run_pure]
      rw [a1]
      simp [run_newRow]
  · have hlt : i < vs'.size := by rw [hvs, ← hll]; exact (List.getElem?_eq_some_iff.1 hi).1
    have := hcr.2 i vs'[i] (.b8 b) (by simp [hlt]) (by simp [hi])
    simp only [Array.getElem?_eq_getElem hlt, Option.some.injEq]
    generalize vs'[i] = q at this
    cases this with | b8 _ n hn => rw [hn]

theorem lit8c_sim (h : SR P g base κ w st) {t e : TypeId} {len : Nat} {zero : Value} {parts : Array (Nat × Value)} {ps : List (Nat × PV)} {l : List UInt8}
    (ht : sliceElem P t = some e) (hs : sizeT P e = some 1) (hlen : len ≤ 16777216) (hzv : zeroT P e = some zero) (hc : chkLeaf zero (.b8 0) = true)
    (hp : PartsV g κ parts.toList ps) (hl : lit8Fill (List.replicate len 0) ps = some l) (heu : e = g.tU) :
    ∃ u w', (Instr.buildSlice t len parts).run P w = .ok u w' ∧ Good P g base κ w u w' (.bys .no l) st := by
  have hu := sliceElem_eq ht
  have hcells : zero.cells = #[zero] := (chkLeaf_R (g := g) (κ := κ) hc).2.2.2.2.2
  have hcl : chkLeaves zero.cells.toList (PV.b8 0).cells = true := by rw [hcells]; simp [PV.cells, chkLeaves, hc]
  have hcc : chkConst zero (.b8 0) = true := by
    cases zero <;> simp_all [chkConst, chkLeaf, Value.cells]
  have hl' := lit8Fill_eq _ _ _ hl
  rw [List.map_replicate] at hl'
  obtain ⟨vs', a1, a2, a3⟩ := litFill_sim (esz := 1) (by decide) parts.toList ps _ _ _ hp (zeros_LitOK (g := g) (κ := κ) (len := len) (by decide) rfl hcl hcc) hl'
  have hll : l.length = len := by simpa using a3
  have hcr := a2.cr
  rw [flat_b8] at hcr
  have hvs : vs'.size = len := by rw [hcr.1]; simpa using hll
  have hzero : (if len * 1 = 0 then pure #[] else (do pure (← zeroValue e).cells) : Sem (Array Value)).run P w = .ok (if len * 1 = 0 then #[] else zero.cells) w := by
    split
    · rfl
    · simp [run_zeroValue hzv]
  obtain ⟨hle, hsA⟩ := h.addC (w' := { w with heap := w.heap.push (.cells vs' e (0, 0)) }) vs' e (0, 0) rfl
  refine ⟨.slice (some ⟨w.heap.size, 0, none⟩) len len, { w with heap := w.heap.push (.cells vs' e (0, 0)) }, ?_, _, hle, rfl, hsA,
    .bys _ _ _ _ _ _ hll.symm (Nat.le_refl _) (fun i b hi => ?_) trivial (fun _ h => by cases h), Fr.push h.hb rfl rfl rfl rfl⟩
  · simp only [Instr.buildSlice, Sem.run_bind, run_underlying hu, Result.andThen_ok, run_sizeOf hs]
    rw [if_neg (by omega)]
    split
    · rename_i hc2
      have hfill : Instr.fill (fun i => some (i * 1, 1)) ((Array.range (len * 1)).map ((#[] : Array Value)[· % (#[] : Array Value).size]!)) parts.toList = some vs' := by
        have hz0 : len = 0 := by omega
        subst hz0
        rw [← a1]; simp [show Array.range 0 = #[] from rfl]
      simp only [Sem.run_bind, Sem.run_pure, Result.andThen_ok]
      rw [hfill]
      simp [run_newRow]
    · rename_i hc2
      simp only [Sem.run_bind, run_zeroValue hzv, Result.andThen_ok, Sem.run_pure]
      rw [a1]
      simp [run_newRow]
  · have hlt : i < vs'.size := by rw [hvs, ← hll]; exact (List.getElem?_eq_some_iff.1 hi).1
    have := hcr.2 i vs'[i] (.b8 b) (by simp [hlt]) (by simp [hi])
    simp only [K.addC, Nat.zero_add, if_true, Array.getElem?_eq_getElem hlt, Option.some.injEq]
    generalize vs'[i] = q at this
    cases this with | b8 _ n hn => rw [hn]

end Go.Ab
/-
  Stores into boxes; conversions between texts and bytes.
-/
namespace Go.Ab

variable {P : Program} {g : GMap} {base : Nat} {κ : K} {w : World} {st : St}

theorem R_oneCell {v : Value} {p : PV} (h : R g κ v p) (hl : leafOk p = true) : oneCell v = true := by
  cases h <;> simp_all [leafOk, oneCell]

theorem R_oneCells {v : Value} {p : PV} (h : R g κ v p) (hl : p.cells.all leafOk = true) : ∀ u ∈ v.cells.toList, oneCell u = true := by
  intro u hu
  obtain ⟨h1, h2⟩ := h.cells
  obtain ⟨i, hi⟩ := List.getElem?_of_mem hu
  have hi' : v.cells[i]? = some u := by simpa using hi
  have hlt : i < p.cells.length := by rw [← h1]; exact (Array.getElem?_eq_some_iff.1 hi').1
  have hq : p.cells[i]? = some p.cells[i] := by simp [hlt]
  rw [List.all_eq_true] at hl
  exact R_oneCell (h2 i u _ hi' hq) (hl _ (List.mem_of_getElem? hq))

theorem store_sim (h : SR P g base κ w st) {t : TypeId} {sz : Nat} {a v : Value} {pa p : PV} {st' : St} (hsz : sizeT P t = some sz) (ha : R g κ a pa) (hx : R g κ v p) (hs : storePV st sz pa p = some st') :
    ∃ w', (Instr.storeAt t a v).run P w = .ok () w' ∧ Good P g base κ w undef w' .undef st' := by
  unfold storePV at hs
  split at hs
  · rename_i b off
    split at hs
    · rename_i cs hcs
      split at hs
      · rename_i hb
        obtain ⟨h1, h2, h3, h4⟩ := hb
        cases ha with | ptr _ _ blk hφ hμ =>
        have hbx := h.bx b blk cs hcs hφ hμ
        obtain ⟨rs, ⟨el, lo, hi, hw, hf⟩, hl, hr⟩ := hbx.ex
        have hcl := hx.cells
        have hvl : v.cells.toList.length = sz := by simpa [h1] using hcl.1
        have hrun := run_storeCells (P := P) off v.cells.toList 0 w rs hw hf (by omega) (R_oneCells hx h4)
        refine ⟨setBlk w blk (setA rs off v.cells.toList) el (lo, hi), ?_, ?_⟩
        · simp only [Instr.storeAt, Instr.sureAddr, storeVar, Sem.run_bind, Sem.run_pure, Result.andThen_ok, run_sizeOf hsz]
          rw [if_neg (by rw [hcl.1, h1]; simp)]
          exact hrun
        · have hsr := h.setBox (rs' := setA rs off v.cells.toList) (cs' := setCells cs off p.cells) (if hasTok p.cells then min st.low b else st.low) hcs hφ hμ hw hf (setA_size _ _ _) (by rw [setCells_length]; exact hl) (fun i c hc => ?_)
            (setCells_allB _ _ _ hbx.lf (leafB_all h4)) (fun c hc => ?_) (fun hm => by
              obtain ⟨i, hi'⟩ := List.getElem?_of_mem hm
              rw [setCells_get _ _ _ _ (by omega)] at hi'
              split at hi'
              · have := (List.all_eq_true.1 h4) _ (List.mem_of_getElem? hi')
                simp [leafOk] at this
              · exact List.mem_of_getElem? hi') (fun hz => by
                subst hz
                simp only [List.length_nil] at h2
                have hp0 : p.cells = [] := List.eq_nil_of_length_eq_zero (by omega)
                have hv0 : v.cells.toList = [] := List.eq_nil_of_length_eq_zero (by omega)
                rw [hp0, hv0]; exact ⟨rfl, rfl⟩)
          · cases hs
            exact ⟨κ, K.le.refl κ, rfl, hsr, .undef, Fr.setBlk hw hbx.ge⟩
          · rw [setCells_get _ _ _ _ (by omega)] at hc
            rw [setA_get _ _ _ _ (by omega), hvl, ← h1]
            split at hc
            · rename_i hi'
              rw [if_pos hi']
              have hlt : i - off < v.cells.size := by rw [hcl.1]; exact (List.getElem?_eq_some_iff.1 hc).1
              exact ⟨v.cells[i - off], by simp [hlt], hcl.2 _ _ _ (by simp [hlt]) hc⟩
            · rename_i hi'
              rw [if_neg hi']
              exact hr i c hc
          · obtain ⟨i, hi'⟩ := List.getElem?_of_mem hc
            rw [setCells_get _ _ _ _ (by omega)] at hi'
            split at hi'
            · exact inB_cells h3 c (List.mem_of_getElem? hi')
            · exact hbx.lw c (List.mem_of_getElem? hi')
      · cases hs
    · cases hs
  · cases hs

theorem bytesWorld_heap (w : World) (e : TypeId) (s : ByteArray) : (Lib.bytesWorld w e s).heap = w.heap.push (.cells (Lib.bytesCells w e s) e ((Lib.bytesCells w e s).size, (Lib.bytesCells w e s).size + 1)) := by
  apply Array.ext_getElem?
  intro i
  rcases Nat.lt_trichotomy i w.heap.size with h | h | h
  · rw [Lib.bytesWorld_at_old w e s i h, Array.getElem?_push, if_neg (by omega)]
  · subst h; rw [Lib.bytesWorld_at_new]; simp
  · rw [Array.getElem?_eq_none (by rw [Lib.bytesWorld_size]; omega), Array.getElem?_eq_none (by simp; omega)]

theorem grown_ge (w : World) (n o : Nat) (e : TypeId) : n ≤ grownCap w n o e := by simp [grownCap, Question.cut]

theorem bytesCells_get {w : World} {e : TypeId} {s : ByteArray} {i : Nat} {b : UInt8} (h : s.data.toList[i]? = some b) : (Lib.bytesCells w e s)[i]? = some (.int .u8 b.toNat) := by
  have hlt : i < s.data.size := by have := (List.getElem?_eq_some_iff.1 h).1; simpa using this
  unfold Lib.bytesCells
  rw [Array.getElem?_append_left (by simpa using hlt)]
  simp at h
  simp [h]

theorem bytesCells_size {w : World} {e : TypeId} {s : ByteArray} : (Lib.bytesCells w e s).size = grownCap w s.size 0 e := by
  have := grown_ge w s.size 0 e
  have h2 : s.data.size = s.size := rfl
  simp [Lib.bytesCells]; omega

theorem cS2B_sim (h : SR P g base κ w st) {src dst e : TypeId} {mu : Bool} {v : Value} {s : List UInt8} (hs : (P.underlying src).isSome = true) (hd : sliceElem P dst = some e) (he : isU8 P e = true) (heu : e = g.tU) (hx : R g κ v (.str s)) :
    ∃ u w', (convert src dst v).run P w = .ok u w' ∧
      Good P g base κ w u w' (if mu then (PV.ms st.boxes.length 0 s.length) else (.bys (freshT st).1 s)) (if mu then { st with boxes := st.boxes ++ [s.map .b8] } else (freshT st).2) := by
  obtain ⟨ds, hs⟩ := Option.isSome_iff_exists.1 hs
  cases hx with | str ba _ hl =>
  have hrun := Lib.run_convert_string_bytes (P := P) w src dst e ba hs (sliceElem_eq hd) (isU8_eq he)
  have hsz : ba.size = s.length := by rw [← hl]; rfl
  refine ⟨_, _, hrun, ?_⟩
  cases mu with
  | false =>
    exact good_bytes (toks := st.toks) h (bytesWorld_heap w e ba) rfl rfl rfl (.inr (Nat.le_refl _)) hsz (grown_ge _ _ _ _) (by rw [bytesCells_size]; exact Nat.le_refl _) (fun i b hi => bytesCells_get (by rw [hl]; exact hi)) rfl (fun _ h => h) heu
  | true =>
    have hle : s.length ≤ (Lib.bytesCells w e ba).size := by rw [bytesCells_size, ← hsz]; exact grown_ge _ _ _ _
    obtain ⟨h1, h2⟩ := h.addBox (w' := Lib.bytesWorld w e ba) (Lib.bytesCells w e ba) e _ (s.map .b8) (bytesWorld_heap w e ba) (.inr (Nat.le_refl _)) (by simpa using hle) (fun i c hi => by
      simp only [List.getElem?_map, Option.map_eq_some_iff] at hi
      obtain ⟨b, hb, rfl⟩ := hi
      exact ⟨_, bytesCells_get (by rw [hl]; exact hb), .b8 _ _ rfl⟩) (by simp [leafB]) (by simp [PV.inB]) (fun hm => by simp at hm)
    refine ⟨_, h1, rfl, h2, ?_, Fr.push h.hb (bytesWorld_heap w e ba) rfl rfl rfl⟩
    rw [hsz]
    refine .ms _ _ _ _ _ _ ?_ (by rw [← hsz]; exact grown_ge _ _ _ _) (.inr rfl) (h.mz _ (by rw [h.bl]; exact Nat.le_refl _))
    show (κ.φ ++ [w.heap.size])[st.boxes.length]? = _
    rw [← h.bl]; simp

theorem bytesOf_get : ∀ {ps : List PV} {l : List UInt8}, bytesOf ps = some l → ps = l.map .b8 := by
  intro ps
  induction ps with
  | nil => intro l h; simp [bytesOf] at h; subst h; rfl
  | cons p ps ih =>
    intro l h
    cases p <;> simp [bytesOf] at h
    obtain ⟨l', h1, rfl⟩ := h
    simp [ih h1]

theorem src8_cells (h : SR P g base κ w st) {v : Value} {p : PV} {l : List UInt8} (hx : R g κ v p) (hs : src8 st p = some l) (hne : ∀ s, p ≠ .str s) :
    (v = .slice none 0 0 ∧ l = []) ∨ ∃ blk off c, v = .slice (some ⟨blk, off, none⟩) l.length c ∧ ∀ (i : Nat) (b : UInt8), l[i]? = some b → w.cell? ⟨blk, off + i, none⟩ = some (.int .u8 b.toNat) := by
  unfold src8 at hs
  split at hs
  · cases hx; cases hs; exact .inl ⟨rfl, rfl⟩
  · exact absurd rfl (hne _)
  · cases hx with | bys blk off n c t _ hn hc hb ht =>
    cases hs; subst hn
    exact .inr ⟨blk, off, c, rfl, fun i b hi => h.cC _ _ _ (hb i b hi)⟩
  · rename_i b off n
    split at hs
    · rename_i cs hcs
      split at hs
      · rename_i hle
        cases hx with | ms _ _ off' _ c blk hφ hc ho hμ =>
        have hbx := h.bx b blk cs hcs hφ hμ
        obtain ⟨rs, ⟨el, lo, hi, hw, hf⟩, hl, hr⟩ := hbx.ex
        have hb := bytesOf_get hs
        have hlen : l.length = n := by have := congrArg List.length hb; simp at this; omega
        refine .inr ⟨blk, off', c, by rw [hlen], fun i b hi => ?_⟩
        have hin : i < n := by rw [← hlen]; exact (List.getElem?_eq_some_iff.1 hi).1
        obtain rfl : off' = off := by rcases ho with ho | ho <;> omega
        have hci : cs[off' + i]? = some (.b8 b) := by
          have := congrArg (·[i]?) hb
          simp only [List.getElem?_take, hin, if_true, List.getElem?_drop, List.getElem?_map, hi, Option.map_some] at this
          exact this
        obtain ⟨u, hu, hru⟩ := hr _ _ hci
        simp only [World.cell?, hw]
        cases hru with | b8 _ m hm => subst hm; simpa using hu
      · cases hs
    · cases hs
  · cases hs

theorem strOfNums_eq (l : List UInt8) : (strOfNums (l.map fun b => (b.toNat : Int))).data.toList = l := by
  simp [strOfNums]
  induction l with
  | nil => rfl
  | cons x xs ih => simp [ih]

theorem cB2S_sim (h : SR P g base κ w st) {src dst e : TypeId} {v : Value} {p : PV} {l : List UInt8} (hs : sliceElem P src = some e) (he : isU8 P e = true) (hd : isStrT P dst = true) (hx : R g κ v p) (hsrc : src8 st p = some l) (hne : ∀ s, p ≠ .str s) :
    ∃ u, (convert src dst v).run P w = .ok u w ∧ R g κ u (.str l) := by
  rcases src8_cells h hx hsrc hne with ⟨rfl, rfl⟩ | ⟨blk, off, c, rfl, hc⟩
  · exact ⟨_, run_convert_bytes_nil w src e (sliceElem_eq hs) (isU8_eq he) 0 0 dst (isStrT_eq hd), .str _ _ rfl⟩
  · refine ⟨_, run_convert_bytes_arg w src e (sliceElem_eq hs) (isU8_eq he) blk off l.length c (l.map fun b => (b.toNat : Int)) (by simp) (fun i hi => ?_) dst (isStrT_eq hd), .str _ _ (strOfNums_eq l)⟩
    rw [hc i l[i] (by simp [hi])]
    simp [List.getD, hi]

theorem SR.refz (h : SR P g base κ w st) {blk : Nat} {rs : Array Value} {el : TypeId} {fz fz' : Nat × Nat} (hw : w.heap[blk]? = some (.cells rs el fz)) (hf : fz'.1 = fz'.2 ∨ rs.size ≤ fz'.1) : SR P g base κ (setBlk w blk rs el fz') st := by
  have hcell : ∀ b i, (setBlk w blk rs el fz').cell? ⟨b, i, none⟩ = w.cell? ⟨b, i, none⟩ := fun b i => by
    by_cases hb : b = blk
    · subst hb
      have hlt := (Array.getElem?_eq_some_iff.1 hw).1
      have h2 : (setBlk w b rs el fz').heap[b]? = some (.cells rs el fz') := by simp [setBlk, hlt]
      simp only [World.cell?]
      rw [h2, hw]
    · exact cell_setBlk_other hb
  have hcs : ∀ b rs', Cells w b rs' → Cells (setBlk w blk rs el fz') b rs' := fun b rs' hc => by
    by_cases hb : b = blk
    · subst hb
      obtain ⟨el', lo, hi, h1, h2⟩ := hc
      rw [hw] at h1; cases h1
      have hlt := (Array.getElem?_eq_some_iff.1 hw).1
      exact ⟨el, fz'.1, fz'.2, by simp [setBlk, hlt], hf⟩
    · exact hc.congr (setBlk_other hb)
  have hobj : ∀ (k : Nat) (o : Obj), w.heap[k]? = some o → isCells o = false → (setBlk w blk rs el fz').heap[k]? = some o := fun k o ho hc => by
    rw [setBlk_other]
    · exact ho
    · rintro rfl; rw [hw] at ho; cases ho; simp [isCells] at hc
  exact { cC := fun b i v hc => by rw [hcell]; exact h.cC b i v hc, sh := fun b t hb => (h.sh b t hb).imp fun n hn => (by rw [shape_setBlk hw rfl]; exact hn), bl := h.bl, bn := h.bn,
          mx := fun b k cs h1 h2 hm => (h.mx b k cs h1 h2 hm).setBlk hw, mz := h.mz,
          bx := fun b k cs h1 h2 hm => by
            have hx := h.bx b k cs h1 h2 hm
            obtain ⟨rs', hc, h3, h4⟩ := hx.ex
            exact ⟨hx.ge, hx.nc, ⟨rs', hcs _ _ hc, h3, h4⟩, hx.lf, hx.lw, fun hm => by
              rw [← hx.sb hm]
              by_cases hk : k = blk
              · subst hk
                have hlt := (Array.getElem?_eq_some_iff.1 hw).1
                simp only [World.shape?, hw]; simp [setBlk, hlt]
              · exact shape_congr (setBlk_other hk)⟩,
          tl := h.tl, tk := fun i k e ce h1 h2 => by
            have hx := h.tk i k e ce h1 h2
            obtain ⟨rs', hc, h3⟩ := hx.ex
            exact ⟨hx.ge, hx.nb, hx.nc, ⟨rs', hcs _ _ hc, h3⟩⟩,
          td := h.td, ll := h.ll, ln := h.ln, lb := h.lb, lp := fun k l D r h1 h2 => (h.lp k l D r h1 h2).mono (K.le.refl _) hobj, hb := by simpa [setBlk] using h.hb, gv := h.gv }

theorem cSame_sim (h : SR P g base κ w st) {src e : TypeId} {v : Value} {i : Nat} {l : List UInt8} (hs : sliceElem P src = some e) (he : isU8 P e = true) (hx : R g κ v (.bys (.own i) l)) (hi : st.toks[i]? = some true) :
    ∃ w', (convert src src v).run P w = .ok v w' ∧ Good P g base κ w v w' (.bys (.own i) l) st := by
  cases hx with | bys blk off n c _ _ hn hc hb ht hz =>
  have ht' := ht
  obtain ⟨e', ce, h1, h2⟩ := ht
  have hx := h.tk i blk e' ce hi h1
  obtain ⟨rs, ⟨el, lo, hi', hw, hf⟩, hce⟩ := hx.ex
  have hlt := (Array.getElem?_eq_some_iff.1 hw).1
  have hsh : w.shape? blk = some (el, rs.size) := by simp [World.shape?, hw]
  refine ⟨w.freeze ⟨blk, rs.size, none⟩ 1, ?_, ?_⟩
  · simp [convert, run_underlying (sliceElem_eq hs), run_underlying (isU8_eq he), markStringish, shape, freeze, Sem.run, hsh]
  · have hfw : w.freeze ⟨blk, rs.size, none⟩ 1 = setBlk w blk rs el (if lo == hi' then (rs.size, rs.size + 1) else (min lo rs.size, max hi' (rs.size + 1))) := by
      simp only [World.freeze, setBlk]
      rw [if_neg (by decide)]
      congr 1
      apply Array.ext_getElem?
      intro j
      rw [Array.getElem?_modify]
      by_cases hj : blk = j
      · subst hj; rw [if_pos rfl, hw]; simp [hlt]
      · rw [if_neg hj, Array.getElem?_setIfInBounds_ne hj]
    rw [hfw]
    have hok : ∀ fz : Nat × Nat, fz = (if lo == hi' then (rs.size, rs.size + 1) else (min lo rs.size, max hi' (rs.size + 1))) → fz.1 = fz.2 ∨ rs.size ≤ fz.1 := by
      rintro fz rfl
      right
      split
      · exact Nat.le_refl _
      · rename_i hne
        rcases hf with hf | hf
        · simp [hf] at hne
        · show rs.size ≤ min lo rs.size; omega
    refine ⟨κ, K.le.refl κ, rfl, h.refz hw (hok _ rfl), .bys _ _ _ _ _ _ hn hc hb ht' hz, ?_⟩
    refine Fr.of ⟨rfl, rfl, rfl, by simp [setBlk], fun k hk => setBlk_other (by have := hx.ge; omega)⟩ fun k o ho hc => ?_
    rw [setBlk_other]
    · exact ho
    · rintro rfl; rw [hw] at ho; cases ho; simp [isCells] at hc

end Go.Ab
