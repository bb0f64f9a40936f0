/-
  The abstract machine: values without addresses and capacities, and an evaluator by fuel.
-/
import Derived.RangeFuncIn
import Derived.OrdersIn
import Derived.TacticsIn
namespace Go.Ab
set_option linter.unusedVariables false
set_option linter.unusedSimpArgs false

/-- What a slice may do at its end: nothing known; it owns the room behind it (token i); it has no room. -/
inductive Tok where
  | no
  | own (i : Nat)
  | ex
  deriving DecidableEq

def Tok.isNo : Tok → Bool
  | .no => true
  | _ => false

inductive PV where
  | undef
  | bool (b : Bool)
  | b8 (b : UInt8)
  | int (k : IntKind) (n : Int)
  | str (s : List UInt8)
  | nilp
  | ptr (b off : Nat)
  | cp (cells : List PV)
  | nils
  | bys (t : Tok) (l : List UInt8)
  | sl (esz : Nat) (t : Tok) (xs : List PV)
  | ms (b off len : Nat)
  | fn (f : Nat) (cap : List PV)
  | yld (k : Nat)
  | nilf
  | nili
  | agg (cells : List PV)
  | tup (vs : List PV)
  deriving Inhabited

def PV.cells : PV → List PV
  | .agg cs => cs
  | v => [v]

inductive Opd where
  | tmp (t : Nat)
  | const (v : PV)
  | fn (f : Nat)

/-- How two values are held against each other by == beyond numbers and texts. -/
inductive FK where
  | b | i | s
  deriving DecidableEq

inductive EK where
  | no | bool | ptr | slice | func | struct (ks : List FK)

inductive AOp where
  | mov (x : Opd)
  | pick (c a b : Opd)
  | alloc (zero : List PV)
  | box (x : Opd)
  | build (zero : List PV) (parts : List (Nat × Nat × Opd))
  | lit8 (len : Nat) (parts : List (Nat × Opd))
  | lit (esz : Nat) (zero : PV) (len : Nat) (parts : List (Nat × Opd))
  | load (ag : Bool) (sz : Nat) (a : Opd)
  | store (sz : Nat) (a x : Opd)
  | nilck (x : Opd)
  | bin (op : BinOp) (ek : EK) (x y : Opd)
  | un (op : UnOp) (x : Opd)
  | cInt (k : IntKind) (x : Opd)
  | cS2B (mu : Bool) (x : Opd)
  | cB2S (mu : Bool) (x : Opd)
  | cStr (x : Opd)
  | cSame (x : Opd)
  | mkfn (f : Nat) (caps : List Opd)
  | mk8 (mu : Bool) (len cap : Opd)
  | mkms (zero : List PV) (len cap : Opd)
  | slc (esz : Nat) (x : Opd) (lo hi mx : Option Opd)
  | faddr (off : Nat) (x : Opd)
  | fld (ag : Bool) (off sz : Nat) (x : Opd)
  | iaddr (esz : Nat) (x i : Opd)
  | iaddrA (len esz : Nat) (x i : Opd)
  | idx (len : Nat) (ag : Bool) (esz : Nat) (x i : Opd)
  | idxS (x i : Opd)
  | ext (k : Nat) (x : Opd)
  | len (st : Bool) (x : Opd)
  | app (u8 : Bool) (esz : Nat) (s x : Opd)
  | mnmx (mx : Bool) (xs : List Opd)
  | call (f : Opd) (args : List Opd)

structure AOper where
  dst : Option Nat
  op : AOp
  guard : Option (Nat × Bool) := none

/-- How a piece of code is left. -/
inductive Ex where
  | normal | ret | exit (id : Nat) | goto (l : Nat)
  deriving DecidableEq

inductive ACode where
  | skip
  | region (ops : List AOper)
  | seq (a b : ACode)
  | cond (c : Opd) (thn els : ACode)
  | block (id : Nat) (body : ACode)
  | loop (body : ACode)
  | rangeFunc (f : Opd) (params : List Nat) (assign body : ACode)
  | exit (id : Nat)
  | scope (body : ACode)
  | scopeAt (body cur : ACode)
  | label (l : Nat)
  | goto (l : Nat)
  | ret

inductive RV where
  | tmp (t : Nat)
  | cell (t : Nat) (ag : Bool) (sz : Nat)

structure ACFn where
  nt : Nat
  results : List RV
  body : ACode

/-- A function: its code, or a primitive: a plain function on plain values. -/
inductive AFn where
  | code (f : ACFn)
  | prim (p : List PV → Option PV)

abbrev AP := Nat → Option AFn
abbrev Env := Nat → PV

structure LoopS where
  env : Env
  params : List Nat
  assign : ACode
  body : ACode
  status : Nat       -- 0 ready, 1 busy, 2 done
  pend : Ex

structure St where
  boxes : List (List PV)
  toks : List Bool
  loops : List LoopS
  low : Nat

def Opd.ev (e : Env) : Opd → PV
  | .tmp t => e t
  | .const v => v
  | .fn f => .fn f []

def upd (e : Env) (d : Nat) (v : PV) : Env := fun t => if t = d then v else e t
def updO (e : Env) (d : Option Nat) (v : PV) : Env := match d with | some d => upd e d v | none => e

/-! ### Numbers -/
def bin8 (op : BinOp) (a b : UInt8) : Option PV :=
  match op with
  | .add => some (.b8 (a + b))
  | .sub => some (.b8 (a - b))
  | .mul => some (.b8 (a * b))
  | .and => some (.b8 (a &&& b))
  | .or => some (.b8 (a ||| b))
  | .xor => some (.b8 (a ^^^ b))
  | .eql => some (.bool (a == b))
  | .neq => some (.bool (a != b))
  | .lss => some (.bool (decide (a < b)))
  | .leq => some (.bool (decide (a ≤ b)))
  | .gtr => some (.bool (decide (b < a)))
  | .geq => some (.bool (decide (b ≤ a)))
  | .rem => if b = 0 then none else some (.b8 (a % b))
  | .quo => if b = 0 then none else some (.b8 (a / b))
  | _ => none

def binI (op : BinOp) (k : IntKind) (a b : Int) : Option PV :=
  match op with
  | .add => some (.int k (k.wrap (a + b)))
  | .sub => some (.int k (k.wrap (a - b)))
  | .mul => some (.int k (k.wrap (a * b)))
  | .quo => if b = 0 then none else some (.int k (k.wrap (a.tdiv b)))
  | .rem => if b = 0 then none else some (.int k (a.tmod b))
  | .and => some (.int k (k.wrap ((BitVec.ofInt k.bits a &&& BitVec.ofInt k.bits b).toNat)))
  | .or => some (.int k (k.wrap ((BitVec.ofInt k.bits a ||| BitVec.ofInt k.bits b).toNat)))
  | .xor => some (.int k (k.wrap ((BitVec.ofInt k.bits a ^^^ BitVec.ofInt k.bits b).toNat)))
  | .eql => some (.bool (a == b))
  | .neq => some (.bool (a != b))
  | .lss => some (.bool (decide (a < b)))
  | .leq => some (.bool (decide (a ≤ b)))
  | .gtr => some (.bool (decide (a > b)))
  | .geq => some (.bool (decide (a ≥ b)))
  | _ => none

def shI (op : BinOp) (k : IntKind) (a n : Int) : Option PV :=
  if n < 0 then none else
  match op with
  | .shl => some (.int k (k.wrap (a * 2 ^ (min n.toNat k.bits))))
  | .shr => some (.int k (a.fdiv (2 ^ (min n.toNat k.bits))))
  | _ => none

def sh8 (op : BinOp) (a : UInt8) (n : Int) : Option PV :=
  if n < 0 then none else
  match op with
  | .shl => some (.b8 (UInt8.ofNat (a.toNat * 2 ^ (min n.toNat 8))))
  | .shr => some (.b8 (UInt8.ofNat (a.toNat / 2 ^ (min n.toNat 8))))
  | _ => none

def binS (op : BinOp) (a b : List UInt8) : Option PV :=
  match op with
  | .add => if a.length + b.length ≤ 9223372036854775807 then some (.str (a ++ b)) else none
  | .eql => some (.bool (a == b))
  | .neq => some (.bool (a != b))
  | .lss => some (.bool (Op.bytesLess a b))
  | .leq => some (.bool (Op.bytesLess a b || a == b))
  | .gtr => some (.bool (!(Op.bytesLess a b || a == b)))
  | .geq => some (.bool (!Op.bytesLess a b))
  | _ => none

def eqLeaf : FK → PV → PV → Option Bool
  | .b, .bool a, .bool b => some (a == b)
  | .i, .b8 a, .b8 b => some (a == b)
  | .i, .int k a, .int k' b => if k = k' then some (a == b) else none
  | .s, .str a, .str b => some (a == b)
  | _, _, _ => none

def eqCells : List FK → List PV → List PV → Option Bool
  | [], [], [] => some true
  | k :: ks, a :: as, b :: bs => match eqLeaf k a b with
    | some true => eqCells ks as bs
    | some false => some false
    | none => none
  | _, _, _ => none

def eqPV : EK → PV → PV → Option Bool
  | .bool, .bool a, .bool b => some (a == b)
  | .ptr, .nilp, .nilp => some true
  | .ptr, .nilp, .ptr _ _ => some false
  | .ptr, .nilp, .cp _ => some false
  | .ptr, .ptr _ _, .nilp => some false
  | .ptr, .cp _, .nilp => some false
  | .slice, .nils, .nils => some true
  | .slice, .nils, .bys _ _ => some false
  | .slice, .nils, .sl _ _ _ => some false
  | .slice, .nils, .ms _ _ _ => some false
  | .slice, .bys _ _, .nils => some false
  | .slice, .sl _ _ _, .nils => some false
  | .slice, .ms _ _ _, .nils => some false
  | .func, .nilf, .nilf => some true
  | .func, .fn _ _, .nilf => some false
  | .func, .nilf, .fn _ _ => some false
  | .struct ks, .agg xs, .agg ys => eqCells ks xs ys
  | _, _, _ => none

def binPV (op : BinOp) (ek : EK) (x y : PV) : Option PV :=
  match x, y with
  | .b8 a, .b8 b => match op with
    | .shl | .shr => sh8 op a b.toNat
    | _ => bin8 op a b
  | .int k a, .int k' b => match op with
    | .shl | .shr => shI op k a b
    | _ => if k = k' then binI op k a b else none
  | .int k a, .b8 b => match op with
    | .shl | .shr => shI op k a b.toNat
    | _ => none
  | .b8 a, .int _ b => match op with
    | .shl | .shr => sh8 op a b
    | _ => none
  | .str a, .str b => binS op a b
  | x, y => match op with
    | .eql => (eqPV ek x y).map .bool
    | .neq => (eqPV ek x y).map fun b => .bool !b
    | _ => none

def unPV (op : UnOp) (x : PV) : Option PV :=
  match op, x with
  | .not, .bool b => some (.bool !b)
  | .neg, .int k n => some (.int k (k.wrap (0 - n)))
  | _, _ => none

def cIntPV (k : IntKind) (x : PV) : Option PV :=
  match x with
  | .int _ n => match k with
    | .u8 => some (.b8 (UInt8.ofNat (IntKind.u8.wrap n).toNat))
    | k => some (.int k (k.wrap n))
  | .b8 b => match k with
    | .u8 => some (.b8 b)
    | .i8 => some (.int .i8 (IntKind.i8.wrap b.toNat))
    | k => some (.int k b.toNat)
  | _ => none

/-! ### Plain values: no place in memory that may turn, no token -/
mutual
def PV.data : PV → Bool
  | .undef | .bool _ | .b8 _ | .int _ _ | .str _ | .nilp | .nils | .nilf | .nili => true
  | .bys t _ => t.isNo
  | .sl _ t xs => t.isNo && dataAll xs
  | .agg cs => dataAll cs
  | _ => false
def dataAll : List PV → Bool
  | [] => true
  | x :: xs => x.data && dataAll xs
end

/-- A leaf without its token; none: it may not stand in a row of values that do not turn. -/
def stripLeaf : PV → Option PV
  | .bool b => some (.bool b)
  | .b8 b => some (.b8 b)
  | .int k n => some (.int k n)
  | .str s => some (.str s)
  | .nilp => some .nilp
  | .nils => some .nils
  | .nilf => some .nilf
  | .nili => some .nili
  | .bys _ l => some (.bys .no l)
  | .sl e _ xs => some (.sl e .no xs)
  | _ => none

def stripAll : List PV → Option (List PV)
  | [] => some []
  | x :: xs => match stripLeaf x, stripAll xs with
    | some y, some ys => some (y :: ys)
    | _, _ => none

def strip : PV → Option PV
  | .agg cs => (stripAll cs).map .agg
  | v => stripLeaf v

/-- All boxes that a value leads to are below n; no yield. -/
def PV.inB (n : Nat) : PV → Bool
  | .ptr b _ => decide (b < n)
  | .ms b _ _ => decide (b < n)
  | .fn _ cap => inBAll n cap
  | .agg cs => inBAll n cs
  | .tup vs => inBAll n vs
  | .yld _ => false
  | _ => true
where inBAll (n : Nat) : List PV → Bool
  | [] => true
  | x :: xs => x.inB n && inBAll n xs

def tokOf : PV → Option Nat
  | .bys (.own i) _ => some i
  | .sl _ (.own i) _ => some i
  | _ => none

def hasTok (cs : List PV) : Bool := cs.any fun c => (tokOf c).isSome

/-- What a closure may hold: boxes, functions, plain values: no token. -/
def capOk : PV → Bool
  | .ptr _ _ => true
  | .fn _ _ => true
  | p => p.data

/-! ### Memory -/
def readCells (ag : Bool) (sz : Nat) (cells : List PV) : Option PV :=
  if ag then (if sz ≤ cells.length then some (.agg (cells.take sz)) else none)
  else match cells with
    | v :: _ => some v
    | [] => none

def loadPV (st : St) (ag : Bool) (sz : Nat) : PV → Option PV
  | .cp cells => readCells ag sz cells
  | .ptr b off => match st.boxes[b]? with
    | some cs => readCells ag sz (cs.drop off)
    | none => none
  | _ => none

def leafOk : PV → Bool
  | .agg _ | .tup _ | .undef => false
  | _ => true

def setCells (cs : List PV) (off : Nat) : List PV → List PV
  | [] => cs
  | v :: vs => setCells (cs.set off v) (off + 1) vs

def storePV (st : St) (sz : Nat) (a x : PV) : Option St :=
  match a with
  | .ptr b off => match st.boxes[b]? with
    | some cs =>
      if x.cells.length = sz ∧ off + sz ≤ cs.length ∧ x.inB b = true ∧ x.cells.all leafOk = true then
        some { st with boxes := st.boxes.set b (setCells cs off x.cells), low := if hasTok x.cells then min st.low b else st.low }
      else none
    | none => none
  | _ => none

def allocPV (st : St) (cells : List PV) : PV × St := (.ptr st.boxes.length 0, { st with boxes := st.boxes ++ [cells] })

def freshT (st : St) : Tok × St := (.own st.toks.length, { st with toks := st.toks ++ [true] })

def buildCells (cells : List PV) : List (Nat × Nat × PV) → Option (List PV)
  | [] => some cells
  | (off, sz, v) :: rest =>
    if v.cells.length = sz ∧ off + sz ≤ cells.length ∧ v.cells.all leafOk = true then buildCells (setCells cells off v.cells) rest else none

def bytesOf : List PV → Option (List UInt8)
  | [] => some []
  | .b8 b :: r => (bytesOf r).map (b :: ·)
  | _ :: _ => none

def lit8Fill (l : List UInt8) : List (Nat × PV) → Option (List UInt8)
  | [] => some l
  | (i, .b8 b) :: rest => if i < l.length then lit8Fill (l.set i b) rest else none
  | _ :: _ => none

def litFill (esz : Nat) (l : List PV) : List (Nat × PV) → Option (List PV)
  | [] => some l
  | (i, v) :: rest => match strip v with
    | some u => if i < l.length ∧ u.cells.length = esz then litFill esz (l.set i u) rest else none
    | none => none

/-- What a source of append holds. -/
def src8 (st : St) : PV → Option (List UInt8)
  | .nils => some []
  | .str s => some s
  | .bys _ l => some l
  | .ms b off n => match st.boxes[b]? with
    | some cs => if off + n ≤ cs.length then bytesOf ((cs.drop off).take n) else none
    | none => none
  | _ => none

/-- Bytes as a text; of memory that may turn just where that is looked for. -/
def b2s (mu : Bool) (st : St) : PV → Option (List UInt8)
  | .nils => some []
  | .bys _ l => some l
  | .ms b off n => if mu then src8 st (.ms b off n) else none
  | _ => none

def srcV (esz : Nat) : PV → Option (List PV)
  | .nils => some []
  | .sl e _ xs => if e = esz then some xs else none
  | _ => none

def room : Nat := 68719476736

def appTok (st : St) : Tok → Option St
  | .own i => if st.toks[i]? = some true then some { st with toks := st.toks.set i false } else none
  | .ex => some st
  | .no => none

def app8 (st : St) (s x : PV) : Option (PV × St) :=
  match src8 st x with
  | none => none
  | some new =>
    match s with
    | .nils => if new = [] then some (.nils, st) else
        if new.length ≤ room then some (.bys (freshT st).1 new, (freshT st).2) else none
    | .bys t l => if new = [] then some (.bys t l, st) else
        if l.length + new.length ≤ room then
          match appTok st t with
          | some st1 => some (.bys (freshT st1).1 (l ++ new), (freshT st1).2)
          | none => none
        else none
    | _ => none

def appV (esz : Nat) (st : St) (s x : PV) : Option (PV × St) :=
  match srcV esz x with
  | none => none
  | some new =>
    match s with
    | .nils => if new = [] then some (.nils, st) else
        if new.length ≤ room then some (.sl esz (freshT st).1 new, (freshT st).2) else none
    | .sl e t l => if e = esz then (if new = [] then some (.sl e t l, st) else
        if l.length + new.length ≤ room then
          match appTok st t with
          | some st1 => some (.sl e (freshT st1).1 (l ++ new), (freshT st1).2)
          | none => none
        else none) else none
    | _ => none

def intOf : PV → Option Int
  | .int _ n => some n
  | .b8 b => some b.toNat
  | _ => none

/-- An optional bound: its number, if it lies between 0 and y. -/
def bnd (y : Nat) (d : Nat) : Option PV → Option Nat
  | none => some d
  | some v => match intOf v with
    | some i => if 0 ≤ i ∧ i ≤ y then some i.toNat else none
    | none => none

def sufTok (t : Tok) (hi mx : Option PV) (h m : Nat) : Tok :=
  match hi, mx with
  | none, _ => t
  | some _, none => .no
  | some _, some _ => if h = m then .ex else .no

def slcPV (esz : Nat) (x : PV) (lo hi mx : Option PV) : Option PV :=
  let n : Option Nat := match x with
    | .str s => some s.length | .nils => some 0 | .bys _ l => some l.length | .sl _ _ xs => some xs.length | .ms _ _ len => some len | _ => none
  match n with
  | none => none
  | some n => match bnd n n mx with
    | none => none
    | some m => match bnd m n hi with
      | none => none
      | some h => match bnd h 0 lo with
        | none => none
        | some l => match x with
          | .str s => if mx.isSome ∨ esz ≠ 0 then none else some (.str ((s.take h).drop l))
          | .nils => if esz = 0 then none else some .nils
          | .bys t s => if esz = 1 then some (.bys (sufTok t hi mx h m) ((s.take h).drop l)) else none
          | .sl e t xs => if e = esz ∧ esz ≠ 0 then some (.sl e (sufTok t hi mx h m) ((xs.take h).drop l)) else none
          | .ms b off _ => if esz = 0 then none else some (.ms b (off + l * esz) (h - l))
          | _ => none

def faddrPV (off : Nat) : PV → Option PV
  | .ptr b o => some (.ptr b (o + off))
  | .cp cells => some (.cp (cells.drop off))
  | _ => none

def fldPV (ag : Bool) (off sz : Nat) : PV → Option PV
  | .agg cells => readCells ag sz (cells.drop off)
  | _ => none

def iaddrPV (esz : Nat) (x i : PV) : Option PV :=
  match intOf i with
  | none => none
  | some i => match x with
    | .bys _ l => if esz = 1 ∧ 0 ≤ i ∧ i < l.length then some (.cp [.b8 (l.getD i.toNat 0)]) else none
    | .sl e _ xs => if e = esz ∧ 0 ≤ i ∧ i < xs.length then some (.cp (xs.getD i.toNat .undef).cells) else none
    | .ms b off n => if 0 ≤ i ∧ i < n then some (.ptr b (off + i.toNat * esz)) else none
    | _ => none

def iaddrAPV (len esz : Nat) (x i : PV) : Option PV :=
  match intOf i with
  | none => none
  | some i => if 0 ≤ i ∧ i < len then faddrPV (i.toNat * esz) x else none

def idxPV (len : Nat) (ag : Bool) (esz : Nat) (x i : PV) : Option PV :=
  match intOf i with
  | none => none
  | some i => match x with
    | .agg cells => if 0 ≤ i ∧ i < len then readCells ag esz (cells.drop (i.toNat * esz)) else none
    | _ => none

def idxSPV (x i : PV) : Option PV :=
  match intOf i with
  | none => none
  | some i => match x with
    | .str s => if 0 ≤ i ∧ i < s.length then some (.b8 (s.getD i.toNat 0)) else none
    | _ => none

def lenPV : Bool → PV → Option PV
  | true, .str s => some (.int .i64 s.length)
  | false, .nils => some (.int .i64 0)
  | false, .bys _ l => some (.int .i64 l.length)
  | false, .sl _ _ xs => some (.int .i64 xs.length)
  | false, .ms _ _ n => some (.int .i64 n)
  | _, _ => none

def mnmxPV (mx : Bool) : List PV → Option PV
  | [.int k a, .int k' b] => if k = k' then some (.int k (if mx then max a b else min a b)) else none
  | [.int k a, .int k' b, .int k'' c] => if k = k' ∧ k = k'' then some (.int k (if mx then max (max a b) c else min (min a b) c)) else none
  | _ => none

def extPV (k : Nat) : PV → Option PV
  | .tup vs => vs[k]?
  | _ => none

def nilckPV : PV → Option PV
  | .ptr b o => some (.ptr b o)
  | .cp c => some (.cp c)
  | .fn f c => some (.fn f c)
  | .yld k => some (.yld k)
  | _ => none

/-- 'cont': how a function value is called. -/
def evOp (callV : PV → List PV → St → Option (PV × St)) (op : AOp) (e : Env) (st : St) : Option (PV × St) :=
  let p (v : Option PV) : Option (PV × St) := v.map fun v => (v, st)
  match op with
  | .mov x => some (x.ev e, st)
  | .pick c a b => match c.ev e with
    | .bool t => some (if t then a.ev e else b.ev e, st)
    | _ => none
  | .alloc zero => some (allocPV st zero)
  | .box x => if (x.ev e).inB st.boxes.length = true ∧ (x.ev e).cells.all leafOk = true then some (allocPV st (x.ev e).cells) else none
  | .build zero parts => p ((buildCells zero (parts.map fun q => (q.1, q.2.1, q.2.2.ev e))).map .agg)
  | .lit8 len parts => match lit8Fill (List.replicate len 0) (parts.map fun q => (q.1, q.2.ev e)) with
    | some l => some (.bys (freshT st).1 l, (freshT st).2)
    | none => none
  | .lit esz zero len parts => match litFill esz (List.replicate len zero) (parts.map fun q => (q.1, q.2.ev e)) with
    | some l => some (.sl esz (freshT st).1 l, (freshT st).2)
    | none => none
  | .load ag sz a => p (loadPV st ag sz (a.ev e))
  | .store sz a x => (storePV st sz (a.ev e) (x.ev e)).map fun st' => (.undef, st')
  | .nilck x => p (nilckPV (x.ev e))
  | .bin op ek x y => p (binPV op ek (x.ev e) (y.ev e))
  | .un op x => p (unPV op (x.ev e))
  | .cInt k x => p (cIntPV k (x.ev e))
  | .cS2B mu x => match x.ev e with
    | .str s =>
      if mu then some (.ms st.boxes.length 0 s.length, { st with boxes := st.boxes ++ [s.map .b8] })
      else some (.bys (freshT st).1 s, (freshT st).2)
    | _ => none
  | .cB2S mu x => p ((b2s mu st (x.ev e)).map .str)
  | .cStr x => match x.ev e with
    | .str s => some (.str s, st)
    | _ => none
  | .cSame x => match x.ev e with
    | .bys (.own i) l => if st.toks[i]? = some true then some (.bys (.own i) l, st) else none
    | _ => none
  | .mkfn f caps => if (caps.map (·.ev e)).all capOk = true then some (.fn f (caps.map (·.ev e)), st) else none
  | .mk8 mu l c => match l.ev e, c.ev e with
    | .int _ l, .int _ c =>
      if 0 ≤ l ∧ l ≤ c ∧ c ≤ room then
        (if mu then some (.ms st.boxes.length 0 l.toNat, { st with boxes := st.boxes ++ [List.replicate l.toNat (.b8 0)] })
        else some (.bys (freshT st).1 (List.replicate l.toNat 0), (freshT st).2))
      else none
    | _, _ => none
  | .mkms zero l c => match l.ev e, c.ev e with
    | .int _ l, .int _ c =>
      if 0 ≤ l ∧ l ≤ c ∧ c ≤ room then
        some (.ms st.boxes.length 0 l.toNat, { st with boxes := st.boxes ++ [(List.replicate l.toNat zero).flatten] })
      else none
    | _, _ => none
  | .slc esz x lo hi mx => p (slcPV esz (x.ev e) (lo.map (·.ev e)) (hi.map (·.ev e)) (mx.map (·.ev e)))
  | .faddr off x => p (faddrPV off (x.ev e))
  | .fld ag off sz x => p (fldPV ag off sz (x.ev e))
  | .iaddr esz x i => p (iaddrPV esz (x.ev e) (i.ev e))
  | .iaddrA len esz x i => p (iaddrAPV len esz (x.ev e) (i.ev e))
  | .idx len ag esz x i => p (idxPV len ag esz (x.ev e) (i.ev e))
  | .idxS x i => p (idxSPV (x.ev e) (i.ev e))
  | .ext k x => p (extPV k (x.ev e))
  | .len s x => p (lenPV s (x.ev e))
  | .app u8 esz s x => if u8 then app8 st (s.ev e) (x.ev e) else appV esz st (s.ev e) (x.ev e)
  | .mnmx mx xs => p (mnmxPV mx (xs.map (·.ev e)))
  | .call f args => callV (f.ev e) (args.map (·.ev e)) st

def wantedA (g : Option (Nat × Bool)) (e : Env) : Bool :=
  match g with
  | none => true
  | some (d, want) => match e d with
    | .bool b => b == want
    | _ => false

def evOps (callV : PV → List PV → St → Option (PV × St)) : List AOper → Env → St → Option (Env × St)
  | [], e, st => some (e, st)
  | o :: rest, e, st =>
    if wantedA o.guard e then
      match evOp callV o.op e st with
      | some (v, st') => evOps callV rest (updO e o.dst v) st'
      | none => none
    else evOps callV rest (updO e o.dst .undef) st

def findLabelA : ACode → Nat → Option ACode
  | .seq a b, l =>
    match findLabelA a l with
    | some rest => some (.seq rest b)
    | none => findLabelA b l
  | .label l', l => if l' == l then some .skip else none
  | _, _ => none

def updAll (e : Env) : List Nat → List PV → Env
  | p :: ps, v :: vs => updAll (upd e p v) ps vs
  | _, _ => e

def rv1 (e : Env) (st : St) : RV → Option PV
  | .tmp t => some (e t)
  | .cell t ag sz => loadPV st ag sz (e t)

def rvAll (e : Env) (st : St) : List RV → Option (List PV)
  | [] => some []
  | r :: rs => match rv1 e st r, rvAll e st rs with
    | some v, some vs => some (v :: vs)
    | _, _ => none

def notTup : PV → Bool
  | .tup _ => false
  | _ => true

def packRes : List PV → PV
  | [v] => v
  | vs => .tup vs

def resOf (e : Env) (st : St) (rs : List RV) : Option PV :=
  match rvAll e st rs with
  | some vs => if vs.all notTup = true then some (packRes vs) else none
  | none => none

/-- The tokens of a result, put in order behind the caller's: acc: what has been kept so far (old numbers). -/
def keepTok (n : Nat) (toks : List Bool) (acc : List Nat) : Tok → Tok × List Nat
  | .own i => if i < n then (.own i, acc) else
      if toks[i]? = some true ∧ ¬ i ∈ acc then (.own (n + acc.length), acc ++ [i]) else (.no, acc)
  | t => (t, acc)

def keepLeaf (n : Nat) (toks : List Bool) (acc : List Nat) : PV → PV × List Nat
  | .bys t l => let r := keepTok n toks acc t; (.bys r.1 l, r.2)
  | .sl e t xs => let r := keepTok n toks acc t; (.sl e r.1 xs, r.2)
  | v => (v, acc)

def keepCells (n : Nat) (toks : List Bool) (acc : List Nat) : List PV → List PV × List Nat
  | [] => ([], acc)
  | v :: vs => let r := keepLeaf n toks acc v; let s := keepCells n toks r.2 vs; (r.1 :: s.1, s.2)

def keepVal (n : Nat) (toks : List Bool) (acc : List Nat) : PV → PV × List Nat
  | .agg cs => let r := keepCells n toks acc cs; (.agg r.1, r.2)
  | v => keepLeaf n toks acc v

def keepVals (n : Nat) (toks : List Bool) (acc : List Nat) : List PV → List PV × List Nat
  | [] => ([], acc)
  | v :: vs => let r := keepVal n toks acc v; let s := keepVals n toks r.2 vs; (r.1 :: s.1, s.2)

def keepRes (n : Nat) (toks : List Bool) : PV → PV × List Nat
  | .tup vs => let r := keepVals n toks [] vs; (.tup r.1, r.2)
  | v => keepVal n toks [] v

/-- Behind a call: what the caller keeps. -/
def leave (st st1 : St) (v : PV) : PV × St :=
  if v.inB st.boxes.length = true then
    if st.boxes.length ≤ st1.low then
      let r := keepRes st.toks.length st1.toks v
      (r.1, { boxes := st1.boxes.take st.boxes.length, toks := st1.toks.take st.toks.length ++ List.replicate r.2.length true, loops := st1.loops, low := st.low })
    else (v, { boxes := st1.boxes.take st.boxes.length, toks := st1.toks, loops := st1.loops, low := min st.low st1.low })
  else (v, { boxes := st1.boxes, toks := st1.toks, loops := st1.loops, low := min st.low st1.low })

def env0 (args : List PV) : Env := fun t => args.getD t .undef

mutual
def evC (A : AP) : Nat → ACode → Env → St → Option (Ex × Env × St)
  | 0, _, _, _ => none
  | n + 1, c, e, st =>
    match c with
    | .skip => some (.normal, e, st)
    | .label _ => some (.normal, e, st)
    | .exit id => some (.exit id, e, st)
    | .goto l => some (.goto l, e, st)
    | .ret => some (.ret, e, st)
    | .region ops => match evOps (evV A n) ops e st with
      | some (e', st') => some (.normal, e', st')
      | none => none
    | .seq a b => match evC A n a e st with
      | some (.normal, e', st') => evC A n b e' st'
      | r => r
    | .cond c a b => match c.ev e with
      | .bool true => evC A n a e st
      | .bool false => evC A n b e st
      | _ => none
    | .block id b => match evC A n b e st with
      | some (.exit i, e', st') => some (if i = id then .normal else .exit i, e', st')
      | r => r
    | .loop b => match evC A n b e st with
      | some (.normal, e', st') => evC A n (.loop b) e' st'
      | r => r
    | .scope b => evC A n (.scopeAt b b) e st
    | .scopeAt b cur => match evC A n cur e st with
      | some (.goto l, e', st') => match findLabelA b l with
        | some rest => evC A n (.scopeAt b rest) e' st'
        | none => some (.goto l, e', st')
      | r => r
    | .rangeFunc f ps assign body =>
      match f.ev e with
      | .fn fid caps => match A fid with
        | some (.code _) =>
          match evV A n (.fn fid caps) [.yld st.loops.length] { st with loops := st.loops ++ [{ env := e, params := ps, assign, body, status := 0, pend := .normal }] } with
          | some (_, st1) => match st1.loops[st.loops.length]? with
            | some r => if r.status = 1 then none else some (r.pend, e, { st1 with loops := st1.loops.take st.loops.length })
            | none => none
          | none => none
        | _ => none
      | _ => none

def evV (A : AP) : Nat → PV → List PV → St → Option (PV × St)
  | 0, _, _, _ => none
  | n + 1, f, args, st =>
    match f with
    | .fn f caps => match A f with
      | some (.prim p) => (p (args ++ caps)).map fun v => (v, st)
      | some (.code fn) => match evC A n fn.body (env0 (args ++ caps)) { st with low := st.boxes.length } with
        | some (.normal, e, st1) => (resOf e st1 fn.results).map fun v => leave st st1 v
        | some (.ret, e, st1) => (resOf e st1 fn.results).map fun v => leave st st1 v
        | _ => none
      | none => none
    | .yld k => match st.loops[k]? with
      | some r =>
        if r.status = 0 ∧ args.length = r.params.length then
          match evC A n r.assign (updAll r.env r.params args) st with
          | some (.normal, e1, s1) => match s1.loops[k]? with
            | some r1 => if r1.status = 0 then
                match evC A n r.body e1 { s1 with loops := s1.loops.set k { r1 with status := 1 } } with
                | some (x, _, s2) => match s2.loops[k]? with
                  | some r2 => some (.bool (decide (x = .normal)), { s2 with loops := s2.loops.set k { r2 with status := if x = .normal then 0 else 2, pend := x } })
                  | none => none
                | none => none
              else none
            | none => none
          | _ => none
        else none
      | none => none
    | _ => none
end

end Go.Ab
