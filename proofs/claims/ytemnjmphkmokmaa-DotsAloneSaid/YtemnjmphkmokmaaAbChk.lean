/-
  The check that abstract code belongs to a function's code.
-/
import Derived.Test.YtemnjmphkmokmaaAbRel
namespace Go.Ab
set_option linter.unusedVariables false
set_option linter.unusedSimpArgs false

def chkLeaf : Value → PV → Bool
  | .bool b, .bool b' => b == b'
  | .int k n, .b8 b => decide (k = .u8) && decide (n = b.toNat)
  | .int k n, .int k' n' => decide (k = k') && decide (n = n') && decide (k ≠ .u8)
  | .string s, .str l => decide (s.data.toList = l)
  | .pointer none, .nilp => true
  | .slice none 0 0, .nils => true
  | .nilFunc, .nilf => true
  | .nilIface, .nili => true
  | _, _ => false

def chkLeaves : List Value → List PV → Bool
  | [], [] => true
  | v :: vs, p :: ps => chkLeaf v p && chkLeaves vs ps
  | _, _ => false

def chkConst : Value → PV → Bool
  | .agg cs, .agg ps => chkLeaves cs.toList ps
  | .tuple cs, .undef => cs.isEmpty
  | v, p => chkLeaf v p

def chkOpd (g : GMap) : Operand → Opd → Bool
  | .tmp t, .tmp t' => t == t'
  | .const v, .const p => chkConst v p
  | .func f, .fn f' => g f == some f'
  | .global gi, .const (.cp ps) => match g.glob gi with
    | some vs => chkLeaves vs ps
    | none => false
  | _, _ => false

def chkOpds (g : GMap) : List Operand → List Opd → Bool
  | [], [] => true
  | a :: as, b :: bs => chkOpd g a b && chkOpds g as bs
  | _, _ => false

def chkOpdO (g : GMap) : Option Operand → Option Opd → Bool
  | none, none => true
  | some a, some b => chkOpd g a b
  | _, _ => false

def isAggT (P : Program) (t : TypeId) : Option Bool :=
  match P.underlying t with
  | some (.struct _) => some true
  | some (.array _ _) => some true
  | some _ => some false
  | none => none

def sizeT (P : Program) (t : TypeId) : Option Nat := (P.info? t).map (·.size)
def zeroT (P : Program) (t : TypeId) : Option Value := (P.info? t).bind (·.zero)
def bytesT (P : Program) (t : TypeId) : Option Nat := (P.info? t).map (·.bytes)

def sliceElem (P : Program) (t : TypeId) : Option TypeId :=
  match P.underlying t with
  | some (.slice e) => some e
  | _ => none

def isU8 (P : Program) (e : TypeId) : Bool :=
  match P.underlying e with
  | some (.int .u8) => true
  | _ => false

def intT (P : Program) (t : TypeId) : Option IntKind :=
  match P.underlying t with
  | some (.int k) => some k
  | _ => none

def isStrT (P : Program) (t : TypeId) : Bool :=
  match P.underlying t with
  | some .string => true
  | _ => false

def arrT (P : Program) (t : TypeId) : Option (Nat × TypeId) :=
  match P.underlying t with
  | some (.array n e) => some (n, e)
  | _ => none

def fieldsT (P : Program) (t : TypeId) : Option (Array Field) :=
  match P.underlying t with
  | some (.struct fs) => some fs
  | _ => none

def fkOK (P : Program) (t : TypeId) : FK → Bool
  | .b => match P.underlying t with | some .bool => true | _ => false
  | .i => match P.underlying t with | some (.int _) => true | _ => false
  | .s => match P.underlying t with | some .string => true | _ => false

/-- A struct whose fields are single cells, numbers, bools or texts, in order, none of them blank. -/
def eqFields (P : Program) : Nat → List Field → List FK → Bool
  | _, [], [] => true
  | i, f :: fs, k :: ks => decide (f.offset = i) && decide (f.name ≠ "_") && fkOK P f.type k && eqFields P (i + 1) fs ks
  | _, _, _ => false

def ekOK (P : Program) (t : TypeId) : EK → Bool
  | .no => true
  | .bool => match P.underlying t with | some .bool => true | _ => false
  | .ptr => match P.underlying t with | some (.pointer _) => true | _ => false
  | .slice => match P.underlying t with | some (.slice _) => true | _ => false
  | .func => match P.underlying t with | some (.func _ _ _) => true | _ => false
  | .struct ks => match P.underlying t with | some (.struct fs) => eqFields P 0 fs.toList ks && !P.stoodInHeld t && !P.eqGuardType P.depth t | _ => false

def chkPartsS (P : Program) (g : GMap) (fs : Array Field) : List (Nat × Operand) → List (Nat × Nat × Opd) → Bool
  | [], [] => true
  | (i, x) :: r, (off, sz, y) :: r' => (match fs[i]? with
      | some f => decide (f.offset = off) && decide (sizeT P f.type = some sz)
      | none => false) && chkOpd g x y && chkPartsS P g fs r r'
  | _, _ => false

def chkPartsA (g : GMap) (size : Nat) : List (Nat × Operand) → List (Nat × Nat × Opd) → Bool
  | [], [] => true
  | (i, x) :: r, (off, sz, y) :: r' => decide (off = i * size) && decide (sz = size) && chkOpd g x y && chkPartsA g size r r'
  | _, _ => false

def chkPartsL (g : GMap) : List (Nat × Operand) → List (Nat × Opd) → Bool
  | [], [] => true
  | (i, x) :: r, (j, y) :: r' => decide (i = j) && chkOpd g x y && chkPartsL g r r'
  | _, _ => false

def allFields (P : Program) (fs : Array Field) : Bool := fs.toList.all fun f => (sizeT P f.type).isSome

def chkBuiltin (P : Program) (g : GMap) (b : Builtin) (args : List Operand) (argTypes : Array TypeId) (a : AOp) : Bool :=
  match b, args, a with
  | .len, [x], .len st y => chkOpd g x y && (match argTypes[0]? with | some t => if st then isStrT P t else (sliceElem P t).isSome | none => false)
  | .append, [s, x], .app u8 esz s' x' => chkOpd g s s' && chkOpd g x x' && (match argTypes[0]?, argTypes[1]? with
      | some t, some xt => (match sliceElem P t with
          | some e => decide (sizeT P e = some esz) && decide (0 < esz) && (match bytesT P e with | some b => decide (0 < b) && decide (b ≤ 256) | none => false) && decide (intT P xt = none) && (P.underlying xt).isSome &&
              (match zeroT P e with | some z => decide (z.cells.size = esz) && z.cells.toList.all (fun v => match v with | .agg _ => false | .tuple _ => false | _ => true) | none => false) && (if u8 then isU8 P e && decide (esz = 1) else !isU8 P e)
          | none => false)
      | _, _ => false)
  | .max, xs, .mnmx true ys => chkOpds g xs ys
  | .min, xs, .mnmx false ys => chkOpds g xs ys
  | _, _, _ => false

def chkOp (P : Program) (g : GMap) (op : Op) (a : AOp) : Bool :=
  match op, a with
  | .move x, .mov y => chkOpd g x y
  | .assign x, .mov y => chkOpd g x y
  | .pick c x y, .pick c' x' y' => chkOpd g c c' && chkOpd g x x' && chkOpd g y y'
  | .alloc t, .alloc z => (match zeroT P t with | some v => chkLeaves v.cells.toList z | none => false)
  | .box t x, .box y => chkOpd g x y
  | .build t parts, .build z ps => (match zeroT P t with | some v => chkLeaves v.cells.toList z | none => false) &&
      (match P.underlying t with
       | some (.struct fs) => allFields P fs && chkPartsS P g fs parts.toList ps
       | some (.array _ e) => (match sizeT P e with | some n => chkPartsA g n parts.toList ps | none => false)
       | _ => false)
  | .buildSlice t len parts, .lit8 len' ps => decide (len = len') && decide (len ≤ 16777216) && (match sliceElem P t with
      | some e => isU8 P e && decide (sizeT P e = some 1) && (match zeroT P e with | some v => chkLeaf v (.b8 0) | none => false)
      | none => false) && chkPartsL g parts.toList ps
  | .buildSlice t len parts, .lit esz z len' ps => decide (len = len') && (match sliceElem P t with
      | some e => !isU8 P e && decide (sizeT P e = some esz) && decide (0 < esz) && decide (len * esz ≤ 16777216) && decide (z.cells.length = esz) &&
          (match zeroT P e with | some v => chkConst v z && chkLeaves v.cells.toList z.cells | none => false)
      | none => false) && chkPartsL g parts.toList ps
  | .load t x, .load ag sz y => chkOpd g x y && decide (isAggT P t = some ag) && (!ag || decide (sizeT P t = some sz))
  | .store t x v, .store sz x' v' => chkOpd g x x' && chkOpd g v v' && decide (sizeT P t = some sz)
  | .nilCheck x, .nilck y => chkOpd g x y
  | .binOp o t x y _, .bin o' ek x' y' => decide (o = o') && chkOpd g x x' && chkOpd g y y' && ekOK P t ek
  | .unOp o _ x, .un o' y => decide (o = o') && chkOpd g x y
  | .convert s d x, .cInt k y => chkOpd g x y && (P.underlying s).isSome && decide (intT P d = some k)
  | .convert s d x, .cS2B _ y => chkOpd g x y && (P.underlying s).isSome && (match sliceElem P d with | some e => isU8 P e | none => false)
  | .convert s d x, .cB2S _ y => chkOpd g x y && isStrT P d && (match sliceElem P s with | some e => isU8 P e | none => false)
  | .convert s d x, .cStr y => chkOpd g x y && (P.underlying s).isSome && isStrT P d
  | .convert s d x, .cSame y => chkOpd g x y && decide (s = d) && (match sliceElem P s with | some e => isU8 P e | none => false)
  | .makeFunc (.func f) first caps, .mkfn f' cs => decide (g f = some f') && decide (first.size = 0) && chkOpds g caps.toList cs
  | .makeSlice t l c, .mk8 _ l' c' => chkOpd g l l' && chkOpd g c c' && (match sliceElem P t with
      | some e => isU8 P e && decide (sizeT P e = some 1) && (match bytesT P e with | some b => decide (0 < b) && decide (b ≤ 256) | none => false) && (match zeroT P e with | some v => chkLeaf v (.b8 0) | none => false)
      | none => false)
  | .makeSlice t l c, .mkms z l' c' => chkOpd g l l' && chkOpd g c c' && (match sliceElem P t with
      | some e => decide (sizeT P e = some z.length) && decide (0 < z.length) && (match bytesT P e with | some b => decide (0 < b) && decide (b ≤ 256) | none => false) && (match zeroT P e with | some v => chkLeaves v.cells.toList z | none => false)
      | none => false)
  | .slice t x lo hi mx, .slc esz x' lo' hi' mx' => chkOpd g x x' && chkOpdO g lo lo' && chkOpdO g hi hi' && chkOpdO g mx mx' && (!mx.isSome || hi.isSome) &&
      (if esz = 0 then isStrT P t else (match sliceElem P t with | some e => decide (sizeT P e = some esz) | none => false))
  | .fieldAddr s x f, .faddr off y => chkOpd g x y && (match fieldsT P s with
      | some fs => (match fs[f]? with
          | some fd => decide (fd.offset = off) && (match sizeT P fd.type with | some n => decide (n ≠ 0) | none => false)
          | none => false)
      | none => false)
  | .field s x f, .fld ag off sz y => chkOpd g x y && (match fieldsT P s with
      | some fs => (match fs[f]? with
          | some fd => decide (fd.offset = off) && decide (isAggT P fd.type = some ag) && (!ag || decide (sizeT P fd.type = some sz))
          | none => false)
      | none => false)
  | .indexAddr t x i, .iaddr esz y j => chkOpd g x y && chkOpd g i j && (match sliceElem P t with | some e => decide (sizeT P e = some esz) | none => false)
  | .indexAddr t x i, .iaddrA len esz y j => chkOpd g x y && chkOpd g i j && (match arrT P t with | some (n, e) => decide (n = len) && decide (sizeT P e = some esz) | none => false)
  | .index t x i, .idx len ag esz y j => chkOpd g x y && chkOpd g i j && (match arrT P t with | some (n, e) => decide (n = len) && decide (isAggT P e = some ag) && decide (sizeT P e = some esz) | none => false)
  | .index t x i, .idxS y j => chkOpd g x y && chkOpd g i j && isStrT P t
  | .extract x k, .ext k' y => chkOpd g x y && decide (k = k')
  | .call c, a => (match c.callee with
      | .value f => (match a with | .call f' args' => chkOpd g f f' && chkOpds g c.args.toList args' | _ => false)
      | .builtin b => chkBuiltin P g b c.args.toList c.argTypes a
      | .invoke _ _ => false)
  | _, _ => false

def chkGuard (ops : Array Oper) : Option (Nat × Bool) → Option (Nat × Bool) → Bool
  | none, none => true
  | some (j, w), some (d, w') => decide ((ops[j]?).bind (·.dst) = some d) && w == w'
  | _, _ => false

def chkOper (P : Program) (g : GMap) (nt : Nat) (ops : Array Oper) (o : Oper) (a : AOper) : Bool :=
  decide (o.dst = a.dst) && (match a.dst with | some d => decide (d < nt) | none => true) && chkGuard ops o.guard a.guard && chkOp P g o.op a.op

def chkOpers (P : Program) (g : GMap) (nt : Nat) (ops : Array Oper) : List Oper → List AOper → Bool
  | [], [] => true
  | o :: os, a :: as => chkOper P g nt ops o a && chkOpers P g nt ops os as
  | _, _ => false

/-! ### Orders -/
inductive Cls where
  | pure | read | write
  deriving DecidableEq

def AOp.cls : AOp → Cls
  | .load .. => .read
  | .cB2S mu _ => if mu then .read else .pure
  | .alloc _ | .box _ | .lit8 .. | .lit .. | .store .. | .cS2B .. | .cSame _ | .mk8 .. | .mkms .. | .app .. | .call .. => .write
  | _ => .pure

def clsOk : Cls → Cls → Bool
  | .pure, _ => true
  | _, .pure => true
  | .read, .read => true
  | _, _ => false

def Opd.tmps : Opd → List Nat
  | .tmp t => [t]
  | _ => []
def tmpsOf (xs : List Opd) : List Nat := xs.flatMap Opd.tmps
def AOp.tmps : AOp → List Nat
  | .mov x | .box x | .nilck x | .un _ x | .cInt _ x | .cS2B _ x | .cB2S _ x | .cStr x | .cSame x | .faddr _ x | .fld _ _ _ x | .ext _ x | .len _ x | .load _ _ x => x.tmps
  | .pick c a b => tmpsOf [c, a, b]
  | .alloc _ => []
  | .build _ ps => tmpsOf (ps.map (·.2.2))
  | .lit8 _ ps => tmpsOf (ps.map (·.2))
  | .lit _ _ _ ps => tmpsOf (ps.map (·.2))
  | .store _ a x | .bin _ _ a x | .mk8 _ a x | .mkms _ a x | .iaddr _ a x | .iaddrA _ _ a x | .idx _ _ _ a x | .idxS a x | .app _ _ a x => tmpsOf [a, x]
  | .mkfn _ cs => tmpsOf cs
  | .slc _ x lo hi mx => tmpsOf ([x] ++ lo.toList ++ hi.toList ++ mx.toList)
  | .mnmx _ xs => tmpsOf xs
  | .call f xs => tmpsOf (f :: xs)

def AOper.looks (o : AOper) : List Nat := o.op.tmps ++ (match o.guard with | some (d, _) => [d] | none => [])

/-- Two operations that may change places. -/
def free (a b : AOper) : Bool :=
  clsOk a.op.cls b.op.cls &&
  (match a.dst with | some d => !b.looks.contains d && !(b.dst == some d) | none => true) &&
  (match b.dst with | some d => !a.looks.contains d | none => true)

/-- All that must stand ahead of an operation, as a number's bits. -/
def maskO (acc : List Nat) (o : Oper) : Nat := o.after.toList.foldl (fun s e => if Region.binds .any e then s ||| 2 ^ e.on ||| acc.getD e.on 0 else s) 0

def masks : List Oper → List Nat → List Nat
  | [], acc => acc
  | o :: os, acc => masks os (acc ++ [maskO acc o])

/-- Each two operations of which the later need not stand behind the earlier may change places. -/
def ordOK (ops : List Oper) (as : List AOper) : Bool :=
  (List.range as.length).all fun j => match as[j]? with
    | some aj => (List.range j).all fun i => match as[i]? with
        | some ai => ((masks ops []).getD j 0).testBit i || free ai aj
        | none => false
    | none => false

/-- The lexical order is one that the edges allow. -/
def lexOK (ops : List Oper) : Bool :=
  (List.range ops.length).all fun j => match ops[j]? with
    | some o => o.after.toList.all fun e => !Region.binds .any e || decide (e.on < j)
    | none => false

def chkCode (P : Program) (g : GMap) (nt : Nat) : Code → ACode → Bool
  | .skip, .skip => true
  | .region _ ops dr, .region as => chkOpers P g nt ops ops.toList as && (!dr || (ordOK ops.toList as && lexOK ops.toList))
  | .seq a b, .seq a' b' => chkCode P g nt a a' && chkCode P g nt b b'
  | .cond c a b, .cond c' a' b' => chkOpd g c c' && chkCode P g nt a a' && chkCode P g nt b b'
  | .block id b, .block id' b' => decide (id = id') && chkCode P g nt b b'
  | .loop b, .loop b' => chkCode P g nt b b'
  | .rangeFunc f ps asg b, .rangeFunc f' ps' asg' b' => chkOpd g f f' && decide (ps.toList = ps') && (ps'.all fun p => decide (p < nt)) && chkCode P g nt asg asg' && chkCode P g nt b b'
  | .exit id, .exit id' => decide (id = id')
  | .scope b, .scope b' => chkCode P g nt b b'
  | .label l, .label l' => decide (l = l')
  | .goto l, .goto l' => decide (l = l')
  | .ret, .ret => true
  | _, _ => false

def chkRV (P : Program) : ResultVar → RV → Bool
  | .tmp t, .tmp t' => decide (t = t')
  | .cell t ty, .cell t' ag sz => decide (t = t') && decide (isAggT P ty = some ag) && (!ag || decide (sizeT P ty = some sz))
  | _, _ => false

def chkRVs (P : Program) : List ResultVar → List RV → Bool
  | [], [] => true
  | r :: rs, q :: qs => chkRV P r q && chkRVs P rs qs
  | _, _ => false

def chkFn (P : Program) (g : GMap) (fn : Func) (a : ACFn) : Bool :=
  decide (fn.ntmps = a.nt) && chkRVs P fn.results.toList a.results && (match fn.body with | some c => chkCode P g a.nt c a.body | none => false) && decide (fn.name ≠ "runtime.NumGoroutine")

end Go.Ab
