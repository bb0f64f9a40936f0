/-
  What the abstract values stand for; and the check that abstract code belongs to a function's code.
-/
import Derived.Test.YtemnjmphkmokmaaAbCore
namespace Go.Ab
set_option linter.unusedVariables false
set_option linter.unusedSimpArgs false

/-- What is known of memory: cells that do not turn; the blocks of the boxes; of the loops; of the tokens (block, end, end of room). -/
structure K where
  C : Nat → Nat → Option Value
  φ : List Nat
  lam : List (Nat × Nat)
  τ : List (Nat × Nat × Nat)

/-- What has been learned since. -/
structure K.le (κ κ' : K) : Prop where
  C : ∀ b i v, κ.C b i = some v → κ'.C b i = some v
  φ : ∀ (i x : Nat), κ.φ[i]? = some x → κ'.φ[i]? = some x
  lam : ∀ (i : Nat) (x : Nat × Nat), κ.lam[i]? = some x → κ'.lam[i]? = some x
  τ : ∀ (i : Nat) (x : Nat × Nat × Nat), κ.τ[i]? = some x → κ'.τ[i]? = some x

theorem K.le.refl (κ : K) : K.le κ κ := ⟨fun _ _ _ h => h, fun _ _ h => h, fun _ _ h => h, fun _ _ h => h⟩
theorem K.le.trans {a b c : K} (h : K.le a b) (k : K.le b c) : K.le a c :=
  ⟨fun _ _ _ x => k.C _ _ _ (h.C _ _ _ x), fun _ _ x => k.φ _ _ (h.φ _ _ x), fun _ _ x => k.lam _ _ (h.lam _ _ x), fun _ _ x => k.τ _ _ (h.τ _ _ x)⟩

/-- The numbers of functions; what is known of memory from the beginning on; the variables that are known. -/
structure GMap where
  fn : FuncId → Option Nat
  inv : K → Prop
  mono : ∀ (κ κ' : K), (∀ (b i : Nat) (v : Value), κ.C b i = some v → κ'.C b i = some v) → inv κ → inv κ'
  glob : Nat → Option (List Value)
  globOK : ∀ (κ : K), inv κ → ∀ (gi : Nat) (vs : List Value), glob gi = some vs → ∀ (i : Nat) (v : Value), vs[i]? = some v → κ.C gi i = some v

instance : CoeFun GMap (fun _ => FuncId → Option Nat) := ⟨GMap.fn⟩

def flat (xs : List PV) : List PV := xs.flatMap PV.cells

/-- A token's word on a slice at 'off', n elements, room for c, of esz cells each. -/
def TokOK (κ : K) (t : Tok) (blk off n c esz : Nat) : Prop :=
  match t with
  | .no => True
  | .ex => n = c
  | .own i => ∃ e ce, κ.τ[i]? = some (blk, e, ce) ∧ (n < c → e = off + n * esz ∧ ce = off + c * esz)

inductive R (g : GMap) (κ : K) : Value → PV → Prop
  | undef : R g κ (.tuple #[]) .undef
  | bool (b : Bool) : R g κ (.bool b) (.bool b)
  | b8 (b : UInt8) (n : Int) (h : n = b.toNat) : R g κ (.int .u8 n) (.b8 b)
  | int (k : IntKind) (n : Int) (h : k ≠ .u8) : R g κ (.int k n) (.int k n)
  | str (s : ByteArray) (l : List UInt8) (h : s.data.toList = l) : R g κ (.string s) (.str l)
  | nilp : R g κ (.pointer none) .nilp
  | nils : R g κ (.slice none 0 0) .nils
  | nilf : R g κ .nilFunc .nilf
  | nili : R g κ .nilIface .nili
  | ptr (b off blk : Nat) (h : κ.φ[b]? = some blk) : R g κ (.pointer (some ⟨blk, off, none⟩)) (.ptr b off)
  | cp (blk off : Nat) (vs : List Value) (cells : List PV) (hl : vs.length = cells.length) (hc : ∀ (i : Nat) (v : Value), vs[i]? = some v → κ.C blk (off + i) = some v)
      (hr : ∀ (i : Nat) (v : Value) (p : PV), vs[i]? = some v → cells[i]? = some p → R g κ v p) (hd : dataAll cells = true) (hlf : cells.all leafOk = true) :
      R g κ (.pointer (some ⟨blk, off, none⟩)) (.cp cells)
  | bys (blk off n c : Nat) (t : Tok) (l : List UInt8) (hn : n = l.length) (hc : n ≤ c)
      (hb : ∀ (i : Nat) (b : UInt8), l[i]? = some b → κ.C blk (off + i) = some (.int .u8 b.toNat)) (ht : TokOK κ t blk off n c 1) :
      R g κ (.slice (some ⟨blk, off, none⟩) n c) (.bys t l)
  | sl (blk off n c esz : Nat) (t : Tok) (xs : List PV) (vs : List Value) (hn : n = xs.length) (hc : n ≤ c) (he : ∀ x ∈ xs, x.cells.length = esz) (hl : vs.length = (flat xs).length)
      (hv : ∀ (i : Nat) (v : Value), vs[i]? = some v → κ.C blk (off + i) = some v)
      (hr : ∀ (i : Nat) (v : Value) (p : PV), vs[i]? = some v → (flat xs)[i]? = some p → R g κ v p) (hd : dataAll xs = true) (hlf : (flat xs).all leafOk = true) (ht : TokOK κ t blk off n c esz) :
      R g κ (.slice (some ⟨blk, off, none⟩) n c) (.sl esz t xs)
  | ms (b off off' n c blk : Nat) (h : κ.φ[b]? = some blk) (hc : n ≤ c) (ho : n = 0 ∨ off' = off) : R g κ (.slice (some ⟨blk, off', none⟩) n c) (.ms b off n)
  | fn (f' f : Nat) (cv : Array Value) (cap : List PV) (h : g f' = some f) (hl : cv.size = cap.length) (hk : cap.all capOk = true)
      (hr : ∀ (i : Nat) (v : Value) (p : PV), cv[i]? = some v → cap[i]? = some p → R g κ v p) : R g κ (.func (.func f') #[] cv) (.fn f cap)
  | yld (k l d : Nat) (h : κ.lam[k]? = some (l, d)) : R g κ (.func (.yield l) #[] #[]) (.yld k)
  | agg (vs : Array Value) (ps : List PV) (hl : vs.size = ps.length) (hlf : ps.all leafOk = true)
      (hr : ∀ (i : Nat) (v : Value) (p : PV), vs[i]? = some v → ps[i]? = some p → R g κ v p) : R g κ (.agg vs) (.agg ps)
  | tup (vs : Array Value) (ps : List PV) (hl : vs.size = ps.length) (hnt : ps.all notTup = true)
      (hr : ∀ (i : Nat) (v : Value) (p : PV), vs[i]? = some v → ps[i]? = some p → R g κ v p) : R g κ (.tuple vs) (.tup ps)

theorem TokOK.mono {κ κ' : K} (h : ∀ (i : Nat) (x : Nat × Nat × Nat), κ.τ[i]? = some x → κ'.τ[i]? = some x) {t : Tok} {blk off n c esz : Nat} (ht : TokOK κ t blk off n c esz) : TokOK κ' t blk off n c esz := by
  cases t with
  | no => trivial
  | ex => exact ht
  | own i => obtain ⟨e, ce, h1, h2⟩ := ht; exact ⟨e, ce, h _ _ h1, h2⟩

theorem R.mono {g : GMap} {κ κ' : K} (hle : K.le κ κ') {v : Value} {p : PV} (h : R g κ v p) : R g κ' v p := by
  induction h with
  | undef => exact .undef
  | bool b => exact .bool b
  | b8 b n h => exact .b8 b n h
  | int k n h => exact .int k n h
  | str s l h => exact .str s l h
  | nilp => exact .nilp
  | nils => exact .nils
  | nilf => exact .nilf
  | nili => exact .nili
  | ptr b off blk h => exact .ptr b off blk (hle.φ _ _ h)
  | cp blk off vs cells hl hc hr hd hlf ih => exact .cp blk off vs cells hl (fun i v h => hle.C _ _ _ (hc i v h)) (fun i v p h1 h2 => ih i v p h1 h2) hd hlf
  | bys blk off n c t l hn hc hb ht => exact .bys blk off n c t l hn hc (fun i b h => hle.C _ _ _ (hb i b h)) (ht.mono hle.τ)
  | sl blk off n c esz t xs vs hn hc he hl hv hr hd hlf ht ih => exact .sl blk off n c esz t xs vs hn hc he hl (fun i v h => hle.C _ _ _ (hv i v h)) (fun i v p h1 h2 => ih i v p h1 h2) hd hlf (ht.mono hle.τ)
  | ms b off off' n c blk h hc ho => exact .ms b off off' n c blk (hle.φ _ _ h) hc ho
  | fn f' f cv cap h hl hk hr ih => exact .fn f' f cv cap h hl hk (fun i v p h1 h2 => ih i v p h1 h2)
  | yld k l d h => exact .yld k l d (hle.lam _ _ h)
  | agg vs ps hl hlf hr ih => exact .agg vs ps hl hlf (fun i v p h1 h2 => ih i v p h1 h2)
  | tup vs ps hl hnt hr ih => exact .tup vs ps hl hnt (fun i v p h1 h2 => ih i v p h1 h2)

theorem dataAll_get {xs : List PV} (h : dataAll xs = true) {i : Nat} {p : PV} (hp : xs[i]? = some p) : p.data = true := by
  induction xs generalizing i with
  | nil => simp at hp
  | cons x xs ih =>
    simp only [dataAll, Bool.and_eq_true] at h
    cases i with
    | zero => simp at hp; rw [← hp]; exact h.1
    | succ i => simp at hp; exact ih h.2 hp

theorem dataAll_append {xs ys : List PV} : dataAll (xs ++ ys) = (dataAll xs && dataAll ys) := by
  induction xs with
  | nil => simp [dataAll]
  | cons x xs ih => simp [dataAll, ih, Bool.and_assoc]

theorem data_cells {x : PV} (h : x.data = true) : dataAll x.cells = true := by
  cases x <;> simp_all [PV.cells, PV.data, dataAll]

theorem dataAll_flat {xs : List PV} (h : dataAll xs = true) : dataAll (flat xs) = true := by
  induction xs with
  | nil => simp [flat, dataAll]
  | cons x xs ih =>
    simp only [dataAll, Bool.and_eq_true] at h
    have := ih h.2
    simp only [flat, List.flatMap_cons] at *
    rw [dataAll_append, data_cells h.1, this]; rfl

theorem Tok.isNo_eq {t : Tok} (h : t.isNo = true) : t = .no := by cases t <;> simp_all [Tok.isNo]

/-- What is plain hangs on the cells alone. -/
theorem R.dataMono {g : GMap} {κ κ' : K} (hC : ∀ b i v, κ.C b i = some v → κ'.C b i = some v) {v : Value} {p : PV} (h : R g κ v p) (hd : p.data = true) : R g κ' v p := by
  induction h with
  | undef => exact .undef
  | bool b => exact .bool b
  | b8 b n h => exact .b8 b n h
  | int k n h => exact .int k n h
  | str s l h => exact .str s l h
  | nilp => exact .nilp
  | nils => exact .nils
  | nilf => exact .nilf
  | nili => exact .nili
  | ptr b off blk h => simp [PV.data] at hd
  | cp blk off vs cells hl hc hr hd hlf ih => simp_all [PV.data]
  | bys blk off n c t l hn hc hb ht =>
    simp only [PV.data] at hd
    obtain rfl := Tok.isNo_eq hd
    exact .bys blk off n c .no l hn hc (fun i b h => hC _ _ _ (hb i b h)) trivial
  | sl blk off n c esz t xs vs hn hc he hl hv hr hd' hlf ht ih =>
    simp only [PV.data, Bool.and_eq_true] at hd
    obtain rfl := Tok.isNo_eq hd.1
    exact .sl blk off n c esz .no xs vs hn hc he hl (fun i v h => hC _ _ _ (hv i v h)) (fun i v p h1 h2 => ih i v p h1 h2 (dataAll_get (dataAll_flat hd') h2)) hd' hlf trivial
  | ms b off off' n c blk h hc ho => simp [PV.data] at hd
  | fn f' f cv cap h hl hk hr ih => simp [PV.data] at hd
  | yld k l d h => simp [PV.data] at hd
  | agg vs ps hl hlf hr ih =>
    simp only [PV.data] at hd
    exact .agg vs ps hl hlf (fun i v p h1 h2 => ih i v p h1 h2 (dataAll_get hd h2))
  | tup vs ps hl hnt hr ih => simp [PV.data] at hd

/-- The cells of a value and of its abstraction. -/
theorem R.cells {g : GMap} {κ : K} {v : Value} {p : PV} (h : R g κ v p) : v.cells.size = p.cells.length ∧ ∀ (i : Nat) (u : Value) (q : PV), v.cells[i]? = some u → p.cells[i]? = some q → R g κ u q := by
  cases h with
  | agg vs ps hl hlf hr => exact ⟨hl, hr⟩
  | _ =>
    refine ⟨rfl, fun i u q h1 h2 => ?_⟩
    rcases i with _ | i
    · simp [Value.cells, PV.cells] at h1 h2
      subst h1 h2
      first | constructor <;> assumption | (constructor <;> first | assumption | rfl)
    · simp [Value.cells] at h1

end Go.Ab
