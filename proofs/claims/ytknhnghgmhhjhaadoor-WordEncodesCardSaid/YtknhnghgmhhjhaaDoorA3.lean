/-
  Operations on what is known of values: numbers that are naturals, slices of bytes.
-/
import Derived.Test.YtknhnghgmhhjhaaDoorA2
import Derived.ProofKit
import Derived.HandedShaped
import Derived.Deep.Slices
import Derived.Test.YtknhnghgmhhjhaaDoorA1
namespace Go.Ab
set_option linter.unusedVariables false
set_option linter.unusedSimpArgs false
variable {A : AP} {st : St} {e : Env}

theorem by_cases' {x : PV} {l : List UInt8} (h : x.by = some l) : (x = .nils ∧ l = []) ∨ ∃ t, x = .bys t l := by
  cases x <;> simp [PV.by] at h
  · exact .inl ⟨rfl, h⟩
  · subst h; exact .inr ⟨_, rfl⟩

theorem wrap64 {n : Int} (h1 : -9223372036854775808 ≤ n) (h2 : n < 9223372036854775808) : IntKind.i64.wrap n = n := by
  unfold IntKind.wrap
  simp only [IntKind.signed, IntKind.bits]
  simp
  omega

/-! ### Numbers -/
theorem add_n {ek : EK} {a : Nat} {c : Int} (h1 : 0 ≤ c) (h2 : a + c.toNat < 9223372036854775808) : binPV .add ek (.int .i64 (a : Int)) (.int .i64 c) = some (.int .i64 ((a + c.toNat : Nat) : Int)) := by
  simp only [binPV, binI, reduceIte, Option.some.injEq]
  rw [wrap64 (by omega) (by omega)]
  congr 1; omega
theorem sub_n {ek : EK} {a : Nat} {c : Int} (h1 : 0 ≤ c) (h2 : c.toNat ≤ a) (h3 : a < 9223372036854775808) : binPV .sub ek (.int .i64 (a : Int)) (.int .i64 c) = some (.int .i64 ((a - c.toNat : Nat) : Int)) := by
  simp only [binPV, binI, reduceIte, Option.some.injEq]
  rw [wrap64 (by omega) (by omega)]
  congr 1; omega
theorem add_i {ek : EK} {a c : Int} (h1 : -9223372036854775808 ≤ a + c) (h2 : a + c < 9223372036854775808) : binPV .add ek (.int .i64 a) (.int .i64 c) = some (.int .i64 (a + c)) := by
  simp only [binPV, binI, reduceIte, Option.some.injEq]
  rw [wrap64 (by omega) (by omega)]
theorem sub_i {ek : EK} {a c : Int} (h1 : -9223372036854775808 ≤ a - c) (h2 : a - c < 9223372036854775808) : binPV .sub ek (.int .i64 a) (.int .i64 c) = some (.int .i64 (a - c)) := by
  simp only [binPV, binI, reduceIte, Option.some.injEq]
  rw [wrap64 (by omega) (by omega)]
theorem qbpz {k : IntKind} {ek : EK} {a c : Int} : binPV .lss ek (.int k a) (.int k c) = some (.bool (decide (a < c))) := by simp [binPV, binI]
theorem qbqz {k : IntKind} {ek : EK} {a c : Int} : binPV .leq ek (.int k a) (.int k c) = some (.bool (decide (a ≤ c))) := by simp [binPV, binI]
theorem qbrz {k : IntKind} {ek : EK} {a c : Int} : binPV .gtr ek (.int k a) (.int k c) = some (.bool (decide (c < a))) := by simp [binPV, binI]
theorem qbsz {k : IntKind} {ek : EK} {a c : Int} : binPV .geq ek (.int k a) (.int k c) = some (.bool (decide (c ≤ a))) := by simp [binPV, binI]
theorem qbtz {k : IntKind} {ek : EK} {a c : Int} : binPV .eql ek (.int k a) (.int k c) = some (.bool (decide (a = c))) := by
  simp [binPV, binI]; by_cases h : a = c <;> simp [h]
theorem qbuz {k : IntKind} {ek : EK} {a c : Int} : binPV .neq ek (.int k a) (.int k c) = some (.bool (decide (a ≠ c))) := by
  simp [binPV, binI]; by_cases h : a = c <;> simp [h]
theorem qbvz {ek : EK} {a c : UInt8} : binPV .eql ek (.b8 a) (.b8 c) = some (.bool (decide (a = c))) := by
  simp [binPV, bin8]; by_cases h : a = c <;> simp [h]
theorem qbwz {ek : EK} {a c : UInt8} : binPV .neq ek (.b8 a) (.b8 c) = some (.bool (decide (a ≠ c))) := by
  simp [binPV, bin8]; by_cases h : a = c <;> simp [h]
theorem qbxz {ek : EK} {a c : UInt8} : binPV .lss ek (.b8 a) (.b8 c) = some (.bool (decide (a < c))) := rfl
theorem qbyz {ek : EK} {a c : UInt8} : binPV .leq ek (.b8 a) (.b8 c) = some (.bool (decide (a ≤ c))) := rfl
theorem qbzz {ek : EK} {a c : UInt8} : binPV .gtr ek (.b8 a) (.b8 c) = some (.bool (decide (c < a))) := rfl
theorem qcaz {ek : EK} {a c : UInt8} : binPV .geq ek (.b8 a) (.b8 c) = some (.bool (decide (c ≤ a))) := rfl
theorem qcbz {ek : EK} {a c : List UInt8} : binPV .eql ek (.str a) (.str c) = some (.bool (decide (a = c))) := by
  simp [binPV, binS]; by_cases h : a = c <;> simp [h]
theorem qccz {ek : EK} {a c : List UInt8} : binPV .neq ek (.str a) (.str c) = some (.bool (decide (a ≠ c))) := by
  simp [binPV, binS]; by_cases h : a = c <;> simp [h]
theorem qcfz {b : Bool} : unPV .not (.bool b) = some (.bool !b) := rfl
theorem qcdz {a b : Bool} : binPV .eql .bool (.bool a) (.bool b) = some (.bool (decide (a = b))) := by cases a <;> cases b <;> rfl
theorem qcez {a b : Bool} : binPV .neq .bool (.bool a) (.bool b) = some (.bool (decide (a ≠ b))) := by cases a <;> cases b <;> rfl

/-! ### Slices of bytes -/
theorem len_by {x : PV} {l : List UInt8} (h : x.by = some l) : lenPV false x = some (.int .i64 (l.length : Int)) := by
  rcases by_cases' h with ⟨rfl, rfl⟩ | ⟨t, rfl⟩ <;> rfl
theorem b2s_by {x : PV} {l : List UInt8} {mu : Bool} (h : x.by = some l) : b2s mu st x = some l := by
  rcases by_cases' h with ⟨rfl, rfl⟩ | ⟨t, rfl⟩ <;> rfl
theorem src8_by {x : PV} {l : List UInt8} (h : x.by = some l) : src8 st x = some l := by
  rcases by_cases' h with ⟨rfl, rfl⟩ | ⟨t, rfl⟩ <;> rfl
theorem qcgz {t : Tok} {l : List UInt8} : (PV.bys t l).by = some l := rfl
theorem qchz : PV.nils.by = some [] := rfl

theorem cutTok_no {i : Nat} : cutTok i .no = .no := by unfold cutTok; split <;> rfl
/-- x[lo:] -/
def PV.dropB (x : PV) (i : Nat) : PV := match x with
  | .bys t l => .bys (cutTok i t) (l.drop i)
  | x => x
/-- x[:hi] -/
def PV.takeB (x : PV) (i : Nat) : PV := match x with
  | .bys t l => .bys .no (l.take i)
  | x => x
/-- x[lo:hi] -/
def PV.midB (x : PV) (i j : Nat) : PV := match x with
  | .bys t l => .bys .no ((l.take j).drop i)
  | x => x
theorem dropB_by {x : PV} {l : List UInt8} {i : Nat} (h : x.by = some l) : (x.dropB i).by = some (l.drop i) := by
  rcases by_cases' h with ⟨rfl, rfl⟩ | ⟨t, rfl⟩ <;> simp [PV.dropB, PV.by]
theorem takeB_by {x : PV} {l : List UInt8} {i : Nat} (h : x.by = some l) : (x.takeB i).by = some (l.take i) := by
  rcases by_cases' h with ⟨rfl, rfl⟩ | ⟨t, rfl⟩ <;> simp [PV.takeB, PV.by]
theorem midB_by {x : PV} {l : List UInt8} {i j : Nat} (h : x.by = some l) : (x.midB i j).by = some ((l.take j).drop i) := by
  rcases by_cases' h with ⟨rfl, rfl⟩ | ⟨t, rfl⟩ <;> simp [PV.midB, PV.by]

theorem slc_lo {x : PV} {l : List UInt8} {k : IntKind} {c : Int} (h : x.by = some l) (h1 : 0 ≤ c) (h2 : c.toNat ≤ l.length) : slcPV 1 x (some (.int k c)) none none = some (x.dropB c.toNat) := by
  rcases by_cases' h with ⟨rfl, rfl⟩ | ⟨t, rfl⟩
  · simp at h2
    simp [slcPV, bnd, intOf, PV.dropB, show c = 0 by omega]
  · simp [slcPV, bnd, intOf, PV.dropB, h1, sufTok, show c ≤ l.length by omega]
theorem slc_hi {x : PV} {l : List UInt8} {k : IntKind} {c : Int} (h : x.by = some l) (h1 : 0 ≤ c) (h2 : c.toNat ≤ l.length) : slcPV 1 x none (some (.int k c)) none = some (x.takeB c.toNat) := by
  rcases by_cases' h with ⟨rfl, rfl⟩ | ⟨t, rfl⟩
  · simp at h2
    simp [slcPV, bnd, intOf, PV.takeB, show c = 0 by omega]
  · simp [slcPV, bnd, intOf, PV.takeB, h1, sufTok, show c ≤ l.length by omega, cutTok_no]
theorem slc_lohi {x : PV} {l : List UInt8} {k k' : IntKind} {c d : Int} (h : x.by = some l) (h1 : 0 ≤ c) (h2 : c ≤ d) (h3 : d.toNat ≤ l.length) : slcPV 1 x (some (.int k c)) (some (.int k' d)) none = some (x.midB c.toNat d.toNat) := by
  rcases by_cases' h with ⟨rfl, rfl⟩ | ⟨t, rfl⟩
  · simp at h3
    simp [slcPV, bnd, intOf, PV.midB, show c = 0 by omega, show d = 0 by omega]
  · simp [slcPV, bnd, intOf, PV.midB, h1, sufTok, show d ≤ l.length by omega, show 0 ≤ d by omega, show c ≤ max d 0 by omega, cutTok_no]
theorem iaddr_by {x : PV} {l : List UInt8} {k : IntKind} {c : Int} (h : x.by = some l) (h1 : 0 ≤ c) (h2 : c.toNat < l.length) : iaddrPV 1 x (.int k c) = some (.cp [.b8 (l.getD c.toNat 0)]) := by
  rcases by_cases' h with ⟨rfl, rfl⟩ | ⟨t, rfl⟩
  · simp at h2
  · simp [iaddrPV, intOf, h1, show c < l.length by omega]
theorem qciz {v : PV} {sz : Nat} : loadPV st false sz (.cp [v]) = some v := rfl

/-! ### Behind a call -/
theorem leave_pure {v : PV} (h1 : v.inB st.boxes.length = true) (h3 : keepRes st.toks.length st.toks v = (v, [])) :
    leave st { st with low := st.boxes.length } v = (v, st) := by
  simp [leave, h1, h3]
/-- The slice's token is one of the caller's. -/
def PV.tokLt (n : Nat) : PV → Bool
  | .bys t _ => t.lt n
  | .sl _ t _ => t.lt n
  | _ => true
theorem by_inB {x : PV} {l : List UInt8} {n : Nat} (h : x.by = some l) : x.inB n = true := by
  rcases by_cases' h with ⟨rfl, rfl⟩ | ⟨t, rfl⟩ <;> rfl
/-- A value that a call hands back as it is. -/
structure Kp (st : St) (v : PV) : Prop where
  nt : notTup v = true
  ib : v.inB st.boxes.length = true
  kp : keepVal st.toks.length st.toks [] v = (v, [])
theorem Kp_bool {b : Bool} : Kp st (.bool b) := ⟨rfl, rfl, rfl⟩
theorem Kp_int {k : IntKind} {n : Int} : Kp st (.int k n) := ⟨rfl, rfl, rfl⟩
theorem end1 {a : Nat} {v : PV} (ha : e a = v) (h : Kp st v) : ∃ rv, resOf e { boxes := st.boxes, toks := st.toks, loops := st.loops, low := st.boxes.length } [.tmp a] = some rv ∧ leave st { boxes := st.boxes, toks := st.toks, loops := st.loops, low := st.boxes.length } rv = (v, st) := by
  refine ⟨v, by simp [resOf, rvAll, rv1, ha, h.nt, packRes], leave_pure h.ib (keep1 h.kp h.nt)⟩
end Go.Ab

/-
  Arguments of type []byte, opened.
-/
namespace Go.Ab
open Go.ChangeShapes Go.WideShapes Go.ChangeAt Go.RowKit
set_option linter.unusedVariables false
set_option linter.unusedSimpArgs false
variable {P : Program} {g : GMap}

theorem byte_of_wf {x : Int} (h : (Lit.int .u8 x).wf = true) : 0 ≤ x ∧ x < 256 := by
  have h1 : IntKind.u8.min = 0 := rfl
  have h2 : IntKind.u8.max = 255 := rfl
  simp only [Lit.wf, Bool.and_eq_true, decide_eq_true_eq] at h
  omega

end Go.Ab

/-
  Arguments of plain types, opened: what they read as, as abstract values.
-/
namespace Go.Ab
open Go.ChangeShapes Go.WideShapes Go.ChangeAt Go.RowKit Go.Deep
set_option linter.unusedVariables false
set_option linter.unusedSimpArgs false
variable {P : Program} {g : GMap}

/-- Abstract values of a type, without tokens. -/
inductive HasTy (P : Program) : TypeId → PV → Prop
  | bool {t : TypeId} (b : Bool) (ht : P.underlying t = some .bool) : HasTy P t (.bool b)
  | int {t : TypeId} {k : IntKind} (n : Int) (ht : P.underlying t = some (.int k)) (hk : k ≠ .u8) (h : k.min ≤ n ∧ n ≤ k.max) : HasTy P t (.int k n)
  | u8 {t : TypeId} (b : UInt8) (ht : P.underlying t = some (.int .u8)) : HasTy P t (.b8 b)
  | str {t : TypeId} (s : List UInt8) (ht : P.underlying t = some .string) (h : s.length ≤ reachBytes) : HasTy P t (.str s)
  | nils {t e : TypeId} (ht : P.underlying t = some (.slice e)) : HasTy P t .nils
  | bys {t e : TypeId} (l : List UInt8) (ht : P.underlying t = some (.slice e)) (he : P.underlying e = some (.int .u8)) (h : l.length ≤ maxLen) : HasTy P t (.bys .no l)
  | sl {t e : TypeId} (xs : List PV) (ht : P.underlying t = some (.slice e)) (he : P.underlying e ≠ some (.int .u8)) (h : xs.length ≤ maxLen) (hx : ∀ x ∈ xs, HasTy P e x) : HasTy P t (.sl (P.cellsOf e) .no xs)
  | agg {t : TypeId} {fs : Array Field} (xs : List PV) (ht : P.underlying t = some (.struct fs)) (hl : xs.length = fs.size) (hx : ∀ (i : Nat) (f : Field) (x : PV), fs[i]? = some f → xs[i]? = some x → HasTy P f.type x) : HasTy P t (.agg (flat xs))

/-- Where each field begins. -/
def contig (P : Program) : List Field → Nat → Option Nat
  | [], n => some n
  | f :: fs, n => if f.offset = n then contig P fs (n + P.cellsOf f.type) else none

/-- Types that are read: closed under what they are made of; no row of bytes within them. -/
def okIn (P : Program) (ts : List TypeId) (t : TypeId) : Bool :=
  match P.underlying t with
  | some .bool => P.cellsOf t == 1
  | some (.int _) => P.cellsOf t == 1
  | some .string => P.cellsOf t == 1
  | some (.slice e) => P.cellsOf t == 1 && ts.contains e && decide (0 < P.cellsOf e) && (match P.underlying e with | some (.int .u8) => false | _ => true)
  | some (.struct fs) => contig P fs.toList 0 == some (P.cellsOf t) && fs.toList.all fun f => ts.contains f.type
  | _ => false
/-- .. at the top: bytes may stand there. -/
def okTop (P : Program) (ts us : List TypeId) (t : TypeId) : Bool :=
  match P.underlying t with
  | some .bool => P.cellsOf t == 1
  | some (.int _) => P.cellsOf t == 1
  | some .string => P.cellsOf t == 1
  | some (.slice e) => P.cellsOf t == 1 && (match P.underlying e with | some (.int .u8) => P.cellsOf e == 1 | _ => ts.contains e && decide (0 < P.cellsOf e))
  | some (.struct fs) => contig P fs.toList 0 == some (P.cellsOf t) && fs.toList.all fun f => us.contains f.type
  | _ => false

/-- What is shown of cells that are read as a type. -/
structure Opened (P : Program) (g : GMap) (w : World) (t : TypeId) (cs : List Value) (p : PV) : Prop where
  ty : HasTy P t p
  ln : p.cells.length = cs.length
  lt : p.cells.length = P.cellsOf t
  dt : p.data = true
  nt : notTup p = true
  lf : p.cells.all leafOk = true
  rr : ∀ (i : Nat) (v : Value) (q : PV), cs[i]? = some v → p.cells[i]? = some q → R g (κ0 w) v q

theorem one_get {v : Value} {q : PV} {R' : Value → PV → Prop} (h : R' v q) : ∀ (i : Nat) (v' : Value) (q' : PV), [v][i]? = some v' → [q][i]? = some q' → R' v' q' := by
  intro i v' q' a b
  cases i with
  | zero => simp at a b; subst a b; exact h
  | succ i => simp at a

theorem flatMap_get {α : Type} {f : Nat → List α} {c : Nat} : ∀ (n : Nat), (∀ i, i < n → (f i).length = c) → ((List.range n).flatMap f).length = n * c ∧ ∀ i, i < n * c → ((List.range n).flatMap f)[i]? = (f (i / c))[i % c]? := by
  intro n
  induction n with
  | zero => intro _; simp
  | succ n ih =>
    intro h
    obtain ⟨h1, h2⟩ := ih (fun i hi => h i (by omega))
    rw [List.range_succ, List.flatMap_append]
    simp only [List.flatMap_cons, List.flatMap_nil, List.append_nil, List.length_append, h1, h n (by omega)]
    refine ⟨(Nat.succ_mul n c).symm, fun i hi => ?_⟩
    by_cases hlt : i < n * c
    · rw [List.getElem?_append_left (by rw [h1]; exact hlt), h2 i hlt]
    · rw [List.getElem?_append_right (by rw [h1]; omega), h1]
      have hc : 0 < c := by
        rcases Nat.eq_zero_or_pos c with h0 | h0
        · subst h0; simp at hi
        · exact h0
      have hlt2 : i < n * c + c := by rw [← Nat.succ_mul]; exact hi
      have hd : i / c = n := by
        apply Nat.div_eq_of_lt_le
        · omega
        · rw [Nat.succ_mul]; omega
      have hm : i % c = i - n * c := by
        have := Nat.div_add_mod i c
        rw [hd] at this
        rw [Nat.mul_comm] at this; omega
      rw [hd, hm]

theorem spot_of_cell {w : World} {a : Addr} {v : Value} (h : w.cell? a = some v) : a.spot = none := by
  unfold World.cell? at h
  split at h
  · split at h
    · cases h
    · rename_i hs; simpa using hs
  · cases h

/-- Fields, one behind the other. -/
theorem open_fields {w : World} : ∀ (fs : List Field) (off tot : Nat) (cs : List Value), contig P fs off = some tot → cs.length = tot → (∀ (i : Nat) (f : Field), fs[i]? = some f → ∃ p, Opened P g w f.type ((cs.drop f.offset).take (P.cellsOf f.type)) p) →
    ∃ ps : List PV, ps.length = fs.length ∧ (∀ (i : Nat) (f : Field) (x : PV), fs[i]? = some f → ps[i]? = some x → HasTy P f.type x) ∧ (flat ps).length + off = tot ∧ dataAll (flat ps) = true ∧ (flat ps).all leafOk = true ∧
      ∀ (i : Nat) (v : Value) (q : PV), cs[off + i]? = some v → (flat ps)[i]? = some q → R g (κ0 w) v q := by
  intro fs
  induction fs with
  | nil =>
    intro off tot cs hc hl _
    simp only [contig, Option.some.injEq] at hc
    exact ⟨[], rfl, fun i f x h => by simp at h, by simp [flat, hc], rfl, rfl, fun i v q _ h => by simp [flat] at h⟩
  | cons f fs ih =>
    intro off tot cs hc hl hf
    simp only [contig] at hc
    split at hc
    · rename_i ho
      obtain ⟨p, hp⟩ := hf 0 f rfl
      obtain ⟨ps, h1, h2, h3, h4, h5, h6⟩ := ih (off + P.cellsOf f.type) tot cs hc hl (fun i f' h => hf (i + 1) f' h)
      refine ⟨p :: ps, by simp [h1], fun i f' x a b => ?_, ?_, ?_, ?_, fun i v q a b => ?_⟩
      · cases i with
        | zero => simp at a b; subst a b; exact hp.ty
        | succ i => simp at a b; exact h2 i f' x a b
      · have := hp.lt
        simp only [flat, List.flatMap_cons, List.length_append] at h3 ⊢; omega
      · simp only [flat, List.flatMap_cons] at h4 ⊢
        rw [dataAll_append, h4, data_cells hp.dt]; rfl
      · simp only [flat, List.flatMap_cons] at h5 ⊢
        rw [List.all_append, hp.lf, h5]; rfl
      · simp only [flat, List.flatMap_cons] at b
        by_cases hi : i < p.cells.length
        · rw [List.getElem?_append_left hi] at b
          refine hp.rr i v q ?_ b
          rw [List.getElem?_take, if_pos (by rw [← hp.lt]; exact hi), List.getElem?_drop, ho]; exact a
        · rw [List.getElem?_append_right (by omega)] at b
          refine h6 (i - p.cells.length) v q ?_ b
          rw [← hp.lt, show off + p.cells.length + (i - p.cells.length) = off + i by omega]; exact a
    · cases hc

theorem weightsEach_get {H : Type} : ∀ (ts : List TypeId) (ds : List (DataW H)), (DataW.weightsEach P ts ds).all (· ≤ reachBytes) = true → ∀ (i : Nat) (t : TypeId) (d : DataW H), ts[i]? = some t → ds[i]? = some d → (d.weights P t).all (· ≤ reachBytes) = true := by
  intro ts
  induction ts with
  | nil => intro ds _ i t d h; simp at h
  | cons t ts ih =>
    intro ds h i u d a b
    cases ds with
    | nil => simp at b
    | cons e ds =>
      simp only [DataW.weightsEach, List.all_append, Bool.and_eq_true] at h
      cases i with
      | zero => simp at a b; subst a b; exact h.1
      | succ i => simp at a b; exact ih ds h.2 i u d a b
theorem weightsAll_get {H : Type} {e : TypeId} : ∀ (ds : List (DataW H)), (DataW.weightsAll P e ds).all (· ≤ reachBytes) = true → ∀ (i : Nat) (d : DataW H), ds[i]? = some d → (d.weights P e).all (· ≤ reachBytes) = true := by
  intro ds
  induction ds with
  | nil => intro _ i d h; simp at h
  | cons e ds ih =>
    intro h i d b
    simp only [DataW.weightsAll, List.all_append, Bool.and_eq_true] at h
    cases i with
    | zero => simp at b; subst b; exact h.1
    | succ i => simp at b; exact ih h.2 i d b

theorem open_in {H : Type} {enc : TypeId × Value → H} {w : World} {ts us : List TypeId} (hin : ts.all (okIn P ts) = true) (htop : us.all (okTop P ts us) = true) : ∀ (fuel : Nat) (t : TypeId) (cs : List Value) (x : DataW H × List MemPlace), DataW.trod enc P w 0 (fun _ => true) true fuel t cs = some x → (x.1.weights P t).all (· ≤ reachBytes) = true →
    (t ∈ ts ∨ t ∈ us ∧ ∀ a len cap, Value.slice (some a) len cap ∈ cs → a.spot = none) → ∃ p, Opened P g w t cs p := by
  intro fuel
  induction fuel with
  | zero => intro t cs x h; simp [DataW.trod] at h
  | succ fuel ih =>
    intro t cs x h hwt hm
    have hok : okIn P ts t = true ∨ okTop P ts us t = true := by
      rcases hm with hm | hm
      · exact .inl ((List.all_eq_true.1 hin) t hm)
      · exact .inr ((List.all_eq_true.1 htop) t hm.1)
    have hone : (∀ e, P.underlying t ≠ some (.struct e)) → P.cellsOf t = 1 := by
      intro hne
      cases hu : P.underlying t with
      | none => rcases hok with hok | hok <;> simp [okIn, okTop, hu] at hok
      | some d =>
        rcases hok with hok | hok
        · simp only [okIn, hu] at hok
          cases d <;> first | exact (hne _ hu).elim | simp_all
        · simp only [okTop, hu] at hok
          cases d <;> first | exact (hne _ hu).elim | simp_all
    cases hu : P.underlying t with
    | none => rcases hok with hok | hok <;> simp [okIn, okTop, hu] at hok
    | some d =>
      cases d with
      | bool =>
        obtain ⟨b, rfl, _⟩ := DataW.trod_bool hu h
        exact ⟨.bool b, .bool b hu, rfl, (hone (fun e he => by rw [hu] at he; cases he)).symm, rfl, rfl, rfl, one_get (.bool b)⟩
      | int k =>
        obtain ⟨n, rfl, _, hw⟩ := DataW.trod_int hu h
        have hrange : k.min ≤ n ∧ n ≤ k.max := by simpa [Lit.wf] using hw
        by_cases hk : k = .u8
        · subst hk
          have h1 : IntKind.u8.min = 0 := rfl
          have h2 : IntKind.u8.max = 255 := rfl
          rw [h1, h2] at hrange
          refine ⟨.b8 (n.toNat.toUInt8), .u8 _ hu, rfl, (hone (fun e he => by rw [hu] at he; cases he)).symm, rfl, rfl, rfl, one_get (.b8 _ _ ?_)⟩
          simp [Nat.toUInt8, UInt8.toNat_ofNat]; omega
        · exact ⟨.int k n, .int n hu hk hrange, rfl, (hone (fun e he => by rw [hu] at he; cases he)).symm, rfl, rfl, rfl, one_get (.int k n hk)⟩
      | string =>
        obtain ⟨s, rfl, hxe, hs⟩ := DataW.trod_string hu h
        rw [hxe] at hwt
        simp only [DataW.weights, List.all_cons, List.all_nil, Bool.and_true, decide_eq_true_eq] at hwt
        exact ⟨.str s.data.toList, .str _ hu hwt, rfl, (hone (fun e he => by rw [hu] at he; cases he)).symm, rfl, rfl, rfl, one_get (.str s _ rfl)⟩
      | struct fs =>
        obtain ⟨xs, n, hn, hxe, hcl, hxl, hx⟩ := DataW.trod_struct hu h
        obtain rfl : n = fuel := by omega
        rw [hxe] at hwt
        simp only [DataW.weights, hu] at hwt
        have hc : contig P fs.toList 0 = some (P.cellsOf t) := by
          rcases hok with hok | hok
          · simp only [okIn, hu, Bool.and_eq_true, beq_iff_eq] at hok; exact hok.1
          · simp only [okTop, hu, Bool.and_eq_true, beq_iff_eq] at hok; exact hok.1
        have hmem : ∀ (i : Nat) (f : Field), fs.toList[i]? = some f → (f.type ∈ ts ∨ f.type ∈ us ∧ ∀ a len cap, Value.slice (some a) len cap ∈ cs → a.spot = none) := by
          intro i f hf
          have hfm := List.mem_of_getElem? hf
          rcases hm with hm | hm
          · have hok := (List.all_eq_true.1 hin) t hm
            simp only [okIn, hu, Bool.and_eq_true, List.all_eq_true] at hok
            exact .inl (by simpa using hok.2 f hfm)
          · have hok := (List.all_eq_true.1 htop) t hm.1
            simp only [okTop, hu, Bool.and_eq_true, List.all_eq_true] at hok
            exact .inr ⟨by simpa using hok.2 f hfm, hm.2⟩
        obtain ⟨ps, h1, h2, h3, h4, h5, h6⟩ := open_fields (g := g) (w := w) fs.toList 0 _ cs hc hcl (fun i f hf => by
          have hf' : fs[i]? = some f := by simpa using hf
          have hi : i < xs.length := by rw [hxl]; exact (Array.getElem?_eq_some_iff.1 hf').1
          have := hx i f hf'
          rw [List.getElem?_eq_getElem hi] at this
          refine ih _ _ _ this (weightsEach_get _ _ hwt i _ _ (by simp [hf]) (by simp [hi])) ?_
          rcases hmem i f hf with hm | hm
          · exact .inl hm
          · exact .inr ⟨hm.1, fun a len cap ha => hm.2 a len cap (List.mem_of_mem_drop (List.mem_of_mem_take ha))⟩)
        refine ⟨.agg (flat ps), .agg ps hu (by simpa using h1) (fun i f x a b => h2 i f x (by simpa using a) b), ?_, ?_, h4, rfl, h5, fun i v q a b => h6 i v q (by simpa using a) b⟩
        · show (flat ps).length = _
          omega
        · show (flat ps).length = _
          omega
      | slice e =>
        have hct := hone (fun e he => by rw [hu] at he; cases he)
        rcases DataW.trod_slice hu h with ⟨rfl, _⟩ | ⟨a, len, cap, elems, rest, n, hn, rfl, hxe, _, hl, hmx, hlen, hel, hspare, _⟩
        · exact ⟨.nils, .nils hu, rfl, hct.symm, rfl, rfl, rfl, one_get .nils⟩
        · obtain rfl : n = fuel := by omega
          -- an element's cells
          have hpart : ∀ i, i < len → ∃ cs', w.cells? 0 (a.add (i * P.cellsOf e)) (P.cellsOf e) = some cs' ∧ DataW.trod enc P w 0 (fun _ => true) true n e cs' = elems[i]? := fun i hi => by
            have := hel i hi
            rw [List.getElem?_eq_getElem (by omega)] at this
            obtain ⟨cs', h1, h2⟩ := Option.bind_eq_some_iff.1 this
            exact ⟨cs', h1, by rw [h2, List.getElem?_eq_getElem (by omega)]⟩
          by_cases he : P.underlying e = some (.int .u8)
          · -- bytes
            have hus : t ∈ us ∧ ∀ a' len' cap', Value.slice (some a') len' cap' ∈ [Value.slice (some a) len cap] → a'.spot = none := by
              rcases hm with hm | hm
              · have hok := (List.all_eq_true.1 hin) t hm
                simp [okIn, hu, he] at hok
              · exact hm
            have hce : P.cellsOf e = 1 := by
              have hok := (List.all_eq_true.1 htop) t hus.1
              simp only [okTop, hu, he, Bool.and_eq_true, beq_iff_eq] at hok
              exact hok.2
            have hsp := hus.2 a len cap (by simp)
            obtain ⟨blk, off, sp⟩ := a
            simp only at hsp
            subst hsp
            obtain ⟨f, hf⟩ := choose_lt (α := Int) (p := fun i z => w.cell? ⟨blk, off + i, none⟩ = some (.int .u8 z) ∧ 0 ≤ z ∧ z < 256) (n := len) (fun i hi => by
              obtain ⟨cs', h1, h2⟩ := hpart i hi
              rw [List.getElem?_eq_getElem (by omega)] at h2
              obtain ⟨z, rfl, _, hz⟩ := DataW.trod_int he h2
              rw [hce, Nat.mul_one] at h1
              have := cell_of_cells?_one h1
              rw [add_eq] at this
              exact ⟨z, this, byte_of_wf hz⟩)
            refine ⟨.bys .no ((List.range len).map fun i => (f i).toNat.toUInt8), .bys _ hu he (by simp; omega), rfl, hct.symm, rfl, rfl, rfl, one_get (.bys blk off len cap .no _ (by simp) hl (fun i b hb => ?_) trivial (fun i h => by cases h))⟩
            simp only [List.getElem?_map, Option.map_eq_some_iff] at hb
            obtain ⟨j, hj, rfl⟩ := hb
            have hi : i < len := by
              have := (List.getElem?_eq_some_iff.1 hj).1
              simpa using this
            rw [List.getElem?_range hi] at hj
            cases hj
            obtain ⟨q1, q2, q3⟩ := hf i hi
            show w.cell? ⟨blk, off + i, none⟩ = _
            rw [q1]
            have : (((f i).toNat.toUInt8).toNat : Int) = f i := by
              simp [Nat.toUInt8, UInt8.toNat_ofNat]; omega
            rw [this]
          · -- other elements
            have hein : e ∈ ts ∧ 0 < P.cellsOf e := by
              rcases hm with hm | hm
              · have hok := (List.all_eq_true.1 hin) t hm
                simp only [okIn, hu, Bool.and_eq_true, decide_eq_true_eq] at hok
                exact ⟨by simpa using hok.1.1.2, hok.1.2⟩
              · have hok := (List.all_eq_true.1 htop) t hm.1
                simp only [okTop, hu, Bool.and_eq_true] at hok
                have h2 := hok.2
                first
                | (split at h2
                   · rename_i h3; exact absurd h3 he
                   · simp only [Bool.and_eq_true, decide_eq_true_eq] at h2
                     exact ⟨by simpa using h2.1, h2.2⟩)
                | (simp only [Bool.and_eq_true, decide_eq_true_eq] at h2
                   exact ⟨by simpa using h2.1, h2.2⟩)
            by_cases hcap : cap = 0
            · have hl0 : len = 0 := by omega
              subst hcap hl0
              exact ⟨.sl (P.cellsOf e) .no [], .sl [] hu he (Nat.zero_le _) (fun x hx => by simp at hx), rfl, hct.symm, rfl, rfl, rfl, one_get (.sl0 a _ _ (fun i h => by cases h))⟩
            · -- the address is a cell's
              have hsp : a.spot = none := by
                have h0 : ∃ cs', w.cells? 0 (a.add (0 * P.cellsOf e)) (P.cellsOf e) = some cs' := by
                  by_cases hl0 : 0 < len
                  · obtain ⟨cs', h1, _⟩ := hpart 0 hl0
                    exact ⟨cs', h1⟩
                  · obtain ⟨r1, r2⟩ := hspare rfl
                    have := r2 0 (by omega)
                    rw [List.getElem?_eq_getElem (by omega)] at this
                    obtain ⟨cs', h1, h2⟩ := Option.bind_eq_some_iff.1 this
                    rw [show len + 0 = 0 by omega] at h1
                    exact ⟨cs', h1⟩
                obtain ⟨cs', h1⟩ := h0
                obtain ⟨_, h2, h3⟩ := World.cells?_some h1
                have h4 := h3 0 hein.2
                rw [List.getElem?_eq_getElem (by omega)] at h4
                have := spot_of_cell h4
                simpa [Addr.add] using this
              obtain ⟨blk, off, sp⟩ := a
              simp only at hsp
              subst hsp
              obtain ⟨F, hF⟩ := choose_lt (α := List Value × PV) (p := fun i z => w.cells? 0 ((⟨blk, off, none⟩ : Addr).add (i * P.cellsOf e)) (P.cellsOf e) = some z.1 ∧ Opened P g w e z.1 z.2) (n := len) (fun i hi => by
                obtain ⟨cs', h1, h2⟩ := hpart i hi
                rw [List.getElem?_eq_getElem (by omega)] at h2
                rw [hxe] at hwt
                simp only [DataW.weights, hu, List.all_cons, List.all_append, Bool.and_eq_true] at hwt
                obtain ⟨p, hp⟩ := ih _ _ _ h2 (weightsAll_get _ hwt.2.1 i _ (by rw [List.getElem?_map, List.getElem?_eq_getElem (by omega)]; rfl)) (.inl hein.1)
                exact ⟨(cs', p), h1, hp⟩)
              have hflat : flat ((List.range len).map fun i => (F i).2) = (List.range len).flatMap fun i => (F i).2.cells := by simp [flat, List.flatMap_map]
              obtain ⟨v1, v2⟩ := flatMap_get (f := fun i => (F i).1) (c := P.cellsOf e) len (fun i hi => (World.cells?_some (hF i hi).1).2.1)
              obtain ⟨x1, x2⟩ := flatMap_get (f := fun i => (F i).2.cells) (c := P.cellsOf e) len (fun i hi => (hF i hi).2.lt)
              have hdm : ∀ i, i < len * P.cellsOf e → i / P.cellsOf e < len := fun i hi => by
                rw [Nat.div_lt_iff_lt_mul hein.2]; exact hi
              have hmd : ∀ i, i % P.cellsOf e < P.cellsOf e := fun i => Nat.mod_lt _ hein.2
              have hxs : ∀ x ∈ (List.range len).map (fun i => (F i).2), ∃ i, i < len ∧ x = (F i).2 := fun x hx => by
                simp only [List.mem_map, List.mem_range] at hx
                obtain ⟨i, h1, rfl⟩ := hx
                exact ⟨i, h1, rfl⟩
              have hda : ∀ xs : List PV, (∀ x ∈ xs, x.data = true) → dataAll xs = true := by
                intro xs
                induction xs with
                | nil => intro _; rfl
                | cons x xs ih => intro h; simp only [dataAll, h x (by simp), ih (fun y hy => h y (by simp [hy])), Bool.and_self]
              have hd : dataAll ((List.range len).map fun i => (F i).2) = true := hda _ fun x hx => by
                obtain ⟨i, hi, rfl⟩ := hxs x hx
                exact (hF i hi).2.dt
              refine ⟨.sl (P.cellsOf e) .no ((List.range len).map fun i => (F i).2), .sl _ hu he (by simp; omega) (fun x hx => ?_), rfl, hct.symm, by simp [PV.data, Tok.isNo, hd], rfl, rfl,
                one_get (.sl blk off len cap (P.cellsOf e) .no _ ((List.range len).flatMap fun i => (F i).1) (by simp) hl (fun x hx => ?_) (by rw [hflat, v1, x1]) (fun i v hi => ?_) (fun i v q a b => ?_) hd ?_ trivial)⟩
              · obtain ⟨i, hi, rfl⟩ := hxs x hx
                exact (hF i hi).2.ty
              · obtain ⟨i, hi, rfl⟩ := hxs x hx
                exact (hF i hi).2.lt
              · have hlt := (List.getElem?_eq_some_iff.1 hi).1
                rw [v1] at hlt
                rw [v2 i hlt] at hi
                have h3 := (World.cells?_some (hF _ (hdm i hlt)).1).2.2 (i % P.cellsOf e) (hmd i)
                rw [add_eq, add_eq, hi] at h3
                have h4 := Nat.div_add_mod i (P.cellsOf e)
                rw [Nat.mul_comm] at h4
                rw [Nat.add_assoc, h4] at h3
                exact h3
              · have hlt := (List.getElem?_eq_some_iff.1 a).1
                rw [v1] at hlt
                rw [v2 i hlt] at a
                rw [hflat, x2 i hlt] at b
                exact (hF _ (hdm i hlt)).2.rr _ _ _ a b
              · rw [hflat, List.all_eq_true]
                intro y hy
                obtain ⟨i, hi, hy⟩ := List.mem_flatMap.1 hy
                exact (List.all_eq_true.1 (hF i (by simpa using hi)).2.lf) y hy
      | _ => rcases hok with hok | hok <;> simp [okIn, okTop, hu] at hok

theorem cell_spot {w : World} {r : Reach} {base : Nat} {u : TypeId} {a : Addr} {len cap : Nat} (h : Cell.okWide P w r base u (.slice (some a) len cap)) : a.spot = none := by
  unfold Cell.okWide at h
  cases hu : P.underlying u with
  | none => simp [hu, Cell.ok] at h
  | some d =>
    cases d <;> simp [hu, Cell.ok] at h
    exact h.2.2.2.1

/-- **An argument, opened.** -/
theorem open_arg {H : Type} {enc : TypeId × Value → H} {W : World} {base : Nat} {ts us : List TypeId} (hin : ts.all (okIn P ts) = true) (htop : us.all (okTop P ts us) = true) {t : TypeId} (ht : us.contains t = true) {v : Value} {d : DataW H} {p : List MemPlace}
    (hval : Value.okWide P W .any base t v) (h0 : DataW.Trod enc P W 0 (fun _ => true) true t v d p) (hwt : (d.weights P t).all (· ≤ reachBytes) = true) : ∃ q : PV, HasTy P t q ∧ q.data = true ∧ R g (κ0 W) v q := by
  have htm : t ∈ us := by simpa using ht
  obtain ⟨fuel, hf⟩ := h0
  have hok := (List.all_eq_true.1 htop) t htm
  have hsp : ∀ a len cap, Value.slice (some a) len cap ∈ v.cells.toList → a.spot = none := by
    intro a len cap ha
    unfold Value.okWide at hval
    cases hu : P.underlying t with
    | none => simp [okTop, hu] at hok
    | some d =>
      rw [hu] at hval
      cases d with
      | struct fs =>
        obtain ⟨cs, rfl, _, ts', _, _, hr⟩ := hval
        simp only [Value.cells] at ha
        obtain ⟨i, hi⟩ := List.getElem?_of_mem ha
        obtain ⟨u, _, hc⟩ := hr i _ (by simpa using hi)
        exact cell_spot hc
      | bool =>
        obtain ⟨b, rfl⟩ := okWide_bool hu (by unfold Value.okWide; rw [hu]; exact hval)
        simp [Value.cells] at ha
      | int k =>
        obtain ⟨b, rfl⟩ := okWide_int hu (by unfold Value.okWide; rw [hu]; exact hval)
        simp [Value.cells] at ha
      | string =>
        obtain ⟨b, rfl⟩ := okWide_string hu (by unfold Value.okWide; rw [hu]; exact hval)
        simp [Value.cells] at ha
      | slice e =>
        obtain ⟨a', l', c', rfl⟩ := okWide_slice hu (by unfold Value.okWide; rw [hu]; exact hval)
        simp [Value.cells] at ha
        obtain ⟨rfl, rfl, rfl⟩ := ha
        exact cell_spot hval
      | _ => simp [okTop, hu] at hok
  obtain ⟨q, hq⟩ := open_in (g := g) hin htop fuel t _ _ hf hwt (.inr ⟨htm, hsp⟩)
  refine ⟨q, hq.ty, hq.dt, ?_⟩
  have single : v.cells = #[v] → q.cells = [q] → R g (κ0 W) v q := fun h1 h2 => hq.rr 0 v q (by rw [h1]; rfl) (by rw [h2]; rfl)
  cases hu : P.underlying t with
  | none => simp [okTop, hu] at hok
  | some d =>
    cases d with
    | struct fs =>
      obtain ⟨cs, rfl, _⟩ := okWide_struct hu hval
      have hqt := hq.ty
      cases hqt with
      | agg xs ht hl hx =>
        have := hq.lf
        simp only [PV.cells] at this
        refine .agg cs (flat xs) ?_ (leafB_all this) (fun i u q a b => hq.rr i u q (by simpa [Value.cells] using a) b)
        have := hq.ln
        simp [Value.cells, PV.cells] at this; omega
      | _ => simp_all
    | bool =>
      obtain ⟨b, rfl⟩ := okWide_bool hu hval
      refine single rfl ?_
      have hqt := hq.ty
      cases hqt <;> first | rfl | simp_all
    | int k =>
      obtain ⟨b, rfl⟩ := okWide_int hu hval
      refine single rfl ?_
      have hqt := hq.ty
      cases hqt <;> first | rfl | simp_all
    | string =>
      obtain ⟨b, rfl⟩ := okWide_string hu hval
      refine single rfl ?_
      have hqt := hq.ty
      cases hqt <;> first | rfl | simp_all
    | slice e =>
      obtain ⟨a', l', c', rfl⟩ := okWide_slice hu hval
      refine single rfl ?_
      have hqt := hq.ty
      cases hqt <;> first | rfl | simp_all
    | _ => simp [okTop, hu] at hok

/-! ### What values of a type look like -/
theorem HasTy.bytes {t e : TypeId} {q : PV} (h : HasTy P t q) (ht : P.underlying t = some (.slice e)) (he : P.underlying e = some (.int .u8)) : ∃ l, q.by = some l ∧ q.tokLt 0 = true ∧ l.length ≤ maxLen := by
  cases h with
  | nils => exact ⟨[], rfl, rfl, Nat.zero_le _⟩
  | bys l _ _ hl => exact ⟨l, rfl, rfl, hl⟩
  | sl xs h1 h2 _ _ =>
    rw [ht] at h1
    simp only [Option.some.injEq, TypeDesc.slice.injEq] at h1
    subst h1; exact absurd he h2
  | _ => simp_all
theorem HasTy.strR {t : TypeId} {q : PV} (h : HasTy P t q) (ht : P.underlying t = some .string) : ∃ s, q = .str s ∧ s.length ≤ reachBytes := by
  cases h with
  | str s h1 h2 => exact ⟨s, rfl, h2⟩
  | _ => simp_all
theorem HasTy.str' {t : TypeId} {q : PV} (h : HasTy P t q) (ht : P.underlying t = some .string) : ∃ s, q = .str s ∧ s.length ≤ maxLen := by
  obtain ⟨s, h1, h2⟩ := HasTy.strR h ht
  exact ⟨s, h1, Nat.le_trans h2 (by decide)⟩
end Go.Ab

/-
  From the evaluator's answer to a law's row: what all rows share.
-/
namespace Go.Ab
open Go.ChangeShapes Go.WideShapes Go.ChangeAt Go.RowKit
set_option linter.unusedVariables false
set_option linter.unusedSimpArgs false
variable {P : Program} {g : GMap} {H : Type} {enc : TypeId × Value → H}

/-- All arguments, opened. -/
theorem args_open {W : World} {base : Nat} {ts us : List TypeId} (hin : ts.all (okIn P ts) = true) (htop : us.all (okTop P ts us) = true) : ∀ (ps : List TypeId) (vs : List Value) (ds : List (DataW H)) (q : List MemPlace) (us2 : List TypeId) (gs : List (DataW H)), ps.all us.contains = true →
    DataW.TrodAll enc P W 0 (fun _ => true) true ps vs ds q → (DataW.weightsEach P (ps ++ us2) (ds ++ gs)).all (· ≤ reachBytes) = true → (∀ (j : Nat) t v, ps[j]? = some t → vs[j]? = some v → Value.okWide P W .any base t v) →
    ∃ xs : List PV, xs.length = ps.length ∧ vs.length = ps.length ∧ ds.length = ps.length ∧ (∀ (i : Nat) (t : TypeId) (x : PV), ps[i]? = some t → xs[i]? = some x → HasTy P t x ∧ x.data = true) ∧ ∀ (i : Nat) (v : Value) (x : PV), vs[i]? = some v → xs[i]? = some x → R g (κ0 W) v x := by
  intro ps
  induction ps with
  | nil =>
    intro vs ds q us2 gs _ h _ _
    obtain ⟨rfl, rfl, rfl⟩ := trodAll_nil h
    exact ⟨[], rfl, rfl, rfl, fun i t x a => by simp at a, fun i v x a => by simp at a⟩
  | cons t ps ih =>
    intro vs ds q us2 gs hall h hwt hval
    obtain ⟨v, vs', d, ds', p, q', rfl, rfl, rfl, h0, hr⟩ := trodAll_cons h
    simp only [List.cons_append, DataW.weightsEach, List.all_append, Bool.and_eq_true] at hwt
    simp only [List.all_cons, Bool.and_eq_true] at hall
    obtain ⟨x, x1, x2, x3⟩ := open_arg (g := g) hin htop hall.1 (hval 0 t v rfl rfl) h0 hwt.1
    obtain ⟨xs, y1, y2, y3, y4, y5⟩ := ih vs' ds' q' us2 gs hall.2 hr hwt.2 (fun j t' v' a b => hval (j + 1) t' v' (by simpa using a) (by simpa using b))
    refine ⟨x :: xs, by simp [y1], by simp [y2], by simp [y3], fun i t' x' a b => ?_, fun i v' x' a b => ?_⟩
    · cases i with
      | zero => simp at a b; subst a b; exact ⟨x1, x2⟩
      | succ i => simp at a b; exact y4 i t' x' a b
    · cases i with
      | zero => simp at a b; subst a b; exact x3
      | succ i => simp at a b; exact y5 i v' x' a b

/-- What lay in memory reads as it did. -/
theorem trodAll_below {W W' : World} (hl : laidOutB P = true) (hb : Below W.heap.size W W') : ∀ (ps : List TypeId) (vs : List Value) (ds : List (DataW H)) (q : List MemPlace), ps.all (fun t => P.readableRec t && decide (t < P.types.size)) = true →
    DataW.TrodAll enc P W 0 (fun _ => true) true ps vs ds q → (∀ x ∈ q, x.block < W.heap.size) → DataW.TrodAll enc P W' 0 (fun b => decide (b < W.heap.size)) true ps vs ds q := by
  intro ps
  induction ps with
  | nil =>
    intro vs ds q _ h _
    obtain ⟨rfl, rfl, rfl⟩ := trodAll_nil h
    exact trodAll_mk0
  | cons t ps ih =>
    intro vs ds q hall h hlt
    obtain ⟨v, vs', d, ds', p, q', rfl, rfl, rfl, h0, hr⟩ := trodAll_cons h
    simp only [List.all_cons, Bool.and_eq_true, decide_eq_true_eq] at hall
    exact ⟨_, _, (Below.trod hl hall.1.1 hall.1.2 h0 hb (fun x hx => hlt x (by simp [hx]))), (ih vs' ds' q' (by simpa using hall.2) hr (fun x hx => hlt x (by simp [hx]))), rfl⟩

/-- **What a law's row asks behind the call.** -/
theorem post_of {s : ChangeSpec} {f : Func} {tb : TypeId} {apart : Bool} (hl : laidOutB P = true) (hread : f.params.toList.all (fun t => P.readableRec t && decide (t < P.types.size)) = true) (hres : f.resultTypes = #[tb]) (htb : P.underlying tb = some .bool)
    (hv : s.vars = []) (hfn : ∀ ds : List (DataW H), ds.length = f.params.toList.length → s.fn H ds = { results := [.lit (.bool true)], args := ds }) {W W' : World} {args : Array Value} {ds gs : List (DataW H)} {before : List MemPlace}
    (hW : DataW.Whole enc P f.params.toList s.vars apart W args.toList ds gs before) (hds : ds.length = f.params.toList.length) (hb : Below W.heap.size W W') : s.post enc P f apart true false false W args (.bool true) W' := by
  have hW0 := hW
  obtain ⟨p, q, hA, hV, rfl, hz, hn⟩ := hW
  rw [hv] at hV
  obtain ⟨rfl, rfl⟩ := trodVars_none hV
  simp only [List.append_nil] at hW0
  refine ⟨ds, [], p, [], p, [], hW0, ?_, ?_, ?_, hb.frame _, fun h => by cases h⟩
  · rw [List.append_nil, hfn ds hds, hres]
    exact trodAll_mk1 (shut_bool htb true)
  · rw [List.append_nil, hfn ds hds]
    exact trodAll_below hl hb _ _ _ _ hread hA (fun x hx => hW0.lt x hx)
  · rw [List.append_nil, hfn ds hds, hv]
    rfl
end Go.Ab

/-
  The abstract code of functions, printed by program (abgen.py, abput2.py).
-/
namespace Go.Ab

/-- posthorn/sheet.Right -/
def F_sheet_Right : ACFn := { nt := 60,results := [.tmp 2],body := (.seq (.region [⟨some 1,.box (.tmp 0),none⟩,⟨some 2,.mov (.const (.bool false)),none⟩]) (.seq (.seq (.region [⟨some 7,.faddr 1 (.tmp 1),none⟩,⟨some 8,.load false 1 (.tmp 7),none⟩,
 ⟨some 9,.len false (.tmp 8),none⟩,⟨some 10,.mov (.const (.int .i64 0)),none⟩]) (.block 0 (.loop (.seq (.region [⟨some 11,.bin .lss .no (.tmp 10) (.tmp 9),none⟩]) (.seq (.cond (.tmp 11) (.skip) (.exit 0)) (.seq (.block 1 (.seq (.region [⟨some 12,.mov (.tmp 10),none⟩,
 ⟨some 13,.iaddr 2 (.tmp 8) (.tmp 10),none⟩,⟨some 14,.load true 2 (.tmp 13),none⟩,⟨some 4,.alloc [.str [],.str []],none⟩,⟨some 3,.mov (.tmp 12),none⟩,⟨none,.store 2 (.tmp 4) (.tmp 14),none⟩]) (.seq (.seq (.region [⟨some 15,.faddr 0 (.tmp 4),none⟩,
 ⟨some 16,.load false 1 (.tmp 15),none⟩,⟨some 17,.call (.fn 64) [(.tmp 16)],none⟩,⟨some 18,.un .not (.tmp 17),none⟩,⟨some 19,.mov (.tmp 18),none⟩,⟨some 20,.faddr 1 (.tmp 4),some (19,false)⟩,⟨some 21,.load false 1 (.tmp 20),some (19,false)⟩,
 ⟨some 22,.call (.fn 65) [(.tmp 21),(.const (.int .i64 256))],some (19,false)⟩,⟨some 23,.un .not (.tmp 22),some (19,false)⟩,⟨some 24,.pick (.tmp 19) (.const (.bool true)) (.tmp 23),none⟩,⟨some 25,.mov (.tmp 24),none⟩,
 ⟨some 26,.faddr 1 (.tmp 4),some (25,false)⟩,⟨some 27,.load false 1 (.tmp 26),some (25,false)⟩,⟨some 28,.call (.fn 66) [(.tmp 27),(.const (.str [34]))],some (25,false)⟩,⟨some 29,.pick (.tmp 25) (.const (.bool true)) (.tmp 28),none⟩]) (.cond (.tmp 29) (.seq (.region [⟨some 2,.mov (.const (.bool false)),none⟩]) (.ret)) (.skip))) (.seq (.region [⟨some 30,.faddr 1 (.tmp 1),none⟩,
 ⟨some 31,.load false 1 (.tmp 30),none⟩,⟨some 32,.mov (.tmp 3),none⟩,⟨some 33,.slc 2 (.tmp 31) none (some (.tmp 32)) none,none⟩,⟨some 34,.len false (.tmp 33),none⟩,⟨some 35,.mov (.const (.int .i64 0)),none⟩]) (.block 2 (.loop (.seq (.region [⟨some 36,.bin .lss .no (.tmp 35) (.tmp 34),none⟩]) (.seq (.cond (.tmp 36) (.skip) (.exit 2)) (.seq (.block 3 (.seq (.region [⟨some 37,.iaddr 2 (.tmp 33) (.tmp 35),none⟩,
 ⟨some 38,.load true 2 (.tmp 37),none⟩,⟨some 6,.alloc [.str [],.str []],none⟩,⟨none,.store 2 (.tmp 6) (.tmp 38),none⟩]) (.seq (.region [⟨some 39,.faddr 0 (.tmp 6),none⟩,⟨some 40,.load false 1 (.tmp 39),none⟩,
 ⟨some 41,.faddr 0 (.tmp 4),none⟩,⟨some 42,.load false 1 (.tmp 41),none⟩,⟨some 43,.bin .eql .no (.tmp 40) (.tmp 42),none⟩]) (.cond (.tmp 43) (.seq (.region [⟨some 2,.mov (.const (.bool false)),none⟩]) (.ret)) (.skip))))) (.region [⟨some 44,.bin .add .no (.tmp 35) (.const (.int .i64 1)),none⟩,
 ⟨some 35,.mov (.tmp 44),none⟩])))))))))) (.region [⟨some 45,.bin .add .no (.tmp 10) (.const (.int .i64 1)),none⟩,⟨some 10,.mov (.tmp 45),none⟩]))))))) (.seq (.region [⟨some 46,.faddr 0 (.tmp 1),none⟩,⟨some 47,.load false 1 (.tmp 46),none⟩,
 ⟨some 48,.call (.fn 64) [(.tmp 47)],none⟩,⟨some 49,.mov (.tmp 48),none⟩,⟨some 50,.faddr 2 (.tmp 1),some (49,true)⟩,⟨some 51,.load false 1 (.tmp 50),some (49,true)⟩,⟨some 52,.call (.fn 65) [(.tmp 51),(.const (.int .i64 4096))],some (49,true)⟩,
 ⟨some 53,.pick (.tmp 49) (.tmp 52) (.const (.bool false)),none⟩,⟨some 54,.mov (.tmp 53),none⟩,⟨some 55,.faddr 1 (.tmp 1),some (54,true)⟩,⟨some 56,.load false 1 (.tmp 55),some (54,true)⟩,⟨some 57,.len false (.tmp 56),some (54,true)⟩,
 ⟨some 58,.bin .leq .no (.tmp 57) (.const (.int .i64 16)),some (54,true)⟩,⟨some 59,.pick (.tmp 54) (.tmp 58) (.const (.bool false)),none⟩,⟨some 2,.mov (.tmp 59),none⟩]) (.ret)))) }

/-- posthorn/posthornref10.Right -/
def F_posthornref10_Right : ACFn := { nt := 75,results := [.tmp 2],body := (.seq (.region [⟨some 1,.box (.tmp 0),none⟩,⟨some 2,.mov (.const (.bool false)),none⟩]) (.seq (.seq (.region [⟨some 6,.faddr 0 (.tmp 1),none⟩,⟨some 7,.load false 1 (.tmp 6),none⟩,
 ⟨some 8,.call (.fn 67) [(.tmp 7)],none⟩,⟨some 9,.un .not (.tmp 8),none⟩,⟨some 10,.mov (.tmp 9),none⟩,⟨some 11,.faddr 2 (.tmp 1),some (10,false)⟩,⟨some 12,.load false 1 (.tmp 11),some (10,false)⟩,⟨some 13,.call (.fn 68) [(.tmp 12)],some (10,false)⟩,
 ⟨some 14,.un .not (.tmp 13),some (10,false)⟩,⟨some 15,.pick (.tmp 10) (.const (.bool true)) (.tmp 14),none⟩,⟨some 16,.mov (.tmp 15),none⟩,⟨some 17,.faddr 2 (.tmp 1),some (16,false)⟩,⟨some 18,.load false 1 (.tmp 17),some (16,false)⟩,
 ⟨some 19,.len true (.tmp 18),some (16,false)⟩,⟨some 20,.bin .gtr .no (.tmp 19) (.const (.int .i64 4096)),some (16,false)⟩,⟨some 21,.pick (.tmp 16) (.const (.bool true)) (.tmp 20),none⟩,⟨some 22,.mov (.tmp 21),none⟩,
 ⟨some 23,.faddr 1 (.tmp 1),some (22,false)⟩,⟨some 24,.load false 1 (.tmp 23),some (22,false)⟩,⟨some 25,.len false (.tmp 24),some (22,false)⟩,⟨some 26,.bin .gtr .no (.tmp 25) (.const (.int .i64 16)),some (22,false)⟩,
 ⟨some 27,.pick (.tmp 22) (.const (.bool true)) (.tmp 26),none⟩]) (.cond (.tmp 27) (.seq (.region [⟨some 2,.mov (.const (.bool false)),none⟩]) (.ret)) (.skip))) (.seq (.seq (.region [⟨some 3,.mov (.const (.int .i64 0)),none⟩]) (.block 0 (.loop (.seq (.seq (.region [⟨some 28,.mov (.tmp 3),none⟩,
 ⟨some 29,.faddr 1 (.tmp 1),none⟩,⟨some 30,.load false 1 (.tmp 29),none⟩,⟨some 31,.len false (.tmp 30),none⟩,⟨some 32,.bin .lss .no (.tmp 28) (.tmp 31),none⟩]) (.cond (.tmp 32) (.skip) (.exit 0))) (.seq (.block 1 (.seq (.region [⟨some 35,.faddr 1 (.tmp 1),none⟩,
 ⟨some 36,.load false 1 (.tmp 35),none⟩,⟨some 37,.mov (.tmp 3),none⟩,⟨some 38,.iaddr 2 (.tmp 36) (.tmp 37),none⟩,⟨some 39,.load true 2 (.tmp 38),none⟩,⟨some 4,.alloc [.str [],.str []],none⟩,⟨none,.store 2 (.tmp 4) (.tmp 39),none⟩]) (.seq (.seq (.region [⟨some 40,.faddr 0 (.tmp 4),none⟩,
 ⟨some 41,.load false 1 (.tmp 40),none⟩,⟨some 42,.call (.fn 67) [(.tmp 41)],none⟩,⟨some 43,.un .not (.tmp 42),none⟩,⟨some 44,.mov (.tmp 43),none⟩,⟨some 45,.faddr 1 (.tmp 4),some (44,false)⟩,⟨some 46,.load false 1 (.tmp 45),some (44,false)⟩,
 ⟨some 47,.call (.fn 68) [(.tmp 46)],some (44,false)⟩,⟨some 48,.un .not (.tmp 47),some (44,false)⟩,⟨some 49,.pick (.tmp 44) (.const (.bool true)) (.tmp 48),none⟩,⟨some 50,.mov (.tmp 49),none⟩,⟨some 51,.faddr 1 (.tmp 4),some (50,false)⟩,
 ⟨some 52,.load false 1 (.tmp 51),some (50,false)⟩,⟨some 53,.len true (.tmp 52),some (50,false)⟩,⟨some 54,.bin .gtr .no (.tmp 53) (.const (.int .i64 256)),some (50,false)⟩,⟨some 55,.pick (.tmp 50) (.const (.bool true)) (.tmp 54),none⟩,
 ⟨some 56,.mov (.tmp 55),none⟩,⟨some 57,.faddr 1 (.tmp 4),some (56,false)⟩,⟨some 58,.load false 1 (.tmp 57),some (56,false)⟩,⟨some 59,.call (.fn 56) [(.tmp 58),(.const (.str [34]))],some (56,false)⟩,⟨some 60,.pick (.tmp 56) (.const (.bool true)) (.tmp 59),none⟩]) (.cond (.tmp 60) (.seq (.region [⟨some 2,.mov (.const (.bool false)),none⟩]) (.ret)) (.skip))) (.seq (.region [⟨some 5,.mov (.const (.int .i64 0)),none⟩]) (.block 2 (.loop (.seq (.seq (.region [⟨some 61,.mov (.tmp 5),none⟩,
 ⟨some 62,.mov (.tmp 3),none⟩,⟨some 63,.bin .lss .no (.tmp 61) (.tmp 62),none⟩]) (.cond (.tmp 63) (.skip) (.exit 2))) (.seq (.block 3 (.seq (.region [⟨some 66,.faddr 1 (.tmp 1),none⟩,⟨some 67,.load false 1 (.tmp 66),none⟩,
 ⟨some 68,.mov (.tmp 5),none⟩,⟨some 69,.iaddr 2 (.tmp 67) (.tmp 68),none⟩,⟨some 70,.faddr 0 (.tmp 69),none⟩,⟨some 71,.load false 1 (.tmp 70),none⟩,⟨some 72,.faddr 0 (.tmp 4),none⟩,⟨some 73,.load false 1 (.tmp 72),none⟩,
 ⟨some 74,.bin .eql .no (.tmp 71) (.tmp 73),none⟩]) (.cond (.tmp 74) (.seq (.region [⟨some 2,.mov (.const (.bool false)),none⟩]) (.ret)) (.skip)))) (.region [⟨some 64,.mov (.tmp 5),none⟩,⟨some 65,.bin .add .no (.tmp 64) (.const (.int .i64 1)),none⟩,
 ⟨some 5,.mov (.tmp 65),none⟩]))))))))) (.region [⟨some 33,.mov (.tmp 3),none⟩,⟨some 34,.bin .add .no (.tmp 33) (.const (.int .i64 1)),none⟩,⟨some 3,.mov (.tmp 34),none⟩])))))) (.seq (.region [⟨some 2,.mov (.const (.bool true)),none⟩]) (.ret))))) }

/-- posthorn/utf.Valid -/
def F_utf_Valid : ACFn := { nt := 13,results := [.tmp 2],body := (.seq (.region [⟨some 2,.mov (.const (.bool false)),none⟩]) (.seq (.region [⟨some 6,.mov (.tmp 0),none⟩,⟨some 7,.call (.fn 69) [(.tmp 6)],none⟩,⟨some 5,.mov (.tmp 7),none⟩,
 ⟨some 8,.ext 0 (.tmp 5),none⟩,⟨some 9,.ext 1 (.tmp 5),none⟩,⟨some 4,.alloc [.int .i64 0,.int .i64 0],none⟩,⟨some 3,.mov (.tmp 8),none⟩,⟨none,.store 2 (.tmp 4) (.tmp 9),none⟩]) (.seq (.region [⟨some 10,.faddr 1 (.tmp 4),none⟩,
 ⟨some 11,.load false 1 (.tmp 10),none⟩,⟨some 12,.bin .eql .no (.tmp 11) (.const (.int .i64 0)),none⟩,⟨some 2,.mov (.tmp 12),none⟩]) (.ret)))) }

/-- posthorn/posthornref04.Has -/
def F_posthornref04_Has : ACFn := { nt := 24,results := [.tmp 4],body := (.seq (.region [⟨some 4,.mov (.const (.bool false)),none⟩]) (.seq (.seq (.region [⟨some 5,.mov (.const (.int .i64 0)),none⟩]) (.block 0 (.loop (.seq (.seq (.region [⟨some 6,.mov (.tmp 5),none⟩,
 ⟨some 7,.mov (.tmp 1),none⟩,⟨some 8,.len true (.tmp 7),none⟩,⟨some 9,.bin .add .no (.tmp 6) (.tmp 8),none⟩,⟨some 10,.mov (.tmp 0),none⟩,⟨some 11,.len true (.tmp 10),none⟩,⟨some 12,.bin .leq .no (.tmp 9) (.tmp 11),none⟩]) (.cond (.tmp 12) (.skip) (.exit 0))) (.seq (.block 1 (.seq (.region [⟨some 15,.mov (.tmp 0),none⟩,
 ⟨some 16,.mov (.tmp 5),none⟩,⟨some 17,.mov (.tmp 5),none⟩,⟨some 18,.mov (.tmp 1),none⟩,⟨some 19,.len true (.tmp 18),none⟩,⟨some 20,.bin .add .no (.tmp 17) (.tmp 19),none⟩,⟨some 21,.slc 0 (.tmp 15) (some (.tmp 16)) (some (.tmp 20)) none,none⟩,
 ⟨some 22,.mov (.tmp 1),none⟩,⟨some 23,.bin .eql .no (.tmp 21) (.tmp 22),none⟩]) (.cond (.tmp 23) (.seq (.region [⟨some 4,.mov (.const (.bool true)),none⟩]) (.ret)) (.skip)))) (.region [⟨some 13,.mov (.tmp 5),none⟩,
 ⟨some 14,.bin .add .no (.tmp 13) (.const (.int .i64 1)),none⟩,⟨some 5,.mov (.tmp 14),none⟩])))))) (.seq (.region [⟨some 4,.mov (.const (.bool false)),none⟩]) (.ret)))) }

/-- (*strings.Builder).WriteByte -/
def F_P_strings_Builder_WriteByte : ACFn := { nt := 17,results := [.tmp 4],body := (.seq (.region [⟨some 4,.mov (.const (.nili)),none⟩]) (.seq (.region [⟨some 5,.mov (.tmp 0),none⟩,⟨some 6,.call (.fn 73) [(.tmp 5)],none⟩]) (.seq (.region [⟨some 7,.mov (.tmp 0),none⟩,
 ⟨some 8,.mov (.tmp 0),none⟩,⟨some 9,.nilck (.tmp 8),none⟩,⟨some 10,.faddr 1 (.tmp 9),none⟩,⟨some 11,.load false 1 (.tmp 10),none⟩,⟨some 12,.mov (.tmp 1),none⟩,⟨some 13,.lit8 1 [(0,(.tmp 12))],none⟩,⟨some 14,.app true 1 (.tmp 11) (.tmp 13),none⟩,
 ⟨some 15,.nilck (.tmp 7),none⟩,⟨some 16,.faddr 1 (.tmp 15),none⟩,⟨none,.store 1 (.tmp 16) (.tmp 14),none⟩]) (.seq (.region [⟨some 4,.mov (.const (.nili)),none⟩]) (.ret))))) }

/-- (*strings.Builder).WriteString -/
def F_P_strings_Builder_WriteString : ACFn := { nt := 19,results := [.tmp 4,.tmp 5],body := (.seq (.region [⟨some 4,.mov (.const (.int .i64 0)),none⟩,⟨some 5,.mov (.const (.nili)),none⟩]) (.seq (.region [⟨some 6,.mov (.tmp 0),none⟩,⟨some 7,.call (.fn 73) [(.tmp 6)],none⟩]) (.seq (.region [⟨some 8,.mov (.tmp 0),none⟩,
 ⟨some 9,.mov (.tmp 0),none⟩,⟨some 10,.nilck (.tmp 9),none⟩,⟨some 11,.faddr 1 (.tmp 10),none⟩,⟨some 12,.load false 1 (.tmp 11),none⟩,⟨some 13,.mov (.tmp 1),none⟩,⟨some 14,.app true 1 (.tmp 12) (.tmp 13),none⟩,
 ⟨some 15,.nilck (.tmp 8),none⟩,⟨some 16,.faddr 1 (.tmp 15),none⟩,⟨none,.store 1 (.tmp 16) (.tmp 14),none⟩]) (.seq (.region [⟨some 17,.mov (.tmp 1),none⟩,⟨some 18,.len true (.tmp 17),none⟩,⟨some 4,.mov (.tmp 18),none⟩,
 ⟨some 5,.mov (.const (.nili)),none⟩]) (.ret))))) }

/-- posthorn/sheet.line -/
def F_sheet_line : ACFn := { nt := 45,results := [.tmp 2],body := (.seq (.region [⟨some 1,.box (.tmp 0),none⟩,⟨some 2,.mov (.const (.str [])),none⟩]) (.seq (.region [⟨some 7,.faddr 0 (.tmp 1),none⟩,⟨some 8,.load false 1 (.tmp 7),none⟩,
 ⟨some 3,.mov (.tmp 8),none⟩]) (.seq (.seq (.region [⟨some 9,.faddr 1 (.tmp 1),none⟩,⟨some 10,.load false 1 (.tmp 9),none⟩,⟨some 11,.len false (.tmp 10),none⟩,⟨some 12,.mov (.const (.int .i64 0)),none⟩]) (.block 0 (.loop (.seq (.region [⟨some 13,.bin .lss .no (.tmp 12) (.tmp 11),none⟩]) (.seq (.cond (.tmp 13) (.skip) (.exit 0)) (.seq (.block 1 (.seq (.region [⟨some 14,.iaddr 2 (.tmp 10) (.tmp 12),none⟩,
 ⟨some 15,.load true 2 (.tmp 14),none⟩,⟨some 5,.alloc [.str [],.str []],none⟩,⟨none,.store 2 (.tmp 5) (.tmp 15),none⟩]) (.seq (.region [⟨some 16,.faddr 1 (.tmp 5),none⟩,⟨some 17,.load false 1 (.tmp 16),none⟩,
 ⟨some 6,.mov (.tmp 17),none⟩]) (.seq (.seq (.region [⟨some 18,.mov (.tmp 6),none⟩,⟨some 19,.call (.fn 66) [(.tmp 18),(.const (.str [59]))],none⟩,⟨some 20,.mov (.tmp 19),none⟩,⟨some 21,.mov (.tmp 6),some (20,false)⟩,
 ⟨some 22,.call (.fn 66) [(.tmp 21),(.const (.str [58]))],some (20,false)⟩,⟨some 23,.pick (.tmp 20) (.const (.bool true)) (.tmp 22),none⟩,⟨some 24,.mov (.tmp 23),none⟩,⟨some 25,.mov (.tmp 6),some (24,false)⟩,
 ⟨some 26,.call (.fn 66) [(.tmp 25),(.const (.str [44]))],some (24,false)⟩,⟨some 27,.pick (.tmp 24) (.const (.bool true)) (.tmp 26),none⟩]) (.cond (.tmp 27) (.region [⟨some 28,.mov (.tmp 6),none⟩,⟨some 29,.bin .add .no (.const (.str [34])) (.tmp 28),none⟩,
 ⟨some 30,.bin .add .no (.tmp 29) (.const (.str [34])),none⟩,⟨some 6,.mov (.tmp 30),none⟩]) (.skip))) (.region [⟨some 31,.mov (.tmp 3),none⟩,⟨some 32,.faddr 0 (.tmp 5),none⟩,⟨some 33,.load false 1 (.tmp 32),none⟩,
 ⟨some 34,.bin .add .no (.const (.str [59])) (.tmp 33),none⟩,⟨some 35,.bin .add .no (.tmp 34) (.const (.str [61])),none⟩,⟨some 36,.mov (.tmp 6),none⟩,⟨some 37,.bin .add .no (.tmp 35) (.tmp 36),none⟩,⟨some 38,.bin .add .no (.tmp 31) (.tmp 37),none⟩,
 ⟨some 3,.mov (.tmp 38),none⟩]))))) (.region [⟨some 39,.bin .add .no (.tmp 12) (.const (.int .i64 1)),none⟩,⟨some 12,.mov (.tmp 39),none⟩]))))))) (.seq (.region [⟨some 40,.mov (.tmp 3),none⟩,⟨some 41,.bin .add .no (.tmp 40) (.const (.str [58])),none⟩,
 ⟨some 42,.faddr 2 (.tmp 1),none⟩,⟨some 43,.load false 1 (.tmp 42),none⟩,⟨some 44,.bin .add .no (.tmp 41) (.tmp 43),none⟩,⟨some 2,.mov (.tmp 44),none⟩]) (.ret))))) }

/-- posthorn/utf.Cut -/
def F_utf_Cut : ACFn := { nt := 33,results := [.tmp 4],body := (.seq (.region [⟨some 4,.mov (.const (.int .i64 0)),none⟩]) (.seq (.region [⟨some 5,.mov (.tmp 1),none⟩,⟨some 6,.mov (.tmp 0),none⟩,⟨some 7,.len false (.tmp 6),none⟩,
 ⟨some 8,.mnmx false [(.tmp 5),(.tmp 7)],none⟩,⟨some 9,.mnmx true [(.tmp 8),(.const (.int .i64 0))],none⟩,⟨some 1,.mov (.tmp 9),none⟩]) (.seq (.seq (.region [⟨some 10,.mov (.tmp 0),none⟩,⟨some 11,.call (.fn 53) [(.tmp 10)],none⟩,
 ⟨some 12,.un .not (.tmp 11),none⟩]) (.cond (.tmp 12) (.seq (.region [⟨some 13,.mov (.tmp 1),none⟩,⟨some 4,.mov (.tmp 13),none⟩]) (.ret)) (.skip))) (.seq (.block 0 (.loop (.seq (.seq (.region [⟨some 14,.mov (.tmp 1),none⟩,
 ⟨some 15,.bin .gtr .no (.tmp 14) (.const (.int .i64 0)),none⟩,⟨some 16,.mov (.tmp 15),none⟩,⟨some 17,.mov (.tmp 1),some (16,true)⟩,⟨some 18,.mov (.tmp 0),some (16,true)⟩,⟨some 19,.len false (.tmp 18),some (16,true)⟩,
 ⟨some 20,.bin .lss .no (.tmp 17) (.tmp 19),some (16,true)⟩,⟨some 21,.pick (.tmp 16) (.tmp 20) (.const (.bool false)),none⟩,⟨some 22,.mov (.tmp 21),none⟩,⟨some 23,.mov (.tmp 0),some (22,true)⟩,⟨some 24,.mov (.tmp 1),some (22,true)⟩,
 ⟨some 25,.iaddr 1 (.tmp 23) (.tmp 24),some (22,true)⟩,⟨some 26,.load false 1 (.tmp 25),some (22,true)⟩,⟨some 27,.bin .shr .no (.tmp 26) (.const (.int .u64 6)),some (22,true)⟩,⟨some 28,.bin .eql .no (.tmp 27) (.const (.b8 2)),some (22,true)⟩,
 ⟨some 29,.pick (.tmp 22) (.tmp 28) (.const (.bool false)),none⟩]) (.cond (.tmp 29) (.skip) (.exit 0))) (.block 1 (.region [⟨some 30,.mov (.tmp 1),none⟩,⟨some 31,.bin .sub .no (.tmp 30) (.const (.int .i64 1)),none⟩,
 ⟨some 1,.mov (.tmp 31),none⟩]))))) (.seq (.region [⟨some 32,.mov (.tmp 1),none⟩,⟨some 4,.mov (.tmp 32),none⟩]) (.ret)))))) }

/-- posthorn/posthornref10.Plain -/
def F_posthornref10_Plain : ACFn := { nt := 51,results := [.tmp 2],body := (.seq (.region [⟨some 1,.box (.tmp 0),none⟩,⟨some 2,.mov (.const (.str [])),none⟩]) (.seq (.region [⟨some 6,.faddr 0 (.tmp 1),none⟩,⟨some 7,.load false 1 (.tmp 6),none⟩,
 ⟨some 3,.mov (.tmp 7),none⟩]) (.seq (.seq (.region [⟨some 4,.mov (.const (.int .i64 0)),none⟩]) (.block 0 (.loop (.seq (.seq (.region [⟨some 8,.mov (.tmp 4),none⟩,⟨some 9,.faddr 1 (.tmp 1),none⟩,⟨some 10,.load false 1 (.tmp 9),none⟩,
 ⟨some 11,.len false (.tmp 10),none⟩,⟨some 12,.bin .lss .no (.tmp 8) (.tmp 11),none⟩]) (.cond (.tmp 12) (.skip) (.exit 0))) (.seq (.block 1 (.seq (.region [⟨some 15,.faddr 1 (.tmp 1),none⟩,⟨some 16,.load false 1 (.tmp 15),none⟩,
 ⟨some 17,.mov (.tmp 4),none⟩,⟨some 18,.iaddr 2 (.tmp 16) (.tmp 17),none⟩,⟨some 19,.faddr 1 (.tmp 18),none⟩,⟨some 20,.load false 1 (.tmp 19),none⟩,⟨some 5,.mov (.tmp 20),none⟩]) (.seq (.seq (.region [⟨some 21,.mov (.tmp 5),none⟩,
 ⟨some 22,.call (.fn 56) [(.tmp 21),(.const (.str [59]))],none⟩,⟨some 23,.mov (.tmp 22),none⟩,⟨some 24,.mov (.tmp 5),some (23,false)⟩,⟨some 25,.call (.fn 56) [(.tmp 24),(.const (.str [58]))],some (23,false)⟩,
 ⟨some 26,.pick (.tmp 23) (.const (.bool true)) (.tmp 25),none⟩,⟨some 27,.mov (.tmp 26),none⟩,⟨some 28,.mov (.tmp 5),some (27,false)⟩,⟨some 29,.call (.fn 56) [(.tmp 28),(.const (.str [44]))],some (27,false)⟩,
 ⟨some 30,.pick (.tmp 27) (.const (.bool true)) (.tmp 29),none⟩]) (.cond (.tmp 30) (.region [⟨some 31,.mov (.tmp 5),none⟩,⟨some 32,.bin .add .no (.const (.str [34])) (.tmp 31),none⟩,⟨some 33,.bin .add .no (.tmp 32) (.const (.str [34])),none⟩,
 ⟨some 5,.mov (.tmp 33),none⟩]) (.skip))) (.region [⟨some 34,.mov (.tmp 3),none⟩,⟨some 35,.bin .add .no (.tmp 34) (.const (.str [59])),none⟩,⟨some 36,.faddr 1 (.tmp 1),none⟩,⟨some 37,.load false 1 (.tmp 36),none⟩,
 ⟨some 38,.mov (.tmp 4),none⟩,⟨some 39,.iaddr 2 (.tmp 37) (.tmp 38),none⟩,⟨some 40,.faddr 0 (.tmp 39),none⟩,⟨some 41,.load false 1 (.tmp 40),none⟩,⟨some 42,.bin .add .no (.tmp 35) (.tmp 41),none⟩,⟨some 43,.bin .add .no (.tmp 42) (.const (.str [61])),none⟩,
 ⟨some 44,.mov (.tmp 5),none⟩,⟨some 45,.bin .add .no (.tmp 43) (.tmp 44),none⟩,⟨some 3,.mov (.tmp 45),none⟩])))) (.region [⟨some 13,.mov (.tmp 4),none⟩,⟨some 14,.bin .add .no (.tmp 13) (.const (.int .i64 1)),none⟩,
 ⟨some 4,.mov (.tmp 14),none⟩])))))) (.seq (.region [⟨some 46,.mov (.tmp 3),none⟩,⟨some 47,.bin .add .no (.tmp 46) (.const (.str [58])),none⟩,⟨some 48,.faddr 2 (.tmp 1),none⟩,⟨some 49,.load false 1 (.tmp 48),none⟩,
 ⟨some 50,.bin .add .no (.tmp 47) (.tmp 49),none⟩,⟨some 2,.mov (.tmp 50),none⟩]) (.ret))))) }

/-- posthorn/posthornref02.Cut -/
def F_posthornref02_Cut : ACFn := { nt := 43,results := [.tmp 4],body := (.seq (.region [⟨some 4,.mov (.const (.int .i64 0)),none⟩]) (.seq (.seq (.region [⟨some 9,.mov (.tmp 1),none⟩,⟨some 10,.bin .lss .no (.tmp 9) (.const (.int .i64 0)),none⟩]) (.cond (.tmp 10) (.seq (.region [⟨some 4,.mov (.const (.int .i64 0)),none⟩]) (.ret)) (.skip))) (.seq (.seq (.region [⟨some 11,.mov (.tmp 0),none⟩,
 ⟨some 12,.call (.fn 74) [(.tmp 11)],none⟩,⟨some 13,.un .not (.tmp 12),none⟩]) (.cond (.tmp 13) (.seq (.seq (.region [⟨some 14,.mov (.tmp 1),none⟩,⟨some 15,.mov (.tmp 0),none⟩,⟨some 16,.len false (.tmp 15),none⟩,
 ⟨some 17,.bin .lss .no (.tmp 14) (.tmp 16),none⟩]) (.cond (.tmp 17) (.seq (.region [⟨some 18,.mov (.tmp 1),none⟩,⟨some 4,.mov (.tmp 18),none⟩]) (.ret)) (.skip))) (.seq (.region [⟨some 19,.mov (.tmp 0),none⟩,
 ⟨some 20,.len false (.tmp 19),none⟩,⟨some 4,.mov (.tmp 20),none⟩]) (.ret))) (.skip))) (.seq (.region [⟨some 5,.mov (.const (.int .i64 0)),none⟩]) (.seq (.block 0 (.loop (.seq (.seq (.region [⟨some 21,.mov (.tmp 5),none⟩,
 ⟨some 22,.mov (.tmp 0),none⟩,⟨some 23,.len false (.tmp 22),none⟩,⟨some 24,.bin .lss .no (.tmp 21) (.tmp 23),none⟩]) (.cond (.tmp 24) (.skip) (.exit 0))) (.block 1 (.seq (.region [⟨some 26,.mov (.tmp 0),none⟩,
 ⟨some 27,.mov (.tmp 5),none⟩,⟨some 28,.slc 1 (.tmp 26) (some (.tmp 27)) none none,none⟩,⟨some 29,.call (.fn 75) [(.tmp 28)],none⟩,⟨some 25,.mov (.tmp 29),none⟩,⟨some 30,.ext 0 (.tmp 25),none⟩,⟨some 31,.ext 1 (.tmp 25),none⟩,
 ⟨some 32,.ext 2 (.tmp 25),none⟩,⟨some 6,.mov (.tmp 30),none⟩,⟨some 7,.mov (.tmp 31),none⟩,⟨some 8,.mov (.tmp 32),none⟩]) (.seq (.seq (.region [⟨some 33,.mov (.tmp 7),none⟩,⟨some 34,.mov (.tmp 1),none⟩,
 ⟨some 35,.mov (.tmp 5),none⟩,⟨some 36,.bin .sub .no (.tmp 34) (.tmp 35),none⟩,⟨some 37,.bin .gtr .no (.tmp 33) (.tmp 36),none⟩]) (.cond (.tmp 37) (.seq (.region [⟨some 38,.mov (.tmp 5),none⟩,⟨some 4,.mov (.tmp 38),none⟩]) (.ret)) (.skip))) (.region [⟨some 39,.mov (.tmp 5),none⟩,
 ⟨some 40,.mov (.tmp 7),none⟩,⟨some 41,.bin .add .no (.tmp 39) (.tmp 40),none⟩,⟨some 5,.mov (.tmp 41),none⟩]))))))) (.seq (.region [⟨some 42,.mov (.tmp 5),none⟩,⟨some 4,.mov (.tmp 42),none⟩]) (.ret))))))) }

/-- posthorn/sheet.isName -/
def F_sheet_isName : ACFn := { nt := 40,results := [.tmp 2],body := (.seq (.region [⟨some 2,.mov (.const (.bool false)),none⟩]) (.seq (.seq (.region [⟨some 5,.mov (.tmp 0),none⟩,⟨some 6,.len true (.tmp 5),none⟩,⟨some 7,.mov (.const (.int .i64 0)),none⟩]) (.block 0 (.loop (.seq (.region [⟨some 8,.bin .lss .no (.tmp 7) (.tmp 6),none⟩]) (.seq (.cond (.tmp 8) (.skip) (.exit 0)) (.seq (.block 1 (.seq (.region [⟨some 9,.mov (.tmp 7),none⟩,
 ⟨some 3,.mov (.tmp 9),none⟩]) (.seq (.region [⟨some 10,.mov (.tmp 0),none⟩,⟨some 11,.mov (.tmp 3),none⟩,⟨some 12,.idxS (.tmp 10) (.tmp 11),none⟩,⟨some 4,.mov (.tmp 12),none⟩]) (.seq (.region [⟨some 13,.mov (.tmp 4),none⟩,
 ⟨some 14,.bin .geq .no (.tmp 13) (.const (.b8 65)),none⟩,⟨some 15,.mov (.tmp 14),none⟩,⟨some 16,.mov (.tmp 4),some (15,true)⟩,⟨some 17,.bin .leq .no (.tmp 16) (.const (.b8 90)),some (15,true)⟩,⟨some 18,.pick (.tmp 15) (.tmp 17) (.const (.bool false)),none⟩,
 ⟨some 19,.mov (.tmp 18),none⟩,⟨some 20,.mov (.tmp 4),some (19,false)⟩,⟨some 21,.bin .geq .no (.tmp 20) (.const (.b8 48)),some (19,false)⟩,⟨some 22,.mov (.tmp 21),some (19,false)⟩,⟨some 23,.mov (.tmp 4),some (22,true)⟩,
 ⟨some 24,.bin .leq .no (.tmp 23) (.const (.b8 57)),some (22,true)⟩,⟨some 25,.pick (.tmp 22) (.tmp 24) (.const (.bool false)),some (19,false)⟩,⟨some 26,.pick (.tmp 19) (.const (.bool true)) (.tmp 25),none⟩,
 ⟨some 27,.mov (.tmp 26),none⟩,⟨some 28,.mov (.tmp 4),some (27,false)⟩,⟨some 29,.bin .eql .no (.tmp 28) (.const (.b8 45)),some (27,false)⟩,⟨some 30,.pick (.tmp 27) (.const (.bool true)) (.tmp 29),none⟩,
 ⟨some 31,.un .not (.tmp 30),none⟩]) (.cond (.tmp 31) (.seq (.region [⟨some 2,.mov (.const (.bool false)),none⟩]) (.ret)) (.skip)))))) (.region [⟨some 32,.bin .add .no (.tmp 7) (.const (.int .i64 1)),none⟩,
 ⟨some 7,.mov (.tmp 32),none⟩]))))))) (.seq (.region [⟨some 33,.mov (.tmp 0),none⟩,⟨some 34,.bin .neq .no (.tmp 33) (.const (.str [])),none⟩,⟨some 35,.mov (.tmp 34),none⟩,⟨some 36,.mov (.tmp 0),some (35,true)⟩,
 ⟨some 37,.len true (.tmp 36),some (35,true)⟩,⟨some 38,.bin .leq .no (.tmp 37) (.const (.int .i64 64)),some (35,true)⟩,⟨some 39,.pick (.tmp 35) (.tmp 38) (.const (.bool false)),none⟩,⟨some 2,.mov (.tmp 39),none⟩]) (.ret)))) }

/-- posthorn/sheet.isText -/
def F_sheet_isText : ACFn := { nt := 37,results := [.tmp 4],body := (.seq (.region [⟨some 4,.mov (.const (.bool false)),none⟩]) (.seq (.seq (.region [⟨some 6,.mov (.tmp 0),none⟩,⟨some 7,.len true (.tmp 6),none⟩,⟨some 8,.mov (.const (.int .i64 0)),none⟩]) (.block 0 (.loop (.seq (.region [⟨some 9,.bin .lss .no (.tmp 8) (.tmp 7),none⟩]) (.seq (.cond (.tmp 9) (.skip) (.exit 0)) (.seq (.block 1 (.seq (.region [⟨some 10,.mov (.tmp 8),none⟩,
 ⟨some 5,.mov (.tmp 10),none⟩]) (.seq (.region [⟨some 11,.mov (.tmp 0),none⟩,⟨some 12,.mov (.tmp 5),none⟩,⟨some 13,.idxS (.tmp 11) (.tmp 12),none⟩,⟨some 14,.bin .lss .no (.tmp 13) (.const (.b8 32)),none⟩,
 ⟨some 15,.mov (.tmp 14),none⟩,⟨some 16,.mov (.tmp 0),some (15,true)⟩,⟨some 17,.mov (.tmp 5),some (15,true)⟩,⟨some 18,.idxS (.tmp 16) (.tmp 17),some (15,true)⟩,⟨some 19,.bin .neq .no (.tmp 18) (.const (.b8 9)),some (15,true)⟩,
 ⟨some 20,.pick (.tmp 15) (.tmp 19) (.const (.bool false)),none⟩,⟨some 21,.mov (.tmp 20),none⟩,⟨some 22,.mov (.tmp 0),some (21,false)⟩,⟨some 23,.mov (.tmp 5),some (21,false)⟩,⟨some 24,.idxS (.tmp 22) (.tmp 23),some (21,false)⟩,
 ⟨some 25,.bin .eql .no (.tmp 24) (.const (.b8 127)),some (21,false)⟩,⟨some 26,.pick (.tmp 21) (.const (.bool true)) (.tmp 25),none⟩]) (.cond (.tmp 26) (.seq (.region [⟨some 4,.mov (.const (.bool false)),none⟩]) (.ret)) (.skip))))) (.region [⟨some 27,.bin .add .no (.tmp 8) (.const (.int .i64 1)),none⟩,
 ⟨some 8,.mov (.tmp 27),none⟩]))))))) (.seq (.region [⟨some 28,.mov (.tmp 0),none⟩,⟨some 29,.len true (.tmp 28),none⟩,⟨some 30,.mov (.tmp 1),none⟩,⟨some 31,.bin .leq .no (.tmp 29) (.tmp 30),none⟩,⟨some 32,.mov (.tmp 31),none⟩,
 ⟨some 33,.mov (.tmp 0),some (32,true)⟩,⟨some 34,.cS2B false (.tmp 33),some (32,true)⟩,⟨some 35,.call (.fn 53) [(.tmp 34)],some (32,true)⟩,⟨some 36,.pick (.tmp 32) (.tmp 35) (.const (.bool false)),none⟩,
 ⟨some 4,.mov (.tmp 36),none⟩]) (.ret)))) }

/-- strings.Contains -/
def F_strings_Contains : ACFn := { nt := 9,results := [.tmp 4],body := (.seq (.region [⟨some 4,.mov (.const (.bool false)),none⟩]) (.seq (.region [⟨some 5,.mov (.tmp 0),none⟩,⟨some 6,.mov (.tmp 1),none⟩,⟨some 7,.call (.fn 76) [(.tmp 5),(.tmp 6)],none⟩,
 ⟨some 8,.bin .geq .no (.tmp 7) (.const (.int .i64 0)),none⟩,⟨some 4,.mov (.tmp 8),none⟩]) (.ret))) }

/-- posthorn/posthornref10.Name -/
def F_posthornref10_Name : ACFn := { nt := 47,results := [.tmp 2],body := (.seq (.region [⟨some 2,.mov (.const (.bool false)),none⟩]) (.seq (.seq (.region [⟨some 3,.mov (.const (.int .i64 0)),none⟩]) (.block 0 (.loop (.seq (.seq (.region [⟨some 4,.mov (.tmp 3),none⟩,
 ⟨some 5,.mov (.tmp 0),none⟩,⟨some 6,.len true (.tmp 5),none⟩,⟨some 7,.bin .lss .no (.tmp 4) (.tmp 6),none⟩]) (.cond (.tmp 7) (.skip) (.exit 0))) (.seq (.block 1 (.seq (.region [⟨some 10,.mov (.tmp 0),none⟩,
 ⟨some 11,.mov (.tmp 3),none⟩,⟨some 12,.idxS (.tmp 10) (.tmp 11),none⟩,⟨some 13,.bin .geq .no (.tmp 12) (.const (.b8 65)),none⟩,⟨some 14,.mov (.tmp 13),none⟩,⟨some 15,.mov (.tmp 0),some (14,true)⟩,⟨some 16,.mov (.tmp 3),some (14,true)⟩,
 ⟨some 17,.idxS (.tmp 15) (.tmp 16),some (14,true)⟩,⟨some 18,.bin .leq .no (.tmp 17) (.const (.b8 90)),some (14,true)⟩,⟨some 19,.pick (.tmp 14) (.tmp 18) (.const (.bool false)),none⟩,⟨some 20,.mov (.tmp 19),none⟩,
 ⟨some 21,.mov (.tmp 0),some (20,false)⟩,⟨some 22,.mov (.tmp 3),some (20,false)⟩,⟨some 23,.idxS (.tmp 21) (.tmp 22),some (20,false)⟩,⟨some 24,.bin .geq .no (.tmp 23) (.const (.b8 48)),some (20,false)⟩,⟨some 25,.mov (.tmp 24),some (20,false)⟩,
 ⟨some 26,.mov (.tmp 0),some (25,true)⟩,⟨some 27,.mov (.tmp 3),some (25,true)⟩,⟨some 28,.idxS (.tmp 26) (.tmp 27),some (25,true)⟩,⟨some 29,.bin .leq .no (.tmp 28) (.const (.b8 57)),some (25,true)⟩,⟨some 30,.pick (.tmp 25) (.tmp 29) (.const (.bool false)),some (20,false)⟩,
 ⟨some 31,.pick (.tmp 20) (.const (.bool true)) (.tmp 30),none⟩,⟨some 32,.mov (.tmp 31),none⟩,⟨some 33,.mov (.tmp 0),some (32,false)⟩,⟨some 34,.mov (.tmp 3),some (32,false)⟩,⟨some 35,.idxS (.tmp 33) (.tmp 34),some (32,false)⟩,
 ⟨some 36,.bin .eql .no (.tmp 35) (.const (.b8 45)),some (32,false)⟩,⟨some 37,.pick (.tmp 32) (.const (.bool true)) (.tmp 36),none⟩,⟨some 38,.un .not (.tmp 37),none⟩]) (.cond (.tmp 38) (.seq (.region [⟨some 2,.mov (.const (.bool false)),none⟩]) (.ret)) (.skip)))) (.region [⟨some 8,.mov (.tmp 3),none⟩,
 ⟨some 9,.bin .add .no (.tmp 8) (.const (.int .i64 1)),none⟩,⟨some 3,.mov (.tmp 9),none⟩])))))) (.seq (.region [⟨some 39,.mov (.tmp 0),none⟩,⟨some 40,.len true (.tmp 39),none⟩,⟨some 41,.bin .geq .no (.tmp 40) (.const (.int .i64 1)),none⟩,
 ⟨some 42,.mov (.tmp 41),none⟩,⟨some 43,.mov (.tmp 0),some (42,true)⟩,⟨some 44,.len true (.tmp 43),some (42,true)⟩,⟨some 45,.bin .leq .no (.tmp 44) (.const (.int .i64 64)),some (42,true)⟩,⟨some 46,.pick (.tmp 42) (.tmp 45) (.const (.bool false)),none⟩,
 ⟨some 2,.mov (.tmp 46),none⟩]) (.ret)))) }

/-- posthorn/posthornref10.Text -/
def F_posthornref10_Text : ACFn := { nt := 29,results := [.tmp 2],body := (.seq (.region [⟨some 2,.mov (.const (.bool false)),none⟩]) (.seq (.seq (.region [⟨some 3,.mov (.const (.int .i64 0)),none⟩]) (.block 0 (.loop (.seq (.seq (.region [⟨some 4,.mov (.tmp 3),none⟩,
 ⟨some 5,.mov (.tmp 0),none⟩,⟨some 6,.len true (.tmp 5),none⟩,⟨some 7,.bin .lss .no (.tmp 4) (.tmp 6),none⟩]) (.cond (.tmp 7) (.skip) (.exit 0))) (.seq (.block 1 (.seq (.region [⟨some 10,.mov (.tmp 0),none⟩,
 ⟨some 11,.mov (.tmp 3),none⟩,⟨some 12,.idxS (.tmp 10) (.tmp 11),none⟩,⟨some 13,.bin .eql .no (.tmp 12) (.const (.b8 127)),none⟩,⟨some 14,.mov (.tmp 13),none⟩,⟨some 15,.mov (.tmp 0),some (14,false)⟩,⟨some 16,.mov (.tmp 3),some (14,false)⟩,
 ⟨some 17,.idxS (.tmp 15) (.tmp 16),some (14,false)⟩,⟨some 18,.bin .lss .no (.tmp 17) (.const (.b8 32)),some (14,false)⟩,⟨some 19,.mov (.tmp 18),some (14,false)⟩,⟨some 20,.mov (.tmp 0),some (19,true)⟩,⟨some 21,.mov (.tmp 3),some (19,true)⟩,
 ⟨some 22,.idxS (.tmp 20) (.tmp 21),some (19,true)⟩,⟨some 23,.bin .neq .no (.tmp 22) (.const (.b8 9)),some (19,true)⟩,⟨some 24,.pick (.tmp 19) (.tmp 23) (.const (.bool false)),some (14,false)⟩,⟨some 25,.pick (.tmp 14) (.const (.bool true)) (.tmp 24),none⟩]) (.cond (.tmp 25) (.seq (.region [⟨some 2,.mov (.const (.bool false)),none⟩]) (.ret)) (.skip)))) (.region [⟨some 8,.mov (.tmp 3),none⟩,
 ⟨some 9,.bin .add .no (.tmp 8) (.const (.int .i64 1)),none⟩,⟨some 3,.mov (.tmp 9),none⟩])))))) (.seq (.region [⟨some 26,.mov (.tmp 0),none⟩,⟨some 27,.cS2B false (.tmp 26),none⟩,⟨some 28,.call (.fn 74) [(.tmp 27)],none⟩,
 ⟨some 2,.mov (.tmp 28),none⟩]) (.ret)))) }

/-- posthorn/utf.Points -/
def F_utf_Points : ACFn := { nt := 35,results := [.tmp 2,.cell 3 true 2],body := (.seq (.region [⟨some 2,.mov (.const (.nils)),none⟩,⟨some 3,.alloc [.int .i64 0,.int .i64 0],none⟩]) (.seq (.region [⟨some 4,.mov (.const (.nils)),none⟩]) (.seq (.seq (.region [⟨some 5,.mov (.const (.int .i64 0)),none⟩]) (.block 0 (.loop (.seq (.seq (.region [⟨some 9,.mov (.tmp 5),none⟩,
 ⟨some 10,.mov (.tmp 0),none⟩,⟨some 11,.len false (.tmp 10),none⟩,⟨some 12,.bin .lss .no (.tmp 9) (.tmp 11),none⟩]) (.cond (.tmp 12) (.skip) (.exit 0))) (.block 1 (.seq (.region [⟨some 14,.mov (.tmp 0),none⟩,
 ⟨some 15,.mov (.tmp 5),none⟩,⟨some 16,.slc 1 (.tmp 14) (some (.tmp 15)) none none,none⟩,⟨some 17,.call (.fn 77) [(.tmp 16)],none⟩,⟨some 13,.mov (.tmp 17),none⟩,⟨some 18,.ext 0 (.tmp 13),none⟩,⟨some 19,.ext 1 (.tmp 13),none⟩,
 ⟨some 20,.ext 2 (.tmp 13),none⟩,⟨some 6,.mov (.tmp 18),none⟩,⟨some 7,.mov (.tmp 19),none⟩,⟨some 8,.mov (.tmp 20),none⟩]) (.seq (.seq (.region [⟨some 21,.mov (.tmp 8),none⟩,⟨some 22,.bin .neq .no (.tmp 21) (.const (.int .i64 0)),none⟩]) (.cond (.tmp 22) (.seq (.region [⟨some 23,.mov (.tmp 5),none⟩,
 ⟨some 24,.mov (.tmp 8),none⟩,⟨some 25,.build [.int .i64 0,.int .i64 0] [(0,1,(.tmp 23)),(1,1,(.tmp 24))],none⟩,⟨some 2,.mov (.const (.nils)),none⟩,⟨none,.store 2 (.tmp 3) (.tmp 25),none⟩]) (.ret)) (.skip))) (.seq (.region [⟨some 26,.mov (.tmp 4),none⟩,
 ⟨some 27,.mov (.tmp 6),none⟩,⟨some 28,.lit 1 (.int .i32 0) 1 [(0,(.tmp 27))],none⟩,⟨some 29,.app false 1 (.tmp 26) (.tmp 28),none⟩,⟨some 4,.mov (.tmp 29),none⟩]) (.region [⟨some 30,.mov (.tmp 5),none⟩,
 ⟨some 31,.mov (.tmp 7),none⟩,⟨some 32,.bin .add .no (.tmp 30) (.tmp 31),none⟩,⟨some 5,.mov (.tmp 32),none⟩]))))))))) (.seq (.region [⟨some 33,.mov (.tmp 4),none⟩,⟨some 34,.build [.int .i64 0,.int .i64 0] [],none⟩,
 ⟨some 2,.mov (.tmp 33),none⟩,⟨none,.store 2 (.tmp 3) (.tmp 34),none⟩]) (.ret))))) }

/-- strings.HasPrefix -/
def F_strings_HasPrefix : ACFn := { nt := 8,results := [.tmp 4],body := (.seq (.region [⟨some 4,.mov (.const (.bool false)),none⟩]) (.seq (.region [⟨some 5,.mov (.tmp 0),none⟩,⟨some 6,.mov (.tmp 1),none⟩,⟨some 7,.call (.fn 79) [(.tmp 5),(.tmp 6)],none⟩,
 ⟨some 4,.mov (.tmp 7),none⟩]) (.ret))) }

/-- posthorn/posthornref02.Valid -/
def F_posthornref02_Valid : ACFn := { nt := 13,results := [.tmp 2],body := (.seq (.region [⟨some 2,.mov (.const (.bool false)),none⟩]) (.seq (.region [⟨some 6,.mov (.tmp 0),none⟩,⟨some 7,.call (.fn 80) [(.tmp 6)],none⟩,⟨some 5,.mov (.tmp 7),none⟩,
 ⟨some 8,.ext 0 (.tmp 5),none⟩,⟨some 9,.ext 1 (.tmp 5),none⟩,⟨some 4,.alloc [.int .i64 0,.int .i64 0],none⟩,⟨some 3,.mov (.tmp 8),none⟩,⟨none,.store 2 (.tmp 4) (.tmp 9),none⟩]) (.seq (.region [⟨some 10,.faddr 1 (.tmp 4),none⟩,
 ⟨some 11,.load false 1 (.tmp 10),none⟩,⟨some 12,.bin .eql .no (.tmp 11) (.const (.int .i64 0)),none⟩,⟨some 2,.mov (.tmp 12),none⟩]) (.ret)))) }

/-- posthorn/posthornref02.Next -/
def F_posthornref02_Next : ACFn := { nt := 83,results := [.tmp 2,.tmp 3,.tmp 4],body := (.seq (.region [⟨some 2,.mov (.const (.int .i32 0)),none⟩,⟨some 3,.mov (.const (.int .i64 0)),none⟩,⟨some 4,.mov (.const (.int .i64 0)),none⟩]) (.seq (.seq (.region [⟨some 10,.mov (.tmp 0),none⟩,
 ⟨some 11,.len false (.tmp 10),none⟩,⟨some 12,.bin .eql .no (.tmp 11) (.const (.int .i64 0)),none⟩]) (.cond (.tmp 12) (.seq (.region [⟨some 2,.mov (.const (.int .i32 0)),none⟩,⟨some 3,.mov (.const (.int .i64 0)),none⟩,
 ⟨some 4,.mov (.const (.int .i64 42)),none⟩]) (.ret)) (.skip))) (.seq (.seq (.region [⟨some 13,.mov (.tmp 0),none⟩,⟨some 14,.iaddr 1 (.tmp 13) (.const (.int .i64 0)),none⟩,⟨some 15,.load false 1 (.tmp 14),none⟩,
 ⟨some 16,.bin .lss .no (.tmp 15) (.const (.b8 128)),none⟩]) (.cond (.tmp 16) (.seq (.region [⟨some 17,.mov (.tmp 0),none⟩,⟨some 18,.iaddr 1 (.tmp 17) (.const (.int .i64 0)),none⟩,⟨some 19,.load false 1 (.tmp 18),none⟩,
 ⟨some 20,.cInt .i32 (.tmp 19),none⟩,⟨some 2,.mov (.tmp 20),none⟩,⟨some 3,.mov (.const (.int .i64 1)),none⟩,⟨some 4,.mov (.const (.int .i64 0)),none⟩]) (.ret)) (.skip))) (.seq (.seq (.region [⟨some 5,.mov (.const (.int .i64 2)),none⟩]) (.block 0 (.loop (.seq (.seq (.region [⟨some 21,.mov (.tmp 5),none⟩,
 ⟨some 22,.bin .leq .no (.tmp 21) (.const (.int .i64 4)),none⟩,⟨some 23,.mov (.tmp 22),none⟩,⟨some 24,.mov (.tmp 5),some (23,true)⟩,⟨some 25,.mov (.tmp 0),some (23,true)⟩,⟨some 26,.len false (.tmp 25),some (23,true)⟩,
 ⟨some 27,.bin .leq .no (.tmp 24) (.tmp 26),some (23,true)⟩,⟨some 28,.pick (.tmp 23) (.tmp 27) (.const (.bool false)),none⟩]) (.cond (.tmp 28) (.skip) (.exit 0))) (.seq (.block 1 (.seq (.region [⟨some 31,.mov (.tmp 0),none⟩,
 ⟨some 32,.iaddr 1 (.tmp 31) (.const (.int .i64 0)),none⟩,⟨some 33,.load false 1 (.tmp 32),none⟩,⟨some 34,.cInt .i32 (.tmp 33),none⟩,⟨some 35,.bin .rem .no (.tmp 34) (.const (.int .i32 32)),none⟩,⟨some 6,.mov (.tmp 35),none⟩]) (.seq (.seq (.region [⟨some 36,.mov (.tmp 5),none⟩,
 ⟨some 37,.bin .eql .no (.tmp 36) (.const (.int .i64 3)),none⟩]) (.cond (.tmp 37) (.region [⟨some 38,.mov (.tmp 0),none⟩,⟨some 39,.iaddr 1 (.tmp 38) (.const (.int .i64 0)),none⟩,⟨some 40,.load false 1 (.tmp 39),none⟩,
 ⟨some 41,.cInt .i32 (.tmp 40),none⟩,⟨some 42,.bin .rem .no (.tmp 41) (.const (.int .i32 16)),none⟩,⟨some 6,.mov (.tmp 42),none⟩]) (.skip))) (.seq (.seq (.region [⟨some 43,.mov (.tmp 5),none⟩,⟨some 44,.bin .eql .no (.tmp 43) (.const (.int .i64 4)),none⟩]) (.cond (.tmp 44) (.region [⟨some 45,.mov (.tmp 0),none⟩,
 ⟨some 46,.iaddr 1 (.tmp 45) (.const (.int .i64 0)),none⟩,⟨some 47,.load false 1 (.tmp 46),none⟩,⟨some 48,.cInt .i32 (.tmp 47),none⟩,⟨some 49,.bin .rem .no (.tmp 48) (.const (.int .i32 8)),none⟩,⟨some 6,.mov (.tmp 49),none⟩]) (.skip))) (.seq (.seq (.region [⟨some 7,.mov (.const (.int .i64 1)),none⟩]) (.block 2 (.loop (.seq (.seq (.region [⟨some 50,.mov (.tmp 7),none⟩,
 ⟨some 51,.mov (.tmp 5),none⟩,⟨some 52,.bin .lss .no (.tmp 50) (.tmp 51),none⟩]) (.cond (.tmp 52) (.skip) (.exit 2))) (.seq (.block 3 (.region [⟨some 55,.mov (.tmp 6),none⟩,⟨some 56,.bin .mul .no (.const (.int .i32 64)) (.tmp 55),none⟩,
 ⟨some 57,.mov (.tmp 0),none⟩,⟨some 58,.mov (.tmp 7),none⟩,⟨some 59,.iaddr 1 (.tmp 57) (.tmp 58),none⟩,⟨some 60,.load false 1 (.tmp 59),none⟩,⟨some 61,.cInt .i32 (.tmp 60),none⟩,⟨some 62,.bin .rem .no (.tmp 61) (.const (.int .i32 64)),none⟩,
 ⟨some 63,.bin .add .no (.tmp 56) (.tmp 62),none⟩,⟨some 6,.mov (.tmp 63),none⟩])) (.region [⟨some 53,.mov (.tmp 7),none⟩,⟨some 54,.bin .add .no (.tmp 53) (.const (.int .i64 1)),none⟩,⟨some 7,.mov (.tmp 54),none⟩])))))) (.seq (.region [⟨some 65,.mov (.tmp 6),none⟩,
 ⟨some 66,.call (.fn 81) [(.tmp 65)],none⟩,⟨some 64,.mov (.tmp 66),none⟩,⟨some 67,.ext 0 (.tmp 64),none⟩,⟨some 68,.ext 1 (.tmp 64),none⟩,⟨some 8,.mov (.tmp 67),none⟩,⟨some 9,.mov (.tmp 68),none⟩]) (.seq (.region [⟨some 69,.mov (.tmp 9),none⟩,
 ⟨some 70,.bin .eql .no (.tmp 69) (.const (.int .i64 0)),none⟩,⟨some 71,.mov (.tmp 70),none⟩,⟨some 72,.mov (.tmp 8),some (71,true)⟩,⟨some 73,.cB2S false (.tmp 72),some (71,true)⟩,⟨some 74,.mov (.tmp 0),some (71,true)⟩,
 ⟨some 75,.mov (.tmp 5),some (71,true)⟩,⟨some 76,.slc 1 (.tmp 74) none (some (.tmp 75)) none,some (71,true)⟩,⟨some 77,.cB2S false (.tmp 76),some (71,true)⟩,⟨some 78,.bin .eql .no (.tmp 73) (.tmp 77),some (71,true)⟩,
 ⟨some 79,.pick (.tmp 71) (.tmp 78) (.const (.bool false)),none⟩]) (.cond (.tmp 79) (.seq (.region [⟨some 80,.mov (.tmp 6),none⟩,⟨some 81,.mov (.tmp 5),none⟩,⟨some 82,.mov (.tmp 9),none⟩,⟨some 2,.mov (.tmp 80),none⟩,
 ⟨some 3,.mov (.tmp 81),none⟩,⟨some 4,.mov (.tmp 82),none⟩]) (.ret)) (.skip))))))))) (.region [⟨some 29,.mov (.tmp 5),none⟩,⟨some 30,.bin .add .no (.tmp 29) (.const (.int .i64 1)),none⟩,⟨some 5,.mov (.tmp 30),none⟩])))))) (.seq (.region [⟨some 2,.mov (.const (.int .i32 0)),none⟩,
 ⟨some 3,.mov (.const (.int .i64 0)),none⟩,⟨some 4,.mov (.const (.int .i64 20)),none⟩]) (.ret)))))) }

/-- strings.Index -/
def F_strings_Index : ACFn := { nt := 8,results := [.tmp 4],body := (.seq (.region [⟨some 4,.mov (.const (.int .i64 0)),none⟩]) (.seq (.region [⟨some 5,.mov (.tmp 0),none⟩,⟨some 6,.mov (.tmp 1),none⟩,⟨some 7,.call (.fn 82) [(.tmp 5),(.tmp 6)],none⟩,
 ⟨some 4,.mov (.tmp 7),none⟩]) (.ret))) }

/-- posthorn/utf.Next -/
def F_utf_Next : ACFn := { nt := 97,results := [.tmp 2,.tmp 3,.tmp 4],body := (.seq (.region [⟨some 2,.mov (.const (.int .i32 0)),none⟩,⟨some 3,.mov (.const (.int .i64 0)),none⟩,⟨some 4,.mov (.const (.int .i64 0)),none⟩]) (.scope (.seq (.region [⟨some 5,.mov (.const (.int .i32 0)),none⟩]) (.seq (.region [⟨some 6,.mov (.const (.int .i64 0)),none⟩]) (.seq (.seq (.region [⟨some 10,.mov (.tmp 0),none⟩,
 ⟨some 11,.len false (.tmp 10),none⟩,⟨some 12,.bin .eql .no (.tmp 11) (.const (.int .i64 0)),none⟩]) (.cond (.tmp 12) (.seq (.region [⟨some 2,.mov (.const (.int .i32 0)),none⟩,⟨some 3,.mov (.const (.int .i64 0)),none⟩,
 ⟨some 4,.mov (.const (.int .i64 42)),none⟩]) (.ret)) (.skip))) (.seq (.seq (.region [⟨some 13,.mov (.tmp 0),none⟩,⟨some 14,.iaddr 1 (.tmp 13) (.const (.int .i64 0)),none⟩,⟨some 15,.load false 1 (.tmp 14),none⟩,
 ⟨some 7,.mov (.tmp 15),none⟩]) (.block 0 (.seq (.region [⟨some 17,.mov (.tmp 7),none⟩,⟨some 18,.bin .lss .no (.tmp 17) (.const (.b8 128)),none⟩,⟨some 16,.mov (.tmp 18),none⟩]) (.cond (.tmp 16) (.seq (.region [⟨some 19,.mov (.tmp 7),none⟩,
 ⟨some 20,.cInt .i32 (.tmp 19),none⟩,⟨some 2,.mov (.tmp 20),none⟩,⟨some 3,.mov (.const (.int .i64 1)),none⟩,⟨some 4,.mov (.const (.int .i64 0)),none⟩]) (.ret)) (.seq (.region [⟨some 22,.mov (.tmp 7),none⟩,
 ⟨some 23,.bin .shr .no (.tmp 22) (.const (.int .u64 5)),none⟩,⟨some 24,.bin .eql .no (.tmp 23) (.const (.b8 6)),none⟩,⟨some 21,.mov (.tmp 24),none⟩]) (.cond (.tmp 21) (.region [⟨some 25,.mov (.tmp 7),none⟩,
 ⟨some 26,.bin .and .no (.tmp 25) (.const (.b8 31)),none⟩,⟨some 27,.cInt .i32 (.tmp 26),none⟩,⟨some 5,.mov (.tmp 27),none⟩,⟨some 6,.mov (.const (.int .i64 2)),none⟩]) (.seq (.region [⟨some 29,.mov (.tmp 7),none⟩,
 ⟨some 30,.bin .shr .no (.tmp 29) (.const (.int .u64 4)),none⟩,⟨some 31,.bin .eql .no (.tmp 30) (.const (.b8 14)),none⟩,⟨some 28,.mov (.tmp 31),none⟩]) (.cond (.tmp 28) (.region [⟨some 32,.mov (.tmp 7),none⟩,
 ⟨some 33,.bin .and .no (.tmp 32) (.const (.b8 15)),none⟩,⟨some 34,.cInt .i32 (.tmp 33),none⟩,⟨some 5,.mov (.tmp 34),none⟩,⟨some 6,.mov (.const (.int .i64 3)),none⟩]) (.seq (.region [⟨some 36,.mov (.tmp 7),none⟩,
 ⟨some 37,.bin .shr .no (.tmp 36) (.const (.int .u64 3)),none⟩,⟨some 38,.bin .eql .no (.tmp 37) (.const (.b8 30)),none⟩,⟨some 35,.mov (.tmp 38),none⟩]) (.cond (.tmp 35) (.region [⟨some 39,.mov (.tmp 7),none⟩,
 ⟨some 40,.bin .and .no (.tmp 39) (.const (.b8 7)),none⟩,⟨some 41,.cInt .i32 (.tmp 40),none⟩,⟨some 5,.mov (.tmp 41),none⟩,⟨some 6,.mov (.const (.int .i64 4)),none⟩]) (.skip))))))))))) (.seq (.seq (.region [⟨some 42,.mov (.tmp 6),none⟩,
 ⟨some 43,.bin .eql .no (.tmp 42) (.const (.int .i64 0)),none⟩,⟨some 44,.mov (.tmp 43),none⟩,⟨some 45,.mov (.tmp 0),some (44,false)⟩,⟨some 46,.len false (.tmp 45),some (44,false)⟩,⟨some 47,.mov (.tmp 6),some (44,false)⟩,
 ⟨some 48,.bin .lss .no (.tmp 46) (.tmp 47),some (44,false)⟩,⟨some 49,.pick (.tmp 44) (.const (.bool true)) (.tmp 48),none⟩]) (.cond (.tmp 49) (.goto 0) (.skip))) (.seq (.seq (.region [⟨some 50,.mov (.tmp 0),none⟩,
 ⟨some 51,.mov (.tmp 6),none⟩,⟨some 52,.slc 1 (.tmp 50) (some (.const (.int .i64 1))) (some (.tmp 51)) none,none⟩,⟨some 53,.len false (.tmp 52),none⟩,⟨some 54,.mov (.const (.int .i64 0)),none⟩]) (.block 1 (.loop (.seq (.region [⟨some 55,.bin .lss .no (.tmp 54) (.tmp 53),none⟩]) (.seq (.cond (.tmp 55) (.skip) (.exit 1)) (.seq (.block 2 (.seq (.region [⟨some 56,.iaddr 1 (.tmp 52) (.tmp 54),none⟩,
 ⟨some 57,.load false 1 (.tmp 56),none⟩,⟨some 9,.mov (.tmp 57),none⟩]) (.seq (.seq (.region [⟨some 58,.mov (.tmp 9),none⟩,⟨some 59,.bin .shr .no (.tmp 58) (.const (.int .u64 6)),none⟩,⟨some 60,.bin .neq .no (.tmp 59) (.const (.b8 2)),none⟩]) (.cond (.tmp 60) (.goto 0) (.skip))) (.region [⟨some 61,.mov (.tmp 5),none⟩,
 ⟨some 62,.bin .shl .no (.tmp 61) (.const (.int .u64 6)),none⟩,⟨some 63,.mov (.tmp 9),none⟩,⟨some 64,.bin .and .no (.tmp 63) (.const (.b8 63)),none⟩,⟨some 65,.cInt .i32 (.tmp 64),none⟩,⟨some 66,.bin .or .no (.tmp 62) (.tmp 65),none⟩,
 ⟨some 5,.mov (.tmp 66),none⟩])))) (.region [⟨some 67,.bin .add .no (.tmp 54) (.const (.int .i64 1)),none⟩,⟨some 54,.mov (.tmp 67),none⟩]))))))) (.seq (.seq (.region [⟨some 68,.mov (.tmp 5),none⟩,⟨some 69,.call (.fn 83) [(.tmp 68)],none⟩,
 ⟨some 70,.un .not (.tmp 69),none⟩,⟨some 71,.mov (.tmp 70),none⟩,⟨some 72,.mov (.tmp 6),some (71,false)⟩,⟨some 73,.bin .eql .no (.tmp 72) (.const (.int .i64 2)),some (71,false)⟩,⟨some 74,.mov (.tmp 73),some (71,false)⟩,
 ⟨some 75,.mov (.tmp 5),some (74,true)⟩,⟨some 76,.bin .lss .no (.tmp 75) (.const (.int .i32 128)),some (74,true)⟩,⟨some 77,.pick (.tmp 74) (.tmp 76) (.const (.bool false)),some (71,false)⟩,⟨some 78,.pick (.tmp 71) (.const (.bool true)) (.tmp 77),none⟩,
 ⟨some 79,.mov (.tmp 78),none⟩,⟨some 80,.mov (.tmp 6),some (79,false)⟩,⟨some 81,.bin .eql .no (.tmp 80) (.const (.int .i64 3)),some (79,false)⟩,⟨some 82,.mov (.tmp 81),some (79,false)⟩,⟨some 83,.mov (.tmp 5),some (82,true)⟩,
 ⟨some 84,.bin .lss .no (.tmp 83) (.const (.int .i32 2048)),some (82,true)⟩,⟨some 85,.pick (.tmp 82) (.tmp 84) (.const (.bool false)),some (79,false)⟩,⟨some 86,.pick (.tmp 79) (.const (.bool true)) (.tmp 85),none⟩,
 ⟨some 87,.mov (.tmp 86),none⟩,⟨some 88,.mov (.tmp 6),some (87,false)⟩,⟨some 89,.bin .eql .no (.tmp 88) (.const (.int .i64 4)),some (87,false)⟩,⟨some 90,.mov (.tmp 89),some (87,false)⟩,⟨some 91,.mov (.tmp 5),some (90,true)⟩,
 ⟨some 92,.bin .lss .no (.tmp 91) (.const (.int .i32 65536)),some (90,true)⟩,⟨some 93,.pick (.tmp 90) (.tmp 92) (.const (.bool false)),some (87,false)⟩,⟨some 94,.pick (.tmp 87) (.const (.bool true)) (.tmp 93),none⟩]) (.cond (.tmp 94) (.goto 0) (.skip))) (.seq (.seq (.region [⟨some 95,.mov (.tmp 5),none⟩,
 ⟨some 96,.mov (.tmp 6),none⟩,⟨some 2,.mov (.tmp 95),none⟩,⟨some 3,.mov (.tmp 96),none⟩,⟨some 4,.mov (.const (.int .i64 0)),none⟩]) (.ret)) (.seq (.label 0) (.seq (.region [⟨some 2,.mov (.const (.int .i32 0)),none⟩,
 ⟨some 3,.mov (.const (.int .i64 0)),none⟩,⟨some 4,.mov (.const (.int .i64 20)),none⟩]) (.ret))))))))))))) }

/-- internal/stringslite.HasPrefix -/
def F_internal_stringslite_HasPrefix : ACFn := { nt := 18,results := [.tmp 4],body := (.seq (.region [⟨some 4,.mov (.const (.bool false)),none⟩]) (.seq (.region [⟨some 5,.mov (.tmp 0),none⟩,⟨some 6,.len true (.tmp 5),none⟩,⟨some 7,.mov (.tmp 1),none⟩,
 ⟨some 8,.len true (.tmp 7),none⟩,⟨some 9,.bin .geq .no (.tmp 6) (.tmp 8),none⟩,⟨some 10,.mov (.tmp 9),none⟩,⟨some 11,.mov (.tmp 0),some (10,true)⟩,⟨some 12,.mov (.tmp 1),some (10,true)⟩,⟨some 13,.len true (.tmp 12),some (10,true)⟩,
 ⟨some 14,.slc 0 (.tmp 11) none (some (.tmp 13)) none,some (10,true)⟩,⟨some 15,.mov (.tmp 1),some (10,true)⟩,⟨some 16,.bin .eql .no (.tmp 14) (.tmp 15),some (10,true)⟩,⟨some 17,.pick (.tmp 10) (.tmp 16) (.const (.bool false)),none⟩,
 ⟨some 4,.mov (.tmp 17),none⟩]) (.ret))) }

/-- posthorn/posthornref02.Points -/
def F_posthornref02_Points : ACFn := { nt := 34,results := [.tmp 2,.cell 3 true 2],body := (.seq (.region [⟨some 2,.mov (.const (.nils)),none⟩,⟨some 3,.alloc [.int .i64 0,.int .i64 0],none⟩]) (.seq (.region [⟨some 4,.mov (.const (.nils)),none⟩]) (.seq (.region [⟨some 5,.mov (.const (.int .i64 0)),none⟩]) (.seq (.block 0 (.loop (.seq (.seq (.region [⟨some 9,.mov (.tmp 5),none⟩,
 ⟨some 10,.mov (.tmp 0),none⟩,⟨some 11,.len false (.tmp 10),none⟩,⟨some 12,.bin .lss .no (.tmp 9) (.tmp 11),none⟩]) (.cond (.tmp 12) (.skip) (.exit 0))) (.block 1 (.seq (.region [⟨some 14,.mov (.tmp 0),none⟩,
 ⟨some 15,.mov (.tmp 5),none⟩,⟨some 16,.slc 1 (.tmp 14) (some (.tmp 15)) none none,none⟩,⟨some 17,.call (.fn 75) [(.tmp 16)],none⟩,⟨some 13,.mov (.tmp 17),none⟩,⟨some 18,.ext 0 (.tmp 13),none⟩,⟨some 19,.ext 1 (.tmp 13),none⟩,
 ⟨some 20,.ext 2 (.tmp 13),none⟩,⟨some 6,.mov (.tmp 18),none⟩,⟨some 7,.mov (.tmp 19),none⟩,⟨some 8,.mov (.tmp 20),none⟩]) (.seq (.seq (.region [⟨some 21,.mov (.tmp 8),none⟩,⟨some 22,.bin .neq .no (.tmp 21) (.const (.int .i64 0)),none⟩]) (.cond (.tmp 22) (.seq (.region [⟨some 23,.mov (.tmp 5),none⟩,
 ⟨some 24,.build [.int .i64 0,.int .i64 0] [(0,1,(.tmp 23)),(1,1,(.const (.int .i64 20)))],none⟩,⟨some 2,.mov (.const (.nils)),none⟩,⟨none,.store 2 (.tmp 3) (.tmp 24),none⟩]) (.ret)) (.skip))) (.seq (.region [⟨some 25,.mov (.tmp 4),none⟩,
 ⟨some 26,.mov (.tmp 6),none⟩,⟨some 27,.lit 1 (.int .i32 0) 1 [(0,(.tmp 26))],none⟩,⟨some 28,.app false 1 (.tmp 25) (.tmp 27),none⟩,⟨some 4,.mov (.tmp 28),none⟩]) (.region [⟨some 29,.mov (.tmp 5),none⟩,
 ⟨some 30,.mov (.tmp 7),none⟩,⟨some 31,.bin .add .no (.tmp 29) (.tmp 30),none⟩,⟨some 5,.mov (.tmp 31),none⟩])))))))) (.seq (.region [⟨some 32,.mov (.tmp 4),none⟩,⟨some 33,.build [.int .i64 0,.int .i64 0] [],none⟩,
 ⟨some 2,.mov (.tmp 32),none⟩,⟨none,.store 2 (.tmp 3) (.tmp 33),none⟩]) (.ret)))))) }

/-- posthorn/posthornref02.Put -/
def F_posthornref02_Put : ACFn := { nt := 67,results := [.tmp 2,.tmp 3],body := (.seq (.region [⟨some 2,.mov (.const (.nils)),none⟩,⟨some 3,.mov (.const (.int .i64 0)),none⟩]) (.seq (.seq (.region [⟨some 5,.mov (.tmp 0),none⟩,⟨some 6,.call (.fn 85) [(.tmp 5)],none⟩,
 ⟨some 7,.un .not (.tmp 6),none⟩]) (.cond (.tmp 7) (.seq (.region [⟨some 2,.mov (.const (.nils)),none⟩,⟨some 3,.mov (.const (.int .i64 20)),none⟩]) (.ret)) (.skip))) (.seq (.region [⟨some 4,.mov (.const (.nils)),none⟩]) (.seq (.seq (.region [⟨some 8,.mov (.tmp 0),none⟩,
 ⟨some 9,.bin .lss .no (.tmp 8) (.const (.int .i32 128)),none⟩]) (.cond (.tmp 9) (.seq (.region [⟨some 10,.mov (.tmp 4),none⟩,⟨some 11,.mov (.tmp 0),none⟩,⟨some 12,.cInt .u8 (.tmp 11),none⟩,⟨some 13,.lit8 1 [(0,(.tmp 12))],none⟩,
 ⟨some 14,.app true 1 (.tmp 10) (.tmp 13),none⟩,⟨some 2,.mov (.tmp 14),none⟩,⟨some 3,.mov (.const (.int .i64 0)),none⟩]) (.ret)) (.skip))) (.seq (.seq (.region [⟨some 15,.mov (.tmp 0),none⟩,⟨some 16,.bin .lss .no (.tmp 15) (.const (.int .i32 2048)),none⟩]) (.cond (.tmp 16) (.seq (.region [⟨some 17,.mov (.tmp 4),none⟩,
 ⟨some 18,.mov (.tmp 0),none⟩,⟨some 19,.bin .quo .no (.tmp 18) (.const (.int .i32 64)),none⟩,⟨some 20,.bin .add .no (.const (.int .i32 192)) (.tmp 19),none⟩,⟨some 21,.cInt .u8 (.tmp 20),none⟩,⟨some 22,.mov (.tmp 0),none⟩,
 ⟨some 23,.bin .rem .no (.tmp 22) (.const (.int .i32 64)),none⟩,⟨some 24,.bin .add .no (.const (.int .i32 128)) (.tmp 23),none⟩,⟨some 25,.cInt .u8 (.tmp 24),none⟩,⟨some 26,.lit8 2 [(0,(.tmp 21)),(1,(.tmp 25))],none⟩,
 ⟨some 27,.app true 1 (.tmp 17) (.tmp 26),none⟩,⟨some 2,.mov (.tmp 27),none⟩,⟨some 3,.mov (.const (.int .i64 0)),none⟩]) (.ret)) (.skip))) (.seq (.seq (.region [⟨some 28,.mov (.tmp 0),none⟩,⟨some 29,.bin .lss .no (.tmp 28) (.const (.int .i32 65536)),none⟩]) (.cond (.tmp 29) (.seq (.region [⟨some 30,.mov (.tmp 4),none⟩,
 ⟨some 31,.mov (.tmp 0),none⟩,⟨some 32,.bin .quo .no (.tmp 31) (.const (.int .i32 4096)),none⟩,⟨some 33,.bin .add .no (.const (.int .i32 224)) (.tmp 32),none⟩,⟨some 34,.cInt .u8 (.tmp 33),none⟩,⟨some 35,.mov (.tmp 0),none⟩,
 ⟨some 36,.bin .quo .no (.tmp 35) (.const (.int .i32 64)),none⟩,⟨some 37,.bin .rem .no (.tmp 36) (.const (.int .i32 64)),none⟩,⟨some 38,.bin .add .no (.const (.int .i32 128)) (.tmp 37),none⟩,⟨some 39,.cInt .u8 (.tmp 38),none⟩,
 ⟨some 40,.mov (.tmp 0),none⟩,⟨some 41,.bin .rem .no (.tmp 40) (.const (.int .i32 64)),none⟩,⟨some 42,.bin .add .no (.const (.int .i32 128)) (.tmp 41),none⟩,⟨some 43,.cInt .u8 (.tmp 42),none⟩,⟨some 44,.lit8 3 [(0,(.tmp 34)),(1,(.tmp 39)),(2,(.tmp 43))],none⟩,
 ⟨some 45,.app true 1 (.tmp 30) (.tmp 44),none⟩,⟨some 2,.mov (.tmp 45),none⟩,⟨some 3,.mov (.const (.int .i64 0)),none⟩]) (.ret)) (.skip))) (.seq (.region [⟨some 46,.mov (.tmp 4),none⟩,⟨some 47,.mov (.tmp 0),none⟩,
 ⟨some 48,.bin .quo .no (.tmp 47) (.const (.int .i32 262144)),none⟩,⟨some 49,.bin .add .no (.const (.int .i32 240)) (.tmp 48),none⟩,⟨some 50,.cInt .u8 (.tmp 49),none⟩,⟨some 51,.mov (.tmp 0),none⟩,⟨some 52,.bin .quo .no (.tmp 51) (.const (.int .i32 4096)),none⟩,
 ⟨some 53,.bin .rem .no (.tmp 52) (.const (.int .i32 64)),none⟩,⟨some 54,.bin .add .no (.const (.int .i32 128)) (.tmp 53),none⟩,⟨some 55,.cInt .u8 (.tmp 54),none⟩,⟨some 56,.mov (.tmp 0),none⟩,⟨some 57,.bin .quo .no (.tmp 56) (.const (.int .i32 64)),none⟩,
 ⟨some 58,.bin .rem .no (.tmp 57) (.const (.int .i32 64)),none⟩,⟨some 59,.bin .add .no (.const (.int .i32 128)) (.tmp 58),none⟩,⟨some 60,.cInt .u8 (.tmp 59),none⟩,⟨some 61,.mov (.tmp 0),none⟩,⟨some 62,.bin .rem .no (.tmp 61) (.const (.int .i32 64)),none⟩,
 ⟨some 63,.bin .add .no (.const (.int .i32 128)) (.tmp 62),none⟩,⟨some 64,.cInt .u8 (.tmp 63),none⟩,⟨some 65,.lit8 4 [(0,(.tmp 50)),(1,(.tmp 55)),(2,(.tmp 60)),(3,(.tmp 64))],none⟩,⟨some 66,.app true 1 (.tmp 46) (.tmp 65),none⟩,
 ⟨some 2,.mov (.tmp 66),none⟩,⟨some 3,.mov (.const (.int .i64 0)),none⟩]) (.ret)))))))) }

/-- posthorn/utf.isPoint -/
def F_utf_isPoint : ACFn := { nt := 17,results := [.tmp 2],body := (.seq (.region [⟨some 2,.mov (.const (.bool false)),none⟩]) (.seq (.region [⟨some 3,.mov (.tmp 0),none⟩,⟨some 4,.bin .geq .no (.tmp 3) (.const (.int .i32 0)),none⟩,
 ⟨some 5,.mov (.tmp 4),none⟩,⟨some 6,.mov (.tmp 0),some (5,true)⟩,⟨some 7,.bin .leq .no (.tmp 6) (.const (.int .i32 1114111)),some (5,true)⟩,⟨some 8,.pick (.tmp 5) (.tmp 7) (.const (.bool false)),none⟩,
 ⟨some 9,.mov (.tmp 8),none⟩,⟨some 10,.mov (.tmp 0),some (9,true)⟩,⟨some 11,.bin .lss .no (.tmp 10) (.const (.int .i32 55296)),some (9,true)⟩,⟨some 12,.mov (.tmp 11),some (9,true)⟩,⟨some 13,.mov (.tmp 0),some (12,false)⟩,
 ⟨some 14,.bin .gtr .no (.tmp 13) (.const (.int .i32 57343)),some (12,false)⟩,⟨some 15,.pick (.tmp 12) (.const (.bool true)) (.tmp 14),some (9,true)⟩,⟨some 16,.pick (.tmp 9) (.tmp 15) (.const (.bool false)),none⟩,
 ⟨some 2,.mov (.tmp 16),none⟩]) (.ret))) }

/-- posthorn/posthornref02.Point -/
def F_posthornref02_Point : ACFn := { nt := 17,results := [.tmp 2],body := (.seq (.region [⟨some 2,.mov (.const (.bool false)),none⟩]) (.seq (.region [⟨some 3,.mov (.tmp 0),none⟩,⟨some 4,.bin .geq .no (.tmp 3) (.const (.int .i32 0)),none⟩,
 ⟨some 5,.mov (.tmp 4),none⟩,⟨some 6,.mov (.tmp 0),some (5,true)⟩,⟨some 7,.bin .lss .no (.tmp 6) (.const (.int .i32 55296)),some (5,true)⟩,⟨some 8,.pick (.tmp 5) (.tmp 7) (.const (.bool false)),none⟩,⟨some 9,.mov (.tmp 8),none⟩,
 ⟨some 10,.mov (.tmp 0),some (9,false)⟩,⟨some 11,.bin .gtr .no (.tmp 10) (.const (.int .i32 57343)),some (9,false)⟩,⟨some 12,.mov (.tmp 11),some (9,false)⟩,⟨some 13,.mov (.tmp 0),some (12,true)⟩,⟨some 14,.bin .leq .no (.tmp 13) (.const (.int .i32 1114111)),some (12,true)⟩,
 ⟨some 15,.pick (.tmp 12) (.tmp 14) (.const (.bool false)),some (9,false)⟩,⟨some 16,.pick (.tmp 9) (.const (.bool true)) (.tmp 15),none⟩,⟨some 2,.mov (.tmp 16),none⟩]) (.ret))) }

end Go.Ab

/-
  The abstract code of functions, printed by program (abgen.py, abput2.py).
-/
namespace Go.Ab

/-- posthorn/posthornref04.Lower -/
def F_posthornref04_Lower : ACFn := { nt := 29,results := [.tmp 2],body := (.seq (.region [⟨some 2,.mov (.const (.str [])),none⟩]) (.seq (.region [⟨some 3,.mov (.const (.nils)),none⟩]) (.seq (.seq (.region [⟨some 4,.mov (.const (.int .i64 0)),none⟩]) (.block 0 (.loop (.seq (.seq (.region [⟨some 6,.mov (.tmp 4),none⟩,
 ⟨some 7,.mov (.tmp 0),none⟩,⟨some 8,.len true (.tmp 7),none⟩,⟨some 9,.bin .lss .no (.tmp 6) (.tmp 8),none⟩]) (.cond (.tmp 9) (.skip) (.exit 0))) (.seq (.block 1 (.seq (.region [⟨some 12,.mov (.tmp 0),none⟩,
 ⟨some 13,.mov (.tmp 4),none⟩,⟨some 14,.idxS (.tmp 12) (.tmp 13),none⟩,⟨some 5,.mov (.tmp 14),none⟩]) (.seq (.seq (.region [⟨some 15,.mov (.tmp 5),none⟩,⟨some 16,.bin .geq .no (.tmp 15) (.const (.b8 65)),none⟩,
 ⟨some 17,.mov (.tmp 16),none⟩,⟨some 18,.mov (.tmp 5),some (17,true)⟩,⟨some 19,.bin .leq .no (.tmp 18) (.const (.b8 90)),some (17,true)⟩,⟨some 20,.pick (.tmp 17) (.tmp 19) (.const (.bool false)),none⟩]) (.cond (.tmp 20) (.region [⟨some 21,.mov (.tmp 5),none⟩,
 ⟨some 22,.bin .add .no (.tmp 21) (.const (.b8 32)),none⟩,⟨some 5,.mov (.tmp 22),none⟩]) (.skip))) (.region [⟨some 23,.mov (.tmp 3),none⟩,⟨some 24,.mov (.tmp 5),none⟩,⟨some 25,.lit8 1 [(0,(.tmp 24))],none⟩,
 ⟨some 26,.app true 1 (.tmp 23) (.tmp 25),none⟩,⟨some 3,.mov (.tmp 26),none⟩])))) (.region [⟨some 10,.mov (.tmp 4),none⟩,⟨some 11,.bin .add .no (.tmp 10) (.const (.int .i64 1)),none⟩,⟨some 4,.mov (.tmp 11),none⟩])))))) (.seq (.region [⟨some 27,.mov (.tmp 3),none⟩,
 ⟨some 28,.cB2S false (.tmp 27),none⟩,⟨some 2,.mov (.tmp 28),none⟩]) (.ret))))) }

/-- strings.Cut -/
def F_strings_Cut : ACFn := { nt := 13,results := [.tmp 4,.tmp 5,.tmp 6],body := (.seq (.region [⟨some 4,.mov (.const (.str [])),none⟩,⟨some 5,.mov (.const (.str [])),none⟩,⟨some 6,.mov (.const (.bool false)),none⟩]) (.seq (.region [⟨some 7,.mov (.tmp 0),none⟩,
 ⟨some 8,.mov (.tmp 1),none⟩,⟨some 9,.call (.fn 135) [(.tmp 7),(.tmp 8)],none⟩,⟨some 10,.ext 0 (.tmp 9),none⟩,⟨some 11,.ext 1 (.tmp 9),none⟩,⟨some 12,.ext 2 (.tmp 9),none⟩,⟨some 4,.mov (.tmp 10),none⟩,⟨some 5,.mov (.tmp 11),none⟩,
 ⟨some 6,.mov (.tmp 12),none⟩]) (.ret))) }

/-- internal/stringslite.Cut -/
def F_internal_stringslite_Cut : ACFn := { nt := 23,results := [.tmp 4,.tmp 5,.tmp 6],body := (.seq (.region [⟨some 4,.mov (.const (.str [])),none⟩,⟨some 5,.mov (.const (.str [])),none⟩,⟨some 6,.mov (.const (.bool false)),none⟩]) (.seq (.seq (.region [⟨some 8,.mov (.tmp 0),none⟩,
 ⟨some 9,.mov (.tmp 1),none⟩,⟨some 10,.call (.fn 82) [(.tmp 8),(.tmp 9)],none⟩,⟨some 7,.mov (.tmp 10),none⟩]) (.seq (.region [⟨some 11,.mov (.tmp 7),none⟩,⟨some 12,.bin .geq .no (.tmp 11) (.const (.int .i64 0)),none⟩]) (.cond (.tmp 12) (.seq (.region [⟨some 13,.mov (.tmp 0),none⟩,
 ⟨some 14,.mov (.tmp 7),none⟩,⟨some 15,.slc 0 (.tmp 13) none (some (.tmp 14)) none,none⟩,⟨some 16,.mov (.tmp 0),none⟩,⟨some 17,.mov (.tmp 7),none⟩,⟨some 18,.mov (.tmp 1),none⟩,⟨some 19,.len true (.tmp 18),none⟩,
 ⟨some 20,.bin .add .no (.tmp 17) (.tmp 19),none⟩,⟨some 21,.slc 0 (.tmp 16) (some (.tmp 20)) none none,none⟩,⟨some 4,.mov (.tmp 15),none⟩,⟨some 5,.mov (.tmp 21),none⟩,⟨some 6,.mov (.const (.bool true)),none⟩]) (.ret)) (.skip)))) (.seq (.region [⟨some 22,.mov (.tmp 0),none⟩,
 ⟨some 4,.mov (.tmp 22),none⟩,⟨some 5,.mov (.const (.str [])),none⟩,⟨some 6,.mov (.const (.bool false)),none⟩]) (.ret)))) }

/-- posthorn/posthornlaw06.Great -/
def F_posthornlaw06_Great : ACFn := { nt := 42,results := [.tmp 2],body := (.seq (.region [⟨some 2,.mov (.const (.bool false)),none⟩]) (.seq (.seq (.region [⟨some 4,.mov (.tmp 0),none⟩,⟨some 5,.len false (.tmp 4),none⟩,⟨some 6,.bin .gtr .no (.tmp 5) (.const (.int .i64 200)),none⟩]) (.cond (.tmp 6) (.seq (.region [⟨some 2,.mov (.const (.bool true)),none⟩]) (.ret)) (.skip))) (.seq (.seq (.region [⟨some 3,.mov (.const (.int .i64 0)),none⟩]) (.block 0 (.loop (.seq (.seq (.region [⟨some 7,.mov (.tmp 3),none⟩,
 ⟨some 8,.mov (.tmp 0),none⟩,⟨some 9,.len false (.tmp 8),none⟩,⟨some 10,.bin .lss .no (.tmp 7) (.tmp 9),none⟩]) (.cond (.tmp 10) (.skip) (.exit 0))) (.seq (.block 1 (.seq (.region [⟨some 13,.mov (.tmp 0),none⟩,
 ⟨some 14,.mov (.tmp 3),none⟩,⟨some 15,.iaddr 2 (.tmp 13) (.tmp 14),none⟩,⟨some 16,.faddr 0 (.tmp 15),none⟩,⟨some 17,.load false 1 (.tmp 16),none⟩,⟨some 18,.len true (.tmp 17),none⟩,⟨some 19,.bin .gtr .no (.tmp 18) (.const (.int .i64 200)),none⟩,
 ⟨some 20,.mov (.tmp 19),none⟩,⟨some 21,.mov (.tmp 0),some (20,false)⟩,⟨some 22,.mov (.tmp 3),some (20,false)⟩,⟨some 23,.iaddr 2 (.tmp 21) (.tmp 22),some (20,false)⟩,⟨some 24,.faddr 1 (.tmp 23),some (20,false)⟩,
 ⟨some 25,.load false 1 (.tmp 24),some (20,false)⟩,⟨some 26,.len true (.tmp 25),some (20,false)⟩,⟨some 27,.bin .gtr .no (.tmp 26) (.const (.int .i64 5000)),some (20,false)⟩,⟨some 28,.pick (.tmp 20) (.const (.bool true)) (.tmp 27),none⟩,
 ⟨some 29,.mov (.tmp 28),none⟩,⟨some 30,.mov (.tmp 3),some (29,false)⟩,⟨some 31,.bin .gtr .no (.tmp 30) (.const (.int .i64 20)),some (29,false)⟩,⟨some 32,.mov (.tmp 31),some (29,false)⟩,⟨some 33,.mov (.tmp 0),some (32,true)⟩,
 ⟨some 34,.mov (.tmp 3),some (32,true)⟩,⟨some 35,.iaddr 2 (.tmp 33) (.tmp 34),some (32,true)⟩,⟨some 36,.faddr 1 (.tmp 35),some (32,true)⟩,⟨some 37,.load false 1 (.tmp 36),some (32,true)⟩,⟨some 38,.len true (.tmp 37),some (32,true)⟩,
 ⟨some 39,.bin .gtr .no (.tmp 38) (.const (.int .i64 100)),some (32,true)⟩,⟨some 40,.pick (.tmp 32) (.tmp 39) (.const (.bool false)),some (29,false)⟩,⟨some 41,.pick (.tmp 29) (.const (.bool true)) (.tmp 40),none⟩]) (.cond (.tmp 41) (.seq (.region [⟨some 2,.mov (.const (.bool true)),none⟩]) (.ret)) (.skip)))) (.region [⟨some 11,.mov (.tmp 3),none⟩,
 ⟨some 12,.bin .add .no (.tmp 11) (.const (.int .i64 1)),none⟩,⟨some 3,.mov (.tmp 12),none⟩])))))) (.seq (.region [⟨some 2,.mov (.const (.bool false)),none⟩]) (.ret))))) }

/-- posthorn/fields.Get -/
def F_fields_Get : ACFn := { nt := 29,results := [.tmp 4,.tmp 5],body := (.seq (.region [⟨some 4,.mov (.const (.str [])),none⟩,⟨some 5,.mov (.const (.int .i64 0)),none⟩]) (.seq (.region [⟨some 6,.mov (.const (.str [])),none⟩,⟨some 7,.mov (.const (.int .i64 0)),none⟩]) (.seq (.seq (.region [⟨some 10,.mov (.tmp 0),none⟩,
 ⟨some 11,.len false (.tmp 10),none⟩,⟨some 12,.mov (.const (.int .i64 0)),none⟩]) (.block 0 (.loop (.seq (.region [⟨some 13,.bin .lss .no (.tmp 12) (.tmp 11),none⟩]) (.seq (.cond (.tmp 13) (.skip) (.exit 0)) (.seq (.block 1 (.seq (.region [⟨some 14,.iaddr 2 (.tmp 10) (.tmp 12),none⟩,
 ⟨some 15,.load true 2 (.tmp 14),none⟩,⟨some 9,.alloc [.str [],.str []],none⟩,⟨none,.store 2 (.tmp 9) (.tmp 15),none⟩]) (.seq (.region [⟨some 16,.faddr 0 (.tmp 9),none⟩,⟨some 17,.load false 1 (.tmp 16),none⟩,
 ⟨some 18,.mov (.tmp 1),none⟩,⟨some 19,.call (.fn 155) [(.tmp 17),(.tmp 18)],none⟩]) (.cond (.tmp 19) (.seq (.seq (.region [⟨some 20,.mov (.tmp 7),none⟩,⟨some 21,.bin .eql .no (.tmp 20) (.const (.int .i64 0)),none⟩]) (.cond (.tmp 21) (.region [⟨some 22,.faddr 1 (.tmp 9),none⟩,
 ⟨some 23,.load false 1 (.tmp 22),none⟩,⟨some 6,.mov (.tmp 23),none⟩]) (.skip))) (.region [⟨some 24,.mov (.tmp 7),none⟩,⟨some 25,.bin .add .no (.tmp 24) (.const (.int .i64 1)),none⟩,⟨some 7,.mov (.tmp 25),none⟩])) (.skip))))) (.region [⟨some 26,.bin .add .no (.tmp 12) (.const (.int .i64 1)),none⟩,
 ⟨some 12,.mov (.tmp 26),none⟩]))))))) (.seq (.region [⟨some 27,.mov (.tmp 6),none⟩,⟨some 28,.mov (.tmp 7),none⟩,⟨some 4,.mov (.tmp 27),none⟩,⟨some 5,.mov (.tmp 28),none⟩]) (.ret))))) }

/-- posthorn/posthornref06.Get -/
def F_posthornref06_Get : ACFn := { nt := 37,results := [.tmp 4,.tmp 5],body := (.seq (.region [⟨some 4,.mov (.const (.str [])),none⟩,⟨some 5,.mov (.const (.int .i64 0)),none⟩]) (.seq (.region [⟨some 6,.mov (.const (.nils)),none⟩]) (.seq (.seq (.region [⟨some 7,.mov (.const (.int .i64 0)),none⟩]) (.block 0 (.loop (.seq (.seq (.region [⟨some 8,.mov (.tmp 7),none⟩,
 ⟨some 9,.mov (.tmp 0),none⟩,⟨some 10,.len false (.tmp 9),none⟩,⟨some 11,.bin .lss .no (.tmp 8) (.tmp 10),none⟩]) (.cond (.tmp 11) (.skip) (.exit 0))) (.seq (.block 1 (.seq (.region [⟨some 14,.mov (.tmp 0),none⟩,
 ⟨some 15,.mov (.tmp 7),none⟩,⟨some 16,.iaddr 2 (.tmp 14) (.tmp 15),none⟩,⟨some 17,.faddr 0 (.tmp 16),none⟩,⟨some 18,.load false 1 (.tmp 17),none⟩,⟨some 19,.mov (.tmp 1),none⟩,⟨some 20,.call (.fn 163) [(.tmp 18),(.tmp 19)],none⟩]) (.cond (.tmp 20) (.region [⟨some 21,.mov (.tmp 6),none⟩,
 ⟨some 22,.mov (.tmp 0),none⟩,⟨some 23,.mov (.tmp 7),none⟩,⟨some 24,.iaddr 2 (.tmp 22) (.tmp 23),none⟩,⟨some 25,.faddr 1 (.tmp 24),none⟩,⟨some 26,.load false 1 (.tmp 25),none⟩,⟨some 27,.lit 1 (.str []) 1 [(0,(.tmp 26))],none⟩,
 ⟨some 28,.app false 1 (.tmp 21) (.tmp 27),none⟩,⟨some 6,.mov (.tmp 28),none⟩]) (.skip)))) (.region [⟨some 12,.mov (.tmp 7),none⟩,⟨some 13,.bin .add .no (.tmp 12) (.const (.int .i64 1)),none⟩,⟨some 7,.mov (.tmp 13),none⟩])))))) (.seq (.seq (.region [⟨some 29,.mov (.tmp 6),none⟩,
 ⟨some 30,.len false (.tmp 29),none⟩,⟨some 31,.bin .eql .no (.tmp 30) (.const (.int .i64 0)),none⟩]) (.cond (.tmp 31) (.seq (.region [⟨some 4,.mov (.const (.str [])),none⟩,⟨some 5,.mov (.const (.int .i64 0)),none⟩]) (.ret)) (.skip))) (.seq (.region [⟨some 32,.mov (.tmp 6),none⟩,
 ⟨some 33,.iaddr 1 (.tmp 32) (.const (.int .i64 0)),none⟩,⟨some 34,.load false 1 (.tmp 33),none⟩,⟨some 35,.mov (.tmp 6),none⟩,⟨some 36,.len false (.tmp 35),none⟩,⟨some 4,.mov (.tmp 34),none⟩,⟨some 5,.mov (.tmp 36),none⟩]) (.ret)))))) }

/-- posthorn/fields.Same -/
def F_fields_Same : ACFn := { nt := 10,results := [.tmp 4],body := (.seq (.region [⟨some 4,.mov (.const (.bool false)),none⟩]) (.seq (.region [⟨some 5,.mov (.tmp 0),none⟩,⟨some 6,.call (.fn 167) [(.tmp 5)],none⟩,⟨some 7,.mov (.tmp 1),none⟩,
 ⟨some 8,.call (.fn 167) [(.tmp 7)],none⟩,⟨some 9,.bin .eql .no (.tmp 6) (.tmp 8),none⟩,⟨some 4,.mov (.tmp 9),none⟩]) (.ret))) }

/-- posthorn/fields.isName -/
def F_fields_isName : ACFn := { nt := 34,results := [.tmp 2],body := (.seq (.region [⟨some 2,.mov (.const (.bool false)),none⟩]) (.seq (.seq (.region [⟨some 4,.mov (.tmp 0),none⟩,⟨some 5,.len true (.tmp 4),none⟩,⟨some 6,.bin .lss .no (.tmp 5) (.const (.int .i64 1)),none⟩,
 ⟨some 7,.mov (.tmp 6),none⟩,⟨some 8,.mov (.tmp 0),some (7,false)⟩,⟨some 9,.len true (.tmp 8),some (7,false)⟩,⟨some 10,.bin .gtr .no (.tmp 9) (.const (.int .i64 64)),some (7,false)⟩,⟨some 11,.pick (.tmp 7) (.const (.bool true)) (.tmp 10),none⟩]) (.cond (.tmp 11) (.seq (.region [⟨some 2,.mov (.const (.bool false)),none⟩]) (.ret)) (.skip))) (.seq (.seq (.region [⟨some 12,.mov (.tmp 0),none⟩,
 ⟨some 13,.len true (.tmp 12),none⟩,⟨some 14,.mov (.const (.int .i64 0)),none⟩]) (.block 0 (.loop (.seq (.region [⟨some 15,.bin .lss .no (.tmp 14) (.tmp 13),none⟩]) (.seq (.cond (.tmp 15) (.skip) (.exit 0)) (.seq (.block 1 (.seq (.region [⟨some 16,.mov (.tmp 14),none⟩,
 ⟨some 3,.mov (.tmp 16),none⟩]) (.seq (.region [⟨some 17,.mov (.tmp 0),none⟩,⟨some 18,.mov (.tmp 3),none⟩,⟨some 19,.idxS (.tmp 17) (.tmp 18),none⟩,⟨some 20,.bin .lss .no (.tmp 19) (.const (.b8 33)),none⟩,
 ⟨some 21,.mov (.tmp 20),none⟩,⟨some 22,.mov (.tmp 0),some (21,false)⟩,⟨some 23,.mov (.tmp 3),some (21,false)⟩,⟨some 24,.idxS (.tmp 22) (.tmp 23),some (21,false)⟩,⟨some 25,.bin .gtr .no (.tmp 24) (.const (.b8 126)),some (21,false)⟩,
 ⟨some 26,.pick (.tmp 21) (.const (.bool true)) (.tmp 25),none⟩,⟨some 27,.mov (.tmp 26),none⟩,⟨some 28,.mov (.tmp 0),some (27,false)⟩,⟨some 29,.mov (.tmp 3),some (27,false)⟩,⟨some 30,.idxS (.tmp 28) (.tmp 29),some (27,false)⟩,
 ⟨some 31,.bin .eql .no (.tmp 30) (.const (.b8 58)),some (27,false)⟩,⟨some 32,.pick (.tmp 27) (.const (.bool true)) (.tmp 31),none⟩]) (.cond (.tmp 32) (.seq (.region [⟨some 2,.mov (.const (.bool false)),none⟩]) (.ret)) (.skip))))) (.region [⟨some 33,.bin .add .no (.tmp 14) (.const (.int .i64 1)),none⟩,
 ⟨some 14,.mov (.tmp 33),none⟩]))))))) (.seq (.region [⟨some 2,.mov (.const (.bool true)),none⟩]) (.ret))))) }

/-- posthorn/fields.isValue -/
def F_fields_isValue : ACFn := { nt := 35,results := [.tmp 2],body := (.seq (.region [⟨some 2,.mov (.const (.bool false)),none⟩]) (.seq (.seq (.region [⟨some 4,.mov (.tmp 0),none⟩,⟨some 5,.len true (.tmp 4),none⟩,⟨some 6,.mov (.const (.int .i64 0)),none⟩]) (.block 0 (.loop (.seq (.region [⟨some 7,.bin .lss .no (.tmp 6) (.tmp 5),none⟩]) (.seq (.cond (.tmp 7) (.skip) (.exit 0)) (.seq (.block 1 (.seq (.region [⟨some 8,.mov (.tmp 6),none⟩,
 ⟨some 3,.mov (.tmp 8),none⟩]) (.seq (.region [⟨some 9,.mov (.tmp 0),none⟩,⟨some 10,.mov (.tmp 3),none⟩,⟨some 11,.idxS (.tmp 9) (.tmp 10),none⟩,⟨some 12,.bin .neq .no (.tmp 11) (.const (.b8 9)),none⟩,⟨some 13,.mov (.tmp 12),none⟩,
 ⟨some 14,.mov (.tmp 0),some (13,true)⟩,⟨some 15,.mov (.tmp 3),some (13,true)⟩,⟨some 16,.idxS (.tmp 14) (.tmp 15),some (13,true)⟩,⟨some 17,.bin .lss .no (.tmp 16) (.const (.b8 32)),some (13,true)⟩,⟨some 18,.mov (.tmp 17),some (13,true)⟩,
 ⟨some 19,.mov (.tmp 0),some (18,false)⟩,⟨some 20,.mov (.tmp 3),some (18,false)⟩,⟨some 21,.idxS (.tmp 19) (.tmp 20),some (18,false)⟩,⟨some 22,.bin .gtr .no (.tmp 21) (.const (.b8 126)),some (18,false)⟩,
 ⟨some 23,.pick (.tmp 18) (.const (.bool true)) (.tmp 22),some (13,true)⟩,⟨some 24,.pick (.tmp 13) (.tmp 23) (.const (.bool false)),none⟩]) (.cond (.tmp 24) (.seq (.region [⟨some 2,.mov (.const (.bool false)),none⟩]) (.ret)) (.skip))))) (.region [⟨some 25,.bin .add .no (.tmp 6) (.const (.int .i64 1)),none⟩,
 ⟨some 6,.mov (.tmp 25),none⟩]))))))) (.seq (.region [⟨some 26,.mov (.tmp 0),none⟩,⟨some 27,.len true (.tmp 26),none⟩,⟨some 28,.bin .leq .no (.tmp 27) (.const (.int .i64 4096)),none⟩,⟨some 29,.mov (.tmp 28),none⟩,
 ⟨some 30,.mov (.tmp 0),some (29,true)⟩,⟨some 31,.call (.fn 168) [(.tmp 30)],some (29,true)⟩,⟨some 32,.mov (.tmp 0),some (29,true)⟩,⟨some 33,.bin .eql .no (.tmp 31) (.tmp 32),some (29,true)⟩,⟨some 34,.pick (.tmp 29) (.tmp 33) (.const (.bool false)),none⟩,
 ⟨some 2,.mov (.tmp 34),none⟩]) (.ret)))) }

/-- posthorn/posthornref06.Name -/
def F_posthornref06_Name : ACFn := { nt := 34,results := [.tmp 2],body := (.seq (.region [⟨some 2,.mov (.const (.bool false)),none⟩]) (.seq (.seq (.region [⟨some 3,.mov (.const (.int .i64 0)),none⟩]) (.block 0 (.loop (.seq (.seq (.region [⟨some 4,.mov (.tmp 3),none⟩,
 ⟨some 5,.mov (.tmp 0),none⟩,⟨some 6,.len true (.tmp 5),none⟩,⟨some 7,.bin .lss .no (.tmp 4) (.tmp 6),none⟩]) (.cond (.tmp 7) (.skip) (.exit 0))) (.seq (.block 1 (.seq (.region [⟨some 10,.mov (.tmp 0),none⟩,
 ⟨some 11,.mov (.tmp 3),none⟩,⟨some 12,.idxS (.tmp 10) (.tmp 11),none⟩,⟨some 13,.bin .leq .no (.tmp 12) (.const (.b8 32)),none⟩,⟨some 14,.mov (.tmp 13),none⟩,⟨some 15,.mov (.tmp 0),some (14,false)⟩,⟨some 16,.mov (.tmp 3),some (14,false)⟩,
 ⟨some 17,.idxS (.tmp 15) (.tmp 16),some (14,false)⟩,⟨some 18,.bin .geq .no (.tmp 17) (.const (.b8 127)),some (14,false)⟩,⟨some 19,.pick (.tmp 14) (.const (.bool true)) (.tmp 18),none⟩,⟨some 20,.mov (.tmp 19),none⟩,
 ⟨some 21,.mov (.tmp 0),some (20,false)⟩,⟨some 22,.mov (.tmp 3),some (20,false)⟩,⟨some 23,.idxS (.tmp 21) (.tmp 22),some (20,false)⟩,⟨some 24,.bin .eql .no (.tmp 23) (.const (.b8 58)),some (20,false)⟩,⟨some 25,.pick (.tmp 20) (.const (.bool true)) (.tmp 24),none⟩]) (.cond (.tmp 25) (.seq (.region [⟨some 2,.mov (.const (.bool false)),none⟩]) (.ret)) (.skip)))) (.region [⟨some 8,.mov (.tmp 3),none⟩,
 ⟨some 9,.bin .add .no (.tmp 8) (.const (.int .i64 1)),none⟩,⟨some 3,.mov (.tmp 9),none⟩])))))) (.seq (.region [⟨some 26,.mov (.tmp 0),none⟩,⟨some 27,.len true (.tmp 26),none⟩,⟨some 28,.bin .geq .no (.tmp 27) (.const (.int .i64 1)),none⟩,
 ⟨some 29,.mov (.tmp 28),none⟩,⟨some 30,.mov (.tmp 0),some (29,true)⟩,⟨some 31,.len true (.tmp 30),some (29,true)⟩,⟨some 32,.bin .leq .no (.tmp 31) (.const (.int .i64 64)),some (29,true)⟩,⟨some 33,.pick (.tmp 29) (.tmp 32) (.const (.bool false)),none⟩,
 ⟨some 2,.mov (.tmp 33),none⟩]) (.ret)))) }

/-- posthorn/posthornref06.Value -/
def F_posthornref06_Value : ACFn := { nt := 35,results := [.tmp 2],body := (.seq (.region [⟨some 2,.mov (.const (.bool false)),none⟩]) (.seq (.seq (.region [⟨some 3,.mov (.const (.int .i64 0)),none⟩]) (.block 0 (.loop (.seq (.seq (.region [⟨some 4,.mov (.tmp 3),none⟩,
 ⟨some 5,.mov (.tmp 0),none⟩,⟨some 6,.len true (.tmp 5),none⟩,⟨some 7,.bin .lss .no (.tmp 4) (.tmp 6),none⟩]) (.cond (.tmp 7) (.skip) (.exit 0))) (.seq (.block 1 (.seq (.region [⟨some 10,.mov (.tmp 0),none⟩,
 ⟨some 11,.mov (.tmp 3),none⟩,⟨some 12,.idxS (.tmp 10) (.tmp 11),none⟩,⟨some 13,.bin .lss .no (.tmp 12) (.const (.b8 32)),none⟩,⟨some 14,.mov (.tmp 13),none⟩,⟨some 15,.mov (.tmp 0),some (14,false)⟩,⟨some 16,.mov (.tmp 3),some (14,false)⟩,
 ⟨some 17,.idxS (.tmp 15) (.tmp 16),some (14,false)⟩,⟨some 18,.bin .gtr .no (.tmp 17) (.const (.b8 126)),some (14,false)⟩,⟨some 19,.pick (.tmp 14) (.const (.bool true)) (.tmp 18),none⟩,⟨some 20,.mov (.tmp 19),none⟩,
 ⟨some 21,.mov (.tmp 0),some (20,true)⟩,⟨some 22,.mov (.tmp 3),some (20,true)⟩,⟨some 23,.idxS (.tmp 21) (.tmp 22),some (20,true)⟩,⟨some 24,.bin .neq .no (.tmp 23) (.const (.b8 9)),some (20,true)⟩,⟨some 25,.pick (.tmp 20) (.tmp 24) (.const (.bool false)),none⟩]) (.cond (.tmp 25) (.seq (.region [⟨some 2,.mov (.const (.bool false)),none⟩]) (.ret)) (.skip)))) (.region [⟨some 8,.mov (.tmp 3),none⟩,
 ⟨some 9,.bin .add .no (.tmp 8) (.const (.int .i64 1)),none⟩,⟨some 3,.mov (.tmp 9),none⟩])))))) (.seq (.region [⟨some 26,.mov (.tmp 0),none⟩,⟨some 27,.len true (.tmp 26),none⟩,⟨some 28,.bin .leq .no (.tmp 27) (.const (.int .i64 4096)),none⟩,
 ⟨some 29,.mov (.tmp 28),none⟩,⟨some 30,.mov (.tmp 0),some (29,true)⟩,⟨some 31,.call (.fn 170) [(.tmp 30)],some (29,true)⟩,⟨some 32,.mov (.tmp 0),some (29,true)⟩,⟨some 33,.bin .eql .no (.tmp 31) (.tmp 32),some (29,true)⟩,
 ⟨some 34,.pick (.tmp 29) (.tmp 33) (.const (.bool false)),none⟩,⟨some 2,.mov (.tmp 34),none⟩]) (.ret)))) }

/-- posthorn/posthornref06.Same -/
def F_posthornref06_Same : ACFn := { nt := 10,results := [.tmp 4],body := (.seq (.region [⟨some 4,.mov (.const (.bool false)),none⟩]) (.seq (.region [⟨some 5,.mov (.tmp 0),none⟩,⟨some 6,.call (.fn 114) [(.tmp 5)],none⟩,⟨some 7,.mov (.tmp 1),none⟩,
 ⟨some 8,.call (.fn 114) [(.tmp 7)],none⟩,⟨some 9,.bin .eql .no (.tmp 6) (.tmp 8),none⟩,⟨some 4,.mov (.tmp 9),none⟩]) (.ret))) }

/-- posthorn/fields.lower -/
def F_fields_lower : ACFn := { nt := 29,results := [.tmp 2],body := (.seq (.region [⟨some 2,.mov (.const (.str [])),none⟩]) (.seq (.region [⟨some 6,.mov (.tmp 0),none⟩,⟨some 7,.cS2B true (.tmp 6),none⟩,⟨some 3,.mov (.tmp 7),none⟩]) (.seq (.seq (.region [⟨some 8,.mov (.tmp 3),none⟩,
 ⟨some 9,.len false (.tmp 8),none⟩,⟨some 10,.mov (.const (.int .i64 0)),none⟩]) (.block 0 (.loop (.seq (.region [⟨some 11,.bin .lss .no (.tmp 10) (.tmp 9),none⟩]) (.seq (.cond (.tmp 11) (.skip) (.exit 0)) (.seq (.block 1 (.seq (.region [⟨some 12,.mov (.tmp 10),none⟩,
 ⟨some 13,.iaddr 1 (.tmp 8) (.tmp 10),none⟩,⟨some 14,.load false 1 (.tmp 13),none⟩,⟨some 4,.mov (.tmp 12),none⟩,⟨some 5,.mov (.tmp 14),none⟩]) (.seq (.region [⟨some 15,.mov (.tmp 5),none⟩,⟨some 16,.bin .geq .no (.tmp 15) (.const (.b8 65)),none⟩,
 ⟨some 17,.mov (.tmp 16),none⟩,⟨some 18,.mov (.tmp 5),some (17,true)⟩,⟨some 19,.bin .leq .no (.tmp 18) (.const (.b8 90)),some (17,true)⟩,⟨some 20,.pick (.tmp 17) (.tmp 19) (.const (.bool false)),none⟩]) (.cond (.tmp 20) (.region [⟨some 21,.mov (.tmp 3),none⟩,
 ⟨some 22,.mov (.tmp 4),none⟩,⟨some 23,.mov (.tmp 5),none⟩,⟨some 24,.bin .add .no (.tmp 23) (.const (.b8 32)),none⟩,⟨some 25,.iaddr 1 (.tmp 21) (.tmp 22),none⟩,⟨none,.store 1 (.tmp 25) (.tmp 24),none⟩]) (.skip))))) (.region [⟨some 26,.bin .add .no (.tmp 10) (.const (.int .i64 1)),none⟩,
 ⟨some 10,.mov (.tmp 26),none⟩]))))))) (.seq (.region [⟨some 27,.mov (.tmp 3),none⟩,⟨some 28,.cB2S true (.tmp 27),none⟩,⟨some 2,.mov (.tmp 28),none⟩]) (.ret))))) }

/-- posthorn/fields.trim -/
def F_fields_trim : ACFn := { nt := 43,results := [.tmp 2],body := (.seq (.region [⟨some 2,.mov (.const (.str [])),none⟩]) (.seq (.block 0 (.loop (.seq (.seq (.region [⟨some 3,.mov (.tmp 0),none⟩,⟨some 4,.len true (.tmp 3),none⟩,
 ⟨some 5,.bin .gtr .no (.tmp 4) (.const (.int .i64 0)),none⟩,⟨some 6,.mov (.tmp 5),none⟩,⟨some 7,.mov (.tmp 0),some (6,true)⟩,⟨some 8,.idxS (.tmp 7) (.const (.int .i64 0)),some (6,true)⟩,⟨some 9,.bin .eql .no (.tmp 8) (.const (.b8 32)),some (6,true)⟩,
 ⟨some 10,.mov (.tmp 9),some (6,true)⟩,⟨some 11,.mov (.tmp 0),some (10,false)⟩,⟨some 12,.idxS (.tmp 11) (.const (.int .i64 0)),some (10,false)⟩,⟨some 13,.bin .eql .no (.tmp 12) (.const (.b8 9)),some (10,false)⟩,
 ⟨some 14,.pick (.tmp 10) (.const (.bool true)) (.tmp 13),some (6,true)⟩,⟨some 15,.pick (.tmp 6) (.tmp 14) (.const (.bool false)),none⟩]) (.cond (.tmp 15) (.skip) (.exit 0))) (.block 1 (.region [⟨some 16,.mov (.tmp 0),none⟩,
 ⟨some 17,.slc 0 (.tmp 16) (some (.const (.int .i64 1))) none none,none⟩,⟨some 0,.mov (.tmp 17),none⟩]))))) (.seq (.block 2 (.loop (.seq (.seq (.region [⟨some 18,.mov (.tmp 0),none⟩,⟨some 19,.len true (.tmp 18),none⟩,
 ⟨some 20,.bin .gtr .no (.tmp 19) (.const (.int .i64 0)),none⟩,⟨some 21,.mov (.tmp 20),none⟩,⟨some 22,.mov (.tmp 0),some (21,true)⟩,⟨some 23,.mov (.tmp 0),some (21,true)⟩,⟨some 24,.len true (.tmp 23),some (21,true)⟩,
 ⟨some 25,.bin .sub .no (.tmp 24) (.const (.int .i64 1)),some (21,true)⟩,⟨some 26,.idxS (.tmp 22) (.tmp 25),some (21,true)⟩,⟨some 27,.bin .eql .no (.tmp 26) (.const (.b8 32)),some (21,true)⟩,⟨some 28,.mov (.tmp 27),some (21,true)⟩,
 ⟨some 29,.mov (.tmp 0),some (28,false)⟩,⟨some 30,.mov (.tmp 0),some (28,false)⟩,⟨some 31,.len true (.tmp 30),some (28,false)⟩,⟨some 32,.bin .sub .no (.tmp 31) (.const (.int .i64 1)),some (28,false)⟩,⟨some 33,.idxS (.tmp 29) (.tmp 32),some (28,false)⟩,
 ⟨some 34,.bin .eql .no (.tmp 33) (.const (.b8 9)),some (28,false)⟩,⟨some 35,.pick (.tmp 28) (.const (.bool true)) (.tmp 34),some (21,true)⟩,⟨some 36,.pick (.tmp 21) (.tmp 35) (.const (.bool false)),none⟩]) (.cond (.tmp 36) (.skip) (.exit 2))) (.block 3 (.region [⟨some 37,.mov (.tmp 0),none⟩,
 ⟨some 38,.mov (.tmp 0),none⟩,⟨some 39,.len true (.tmp 38),none⟩,⟨some 40,.bin .sub .no (.tmp 39) (.const (.int .i64 1)),none⟩,⟨some 41,.slc 0 (.tmp 37) none (some (.tmp 40)) none,none⟩,⟨some 0,.mov (.tmp 41),none⟩]))))) (.seq (.region [⟨some 42,.mov (.tmp 0),none⟩,
 ⟨some 2,.mov (.tmp 42),none⟩]) (.ret))))) }

/-- posthorn/posthornref06.Trim -/
def F_posthornref06_Trim : ACFn := { nt := 34,results := [.tmp 2],body := (.seq (.region [⟨some 2,.mov (.const (.str [])),none⟩]) (.seq (.region [⟨some 5,.mov (.tmp 0),none⟩,⟨some 6,.len true (.tmp 5),none⟩,⟨some 3,.mov (.const (.int .i64 0)),none⟩,
 ⟨some 4,.mov (.tmp 6),none⟩]) (.seq (.block 0 (.loop (.seq (.seq (.region [⟨some 7,.mov (.tmp 3),none⟩,⟨some 8,.mov (.tmp 4),none⟩,⟨some 9,.bin .lss .no (.tmp 7) (.tmp 8),none⟩,⟨some 10,.mov (.tmp 9),none⟩,
 ⟨some 11,.mov (.tmp 0),some (10,true)⟩,⟨some 12,.mov (.tmp 3),some (10,true)⟩,⟨some 13,.idxS (.tmp 11) (.tmp 12),some (10,true)⟩,⟨some 14,.call (.fn 173) [(.tmp 13)],some (10,true)⟩,⟨some 15,.pick (.tmp 10) (.tmp 14) (.const (.bool false)),none⟩]) (.cond (.tmp 15) (.skip) (.exit 0))) (.block 1 (.region [⟨some 16,.mov (.tmp 3),none⟩,
 ⟨some 17,.bin .add .no (.tmp 16) (.const (.int .i64 1)),none⟩,⟨some 3,.mov (.tmp 17),none⟩]))))) (.seq (.block 2 (.loop (.seq (.seq (.region [⟨some 18,.mov (.tmp 4),none⟩,⟨some 19,.mov (.tmp 3),none⟩,⟨some 20,.bin .gtr .no (.tmp 18) (.tmp 19),none⟩,
 ⟨some 21,.mov (.tmp 20),none⟩,⟨some 22,.mov (.tmp 0),some (21,true)⟩,⟨some 23,.mov (.tmp 4),some (21,true)⟩,⟨some 24,.bin .sub .no (.tmp 23) (.const (.int .i64 1)),some (21,true)⟩,⟨some 25,.idxS (.tmp 22) (.tmp 24),some (21,true)⟩,
 ⟨some 26,.call (.fn 173) [(.tmp 25)],some (21,true)⟩,⟨some 27,.pick (.tmp 21) (.tmp 26) (.const (.bool false)),none⟩]) (.cond (.tmp 27) (.skip) (.exit 2))) (.block 3 (.region [⟨some 28,.mov (.tmp 4),none⟩,
 ⟨some 29,.bin .sub .no (.tmp 28) (.const (.int .i64 1)),none⟩,⟨some 4,.mov (.tmp 29),none⟩]))))) (.seq (.region [⟨some 30,.mov (.tmp 0),none⟩,⟨some 31,.mov (.tmp 3),none⟩,⟨some 32,.mov (.tmp 4),none⟩,⟨some 33,.slc 0 (.tmp 30) (some (.tmp 31)) (some (.tmp 32)) none,none⟩,
 ⟨some 2,.mov (.tmp 33),none⟩]) (.ret)))))) }

/-- posthorn/posthornref06.blank -/
def F_posthornref06_blank : ACFn := { nt := 9,results := [.tmp 2],body := (.seq (.region [⟨some 2,.mov (.const (.bool false)),none⟩]) (.seq (.region [⟨some 3,.mov (.tmp 0),none⟩,⟨some 4,.bin .eql .no (.tmp 3) (.const (.b8 32)),none⟩,⟨some 5,.mov (.tmp 4),none⟩,
 ⟨some 6,.mov (.tmp 0),some (5,false)⟩,⟨some 7,.bin .eql .no (.tmp 6) (.const (.b8 9)),some (5,false)⟩,⟨some 8,.pick (.tmp 5) (.const (.bool true)) (.tmp 7),none⟩,⟨some 2,.mov (.tmp 8),none⟩]) (.ret))) }

end Go.Ab

/-
  The abstract code of functions, printed by program (abgen.py, abput2.py).
-/
namespace Go.Ab

/-- strings.HasSuffix -/
def F_strings_HasSuffix : ACFn := { nt := 8,results := [.tmp 4],body := (.seq (.region [⟨some 4,.mov (.const (.bool false)),none⟩]) (.seq (.region [⟨some 5,.mov (.tmp 0),none⟩,⟨some 6,.mov (.tmp 1),none⟩,⟨some 7,.call (.fn 136) [(.tmp 5),(.tmp 6)],none⟩,
 ⟨some 4,.mov (.tmp 7),none⟩]) (.ret))) }

/-- internal/stringslite.HasSuffix -/
def F_internal_stringslite_HasSuffix : ACFn := { nt := 21,results := [.tmp 4],body := (.seq (.region [⟨some 4,.mov (.const (.bool false)),none⟩]) (.seq (.region [⟨some 5,.mov (.tmp 0),none⟩,⟨some 6,.len true (.tmp 5),none⟩,⟨some 7,.mov (.tmp 1),none⟩,
 ⟨some 8,.len true (.tmp 7),none⟩,⟨some 9,.bin .geq .no (.tmp 6) (.tmp 8),none⟩,⟨some 10,.mov (.tmp 9),none⟩,⟨some 11,.mov (.tmp 0),some (10,true)⟩,⟨some 12,.mov (.tmp 0),some (10,true)⟩,⟨some 13,.len true (.tmp 12),some (10,true)⟩,
 ⟨some 14,.mov (.tmp 1),some (10,true)⟩,⟨some 15,.len true (.tmp 14),some (10,true)⟩,⟨some 16,.bin .sub .no (.tmp 13) (.tmp 15),some (10,true)⟩,⟨some 17,.slc 0 (.tmp 11) (some (.tmp 16)) none none,some (10,true)⟩,
 ⟨some 18,.mov (.tmp 1),some (10,true)⟩,⟨some 19,.bin .eql .no (.tmp 17) (.tmp 18),some (10,true)⟩,⟨some 20,.pick (.tmp 10) (.tmp 19) (.const (.bool false)),none⟩,⟨some 4,.mov (.tmp 20),none⟩]) (.ret))) }

/-- posthorn/posthornref04.Parts -/
def F_posthornref04_Parts : ACFn := { nt := 35,results := [.tmp 4],body := (.seq (.region [⟨some 4,.mov (.const (.nils)),none⟩]) (.seq (.region [⟨some 5,.mov (.const (.nils)),none⟩]) (.seq (.region [⟨some 6,.mov (.const (.int .i64 0)),none⟩]) (.seq (.seq (.region [⟨some 7,.mov (.const (.int .i64 0)),none⟩]) (.block 0 (.loop (.seq (.seq (.region [⟨some 8,.mov (.tmp 7),none⟩,
 ⟨some 9,.mov (.tmp 0),none⟩,⟨some 10,.len true (.tmp 9),none⟩,⟨some 11,.bin .leq .no (.tmp 8) (.tmp 10),none⟩]) (.cond (.tmp 11) (.skip) (.exit 0))) (.seq (.block 1 (.seq (.region [⟨some 14,.mov (.tmp 7),none⟩,
 ⟨some 15,.mov (.tmp 0),none⟩,⟨some 16,.len true (.tmp 15),none⟩,⟨some 17,.bin .eql .no (.tmp 14) (.tmp 16),none⟩,⟨some 18,.mov (.tmp 17),none⟩,⟨some 19,.mov (.tmp 0),some (18,false)⟩,⟨some 20,.mov (.tmp 7),some (18,false)⟩,
 ⟨some 21,.idxS (.tmp 19) (.tmp 20),some (18,false)⟩,⟨some 22,.mov (.tmp 1),some (18,false)⟩,⟨some 23,.bin .eql .no (.tmp 21) (.tmp 22),some (18,false)⟩,⟨some 24,.pick (.tmp 18) (.const (.bool true)) (.tmp 23),none⟩]) (.cond (.tmp 24) (.seq (.region [⟨some 25,.mov (.tmp 5),none⟩,
 ⟨some 26,.mov (.tmp 0),none⟩,⟨some 27,.mov (.tmp 6),none⟩,⟨some 28,.mov (.tmp 7),none⟩,⟨some 29,.slc 0 (.tmp 26) (some (.tmp 27)) (some (.tmp 28)) none,none⟩,⟨some 30,.lit 1 (.str []) 1 [(0,(.tmp 29))],none⟩,
 ⟨some 31,.app false 1 (.tmp 25) (.tmp 30),none⟩,⟨some 5,.mov (.tmp 31),none⟩]) (.region [⟨some 32,.mov (.tmp 7),none⟩,⟨some 33,.bin .add .no (.tmp 32) (.const (.int .i64 1)),none⟩,⟨some 6,.mov (.tmp 33),none⟩])) (.skip)))) (.region [⟨some 12,.mov (.tmp 7),none⟩,
 ⟨some 13,.bin .add .no (.tmp 12) (.const (.int .i64 1)),none⟩,⟨some 7,.mov (.tmp 13),none⟩])))))) (.seq (.region [⟨some 34,.mov (.tmp 5),none⟩,⟨some 4,.mov (.tmp 34),none⟩]) (.ret)))))) }

/-- posthorn/posthornlaw04.alive -/
def F_posthornlaw04_alive : ACFn := { nt := 21,results := [.tmp 0],body := (.seq (.region [⟨some 0,.mov (.const (.bool false)),none⟩]) (.seq (.region [⟨some 4,.call (.fn 222) [(.const (.str [195,169]))],none⟩,⟨some 3,.mov (.tmp 4),none⟩,
 ⟨some 5,.ext 0 (.tmp 3),none⟩,⟨some 6,.ext 1 (.tmp 3),none⟩,⟨some 1,.mov (.tmp 5),none⟩,⟨some 2,.mov (.tmp 6),none⟩]) (.seq (.region [⟨some 7,.mov (.tmp 1),none⟩,⟨some 8,.bin .eql .no (.tmp 7) (.const (.str [61,63,117,116,102,45,56,63,66,63,119,54,107,61,63,61])),none⟩,
 ⟨some 9,.mov (.tmp 8),none⟩,⟨some 10,.mov (.tmp 2),some (9,true)⟩,⟨some 11,.bin .eql .no (.tmp 10) (.const (.int .i64 0)),some (9,true)⟩,⟨some 12,.pick (.tmp 9) (.tmp 11) (.const (.bool false)),none⟩,⟨some 13,.mov (.tmp 12),none⟩,
 ⟨some 14,.call (.fn 229) [(.const (.str [61,63,85,84,70,45,56,63,113,63,97,95,98,63,61,32,120]))],some (13,true)⟩,⟨some 15,.bin .eql .no (.tmp 14) (.const (.str [97,32,98,32,120])),some (13,true)⟩,⟨some 16,.pick (.tmp 13) (.tmp 15) (.const (.bool false)),none⟩,
 ⟨some 17,.mov (.tmp 16),none⟩,⟨some 18,.call (.fn 224) [(.const (.str [32]))],some (17,true)⟩,⟨some 19,.un .not (.tmp 18),some (17,true)⟩,⟨some 20,.pick (.tmp 17) (.tmp 19) (.const (.bool false)),none⟩,
 ⟨some 0,.mov (.tmp 20),none⟩]) (.ret)))) }

/-- posthorn/word.Encode -/
def F_word_Encode : ACFn := { nt := 38,results := [.tmp 2,.tmp 3],body := (.seq (.region [⟨some 2,.mov (.const (.str [])),none⟩,⟨some 3,.mov (.const (.int .i64 0)),none⟩]) (.seq (.block 0 (.seq (.region [⟨some 9,.mov (.tmp 0),none⟩,
 ⟨some 10,.len true (.tmp 9),none⟩,⟨some 11,.bin .gtr .no (.tmp 10) (.const (.int .i64 4096)),none⟩,⟨some 8,.mov (.tmp 11),none⟩]) (.cond (.tmp 8) (.seq (.region [⟨some 2,.mov (.const (.str [])),none⟩,⟨some 3,.mov (.const (.int .i64 2)),none⟩]) (.ret)) (.seq (.region [⟨some 13,.mov (.tmp 0),none⟩,
 ⟨some 14,.cS2B false (.tmp 13),none⟩,⟨some 15,.call (.fn 53) [(.tmp 14)],none⟩,⟨some 16,.un .not (.tmp 15),none⟩,⟨some 12,.mov (.tmp 16),none⟩]) (.cond (.tmp 12) (.seq (.region [⟨some 2,.mov (.const (.str [])),none⟩,
 ⟨some 3,.mov (.const (.int .i64 20)),none⟩]) (.ret)) (.seq (.region [⟨some 18,.mov (.tmp 0),none⟩,⟨some 19,.call (.fn 224) [(.tmp 18)],none⟩,⟨some 17,.mov (.tmp 19),none⟩]) (.cond (.tmp 17) (.seq (.region [⟨some 20,.mov (.tmp 0),none⟩,
 ⟨some 2,.mov (.tmp 20),none⟩,⟨some 3,.mov (.const (.int .i64 0)),none⟩]) (.ret)) (.skip)))))))) (.seq (.region [⟨some 4,.alloc [.nils],none⟩]) (.seq (.seq (.region [⟨some 21,.mov (.tmp 0),none⟩,⟨some 22,.cS2B false (.tmp 21),none⟩,
 ⟨some 23,.call (.fn 237) [(.tmp 22)],none⟩]) (.block 1 (.rangeFunc (.tmp 23) [24] (.region [⟨some 5,.mov (.tmp 24),none⟩]) (.block 2 (.seq (.region [⟨some 26,.mov (.tmp 5),none⟩,⟨some 27,.call (.fn 234) [(.tmp 26),(.const (.int .i64 0))],none⟩,
 ⟨some 25,.mov (.tmp 27),none⟩,⟨some 28,.ext 0 (.tmp 25),none⟩,⟨some 29,.ext 1 (.tmp 25),none⟩,⟨some 6,.mov (.tmp 28),none⟩,⟨some 7,.mov (.tmp 29),none⟩]) (.region [⟨some 30,.load false 1 (.tmp 4),none⟩,
 ⟨some 31,.mov (.tmp 6),none⟩,⟨some 32,.bin .add .no (.const (.str [61,63,117,116,102,45,56,63,66,63])) (.tmp 31),none⟩,⟨some 33,.bin .add .no (.tmp 32) (.const (.str [63,61])),none⟩,⟨some 34,.lit 1 (.str []) 1 [(0,(.tmp 33))],none⟩,
 ⟨some 35,.app false 1 (.tmp 30) (.tmp 34),none⟩,⟨none,.store 1 (.tmp 4) (.tmp 35),none⟩])))))) (.seq (.region [⟨some 36,.load false 1 (.tmp 4),none⟩,⟨some 37,.call (.fn 238) [(.tmp 36),(.const (.str [32]))],none⟩,
 ⟨some 2,.mov (.tmp 37),none⟩,⟨some 3,.mov (.const (.int .i64 0)),none⟩]) (.ret)))))) }

/-- posthorn/posthornref04.Encode -/
def F_posthornref04_Encode : ACFn := { nt := 45,results := [.tmp 2,.tmp 3],body := (.seq (.region [⟨some 2,.mov (.const (.str [])),none⟩,⟨some 3,.mov (.const (.int .i64 0)),none⟩]) (.seq (.seq (.region [⟨some 8,.mov (.tmp 0),none⟩,⟨some 9,.len true (.tmp 8),none⟩,
 ⟨some 10,.bin .gtr .no (.tmp 9) (.const (.int .i64 4096)),none⟩]) (.cond (.tmp 10) (.seq (.region [⟨some 2,.mov (.const (.str [])),none⟩,⟨some 3,.mov (.const (.int .i64 2)),none⟩]) (.ret)) (.skip))) (.seq (.seq (.region [⟨some 11,.mov (.tmp 0),none⟩,
 ⟨some 12,.cS2B false (.tmp 11),none⟩,⟨some 13,.call (.fn 74) [(.tmp 12)],none⟩,⟨some 14,.un .not (.tmp 13),none⟩]) (.cond (.tmp 14) (.seq (.region [⟨some 2,.mov (.const (.str [])),none⟩,⟨some 3,.mov (.const (.int .i64 20)),none⟩]) (.ret)) (.skip))) (.seq (.seq (.region [⟨some 15,.mov (.tmp 0),none⟩,
 ⟨some 16,.call (.fn 225) [(.tmp 15)],none⟩]) (.cond (.tmp 16) (.seq (.region [⟨some 17,.mov (.tmp 0),none⟩,⟨some 2,.mov (.tmp 17),none⟩,⟨some 3,.mov (.const (.int .i64 0)),none⟩]) (.ret)) (.skip))) (.seq (.region [⟨some 4,.mov (.const (.str [])),none⟩]) (.seq (.block 0 (.loop (.seq (.seq (.region [⟨some 18,.mov (.tmp 0),none⟩,
 ⟨some 19,.len true (.tmp 18),none⟩,⟨some 20,.bin .gtr .no (.tmp 19) (.const (.int .i64 0)),none⟩]) (.cond (.tmp 20) (.skip) (.exit 0))) (.block 1 (.seq (.region [⟨some 21,.mov (.tmp 0),none⟩,⟨some 22,.cS2B false (.tmp 21),none⟩,
 ⟨some 23,.call (.fn 63) [(.tmp 22),(.const (.int .i64 45))],none⟩,⟨some 5,.mov (.tmp 23),none⟩]) (.seq (.region [⟨some 25,.mov (.tmp 0),none⟩,⟨some 26,.mov (.tmp 5),none⟩,⟨some 27,.slc 0 (.tmp 25) none (some (.tmp 26)) none,none⟩,
 ⟨some 28,.cS2B false (.tmp 27),none⟩,⟨some 29,.call (.fn 239) [(.tmp 28),(.const (.int .i64 0))],none⟩,⟨some 24,.mov (.tmp 29),none⟩,⟨some 30,.ext 0 (.tmp 24),none⟩,⟨some 31,.ext 1 (.tmp 24),none⟩,⟨some 6,.mov (.tmp 30),none⟩,
 ⟨some 7,.mov (.tmp 31),none⟩]) (.seq (.seq (.region [⟨some 32,.mov (.tmp 4),none⟩,⟨some 33,.bin .neq .no (.tmp 32) (.const (.str [])),none⟩]) (.cond (.tmp 33) (.region [⟨some 34,.mov (.tmp 4),none⟩,⟨some 35,.bin .add .no (.tmp 34) (.const (.str [32])),none⟩,
 ⟨some 4,.mov (.tmp 35),none⟩]) (.skip))) (.seq (.region [⟨some 36,.mov (.tmp 4),none⟩,⟨some 37,.bin .add .no (.tmp 36) (.const (.str [61,63,117,116,102,45,56,63,66,63])),none⟩,⟨some 38,.mov (.tmp 6),none⟩,
 ⟨some 39,.bin .add .no (.tmp 37) (.tmp 38),none⟩,⟨some 40,.bin .add .no (.tmp 39) (.const (.str [63,61])),none⟩,⟨some 4,.mov (.tmp 40),none⟩]) (.region [⟨some 41,.mov (.tmp 0),none⟩,⟨some 42,.mov (.tmp 5),none⟩,
 ⟨some 43,.slc 0 (.tmp 41) (some (.tmp 42)) none none,none⟩,⟨some 0,.mov (.tmp 43),none⟩]))))))))) (.seq (.region [⟨some 44,.mov (.tmp 4),none⟩,⟨some 2,.mov (.tmp 44),none⟩,⟨some 3,.mov (.const (.int .i64 0)),none⟩]) (.ret)))))))) }

/-- posthorn/word.Plain -/
def F_word_Plain : ACFn := { nt := 38,results := [.tmp 2],body := (.seq (.region [⟨some 2,.mov (.const (.bool false)),none⟩]) (.seq (.seq (.region [⟨some 4,.mov (.tmp 0),none⟩,⟨some 5,.len true (.tmp 4),none⟩,⟨some 6,.mov (.const (.int .i64 0)),none⟩]) (.block 0 (.loop (.seq (.region [⟨some 7,.bin .lss .no (.tmp 6) (.tmp 5),none⟩]) (.seq (.cond (.tmp 7) (.skip) (.exit 0)) (.seq (.block 1 (.seq (.region [⟨some 8,.mov (.tmp 6),none⟩,
 ⟨some 3,.mov (.tmp 8),none⟩]) (.seq (.region [⟨some 9,.mov (.tmp 0),none⟩,⟨some 10,.mov (.tmp 3),none⟩,⟨some 11,.idxS (.tmp 9) (.tmp 10),none⟩,⟨some 12,.bin .lss .no (.tmp 11) (.const (.b8 32)),none⟩,⟨some 13,.mov (.tmp 12),none⟩,
 ⟨some 14,.mov (.tmp 0),some (13,false)⟩,⟨some 15,.mov (.tmp 3),some (13,false)⟩,⟨some 16,.idxS (.tmp 14) (.tmp 15),some (13,false)⟩,⟨some 17,.bin .gtr .no (.tmp 16) (.const (.b8 126)),some (13,false)⟩,
 ⟨some 18,.pick (.tmp 13) (.const (.bool true)) (.tmp 17),none⟩]) (.cond (.tmp 18) (.seq (.region [⟨some 2,.mov (.const (.bool false)),none⟩]) (.ret)) (.skip))))) (.region [⟨some 19,.bin .add .no (.tmp 6) (.const (.int .i64 1)),none⟩,
 ⟨some 6,.mov (.tmp 19),none⟩]))))))) (.seq (.region [⟨some 20,.mov (.tmp 0),none⟩,⟨some 21,.call (.fn 72) [(.tmp 20),(.const (.str [32]))],none⟩,⟨some 22,.un .not (.tmp 21),none⟩,⟨some 23,.mov (.tmp 22),none⟩,
 ⟨some 24,.mov (.tmp 0),some (23,true)⟩,⟨some 25,.call (.fn 130) [(.tmp 24),(.const (.str [32]))],some (23,true)⟩,⟨some 26,.un .not (.tmp 25),some (23,true)⟩,⟨some 27,.pick (.tmp 23) (.tmp 26) (.const (.bool false)),none⟩,
 ⟨some 28,.mov (.tmp 27),none⟩,⟨some 29,.mov (.tmp 0),some (28,true)⟩,⟨some 30,.call (.fn 66) [(.tmp 29),(.const (.str [32,32]))],some (28,true)⟩,⟨some 31,.un .not (.tmp 30),some (28,true)⟩,⟨some 32,.pick (.tmp 28) (.tmp 31) (.const (.bool false)),none⟩,
 ⟨some 33,.mov (.tmp 32),none⟩,⟨some 34,.mov (.tmp 0),some (33,true)⟩,⟨some 35,.call (.fn 66) [(.tmp 34),(.const (.str [61,63]))],some (33,true)⟩,⟨some 36,.un .not (.tmp 35),some (33,true)⟩,⟨some 37,.pick (.tmp 33) (.tmp 36) (.const (.bool false)),none⟩,
 ⟨some 2,.mov (.tmp 37),none⟩]) (.ret)))) }

/-- posthorn/posthornref04.Plain -/
def F_posthornref04_Plain : ACFn := { nt := 44,results := [.tmp 2],body := (.seq (.region [⟨some 2,.mov (.const (.bool false)),none⟩]) (.seq (.seq (.region [⟨some 3,.mov (.const (.int .i64 0)),none⟩]) (.block 0 (.loop (.seq (.seq (.region [⟨some 4,.mov (.tmp 3),none⟩,
 ⟨some 5,.mov (.tmp 0),none⟩,⟨some 6,.len true (.tmp 5),none⟩,⟨some 7,.bin .lss .no (.tmp 4) (.tmp 6),none⟩]) (.cond (.tmp 7) (.skip) (.exit 0))) (.seq (.block 1 (.seq (.region [⟨some 10,.mov (.tmp 0),none⟩,
 ⟨some 11,.mov (.tmp 3),none⟩,⟨some 12,.idxS (.tmp 10) (.tmp 11),none⟩,⟨some 13,.bin .lss .no (.tmp 12) (.const (.b8 32)),none⟩,⟨some 14,.mov (.tmp 13),none⟩,⟨some 15,.mov (.tmp 0),some (14,false)⟩,⟨some 16,.mov (.tmp 3),some (14,false)⟩,
 ⟨some 17,.idxS (.tmp 15) (.tmp 16),some (14,false)⟩,⟨some 18,.bin .gtr .no (.tmp 17) (.const (.b8 126)),some (14,false)⟩,⟨some 19,.pick (.tmp 14) (.const (.bool true)) (.tmp 18),none⟩]) (.cond (.tmp 19) (.seq (.region [⟨some 2,.mov (.const (.bool false)),none⟩]) (.ret)) (.skip)))) (.region [⟨some 8,.mov (.tmp 3),none⟩,
 ⟨some 9,.bin .add .no (.tmp 8) (.const (.int .i64 1)),none⟩,⟨some 3,.mov (.tmp 9),none⟩])))))) (.seq (.seq (.region [⟨some 20,.mov (.tmp 0),none⟩,⟨some 21,.len true (.tmp 20),none⟩,⟨some 22,.bin .gtr .no (.tmp 21) (.const (.int .i64 0)),none⟩,
 ⟨some 23,.mov (.tmp 22),none⟩,⟨some 24,.mov (.tmp 0),some (23,true)⟩,⟨some 25,.idxS (.tmp 24) (.const (.int .i64 0)),some (23,true)⟩,⟨some 26,.bin .eql .no (.tmp 25) (.const (.b8 32)),some (23,true)⟩,⟨some 27,.mov (.tmp 26),some (23,true)⟩,
 ⟨some 28,.mov (.tmp 0),some (27,false)⟩,⟨some 29,.mov (.tmp 0),some (27,false)⟩,⟨some 30,.len true (.tmp 29),some (27,false)⟩,⟨some 31,.bin .sub .no (.tmp 30) (.const (.int .i64 1)),some (27,false)⟩,⟨some 32,.idxS (.tmp 28) (.tmp 31),some (27,false)⟩,
 ⟨some 33,.bin .eql .no (.tmp 32) (.const (.b8 32)),some (27,false)⟩,⟨some 34,.pick (.tmp 27) (.const (.bool true)) (.tmp 33),some (23,true)⟩,⟨some 35,.pick (.tmp 23) (.tmp 34) (.const (.bool false)),none⟩]) (.cond (.tmp 35) (.seq (.region [⟨some 2,.mov (.const (.bool false)),none⟩]) (.ret)) (.skip))) (.seq (.region [⟨some 36,.mov (.tmp 0),none⟩,
 ⟨some 37,.call (.fn 56) [(.tmp 36),(.const (.str [32,32]))],none⟩,⟨some 38,.un .not (.tmp 37),none⟩,⟨some 39,.mov (.tmp 38),none⟩,⟨some 40,.mov (.tmp 0),some (39,true)⟩,⟨some 41,.call (.fn 56) [(.tmp 40),(.const (.str [61,63]))],some (39,true)⟩,
 ⟨some 42,.un .not (.tmp 41),some (39,true)⟩,⟨some 43,.pick (.tmp 39) (.tmp 42) (.const (.bool false)),none⟩,⟨some 2,.mov (.tmp 43),none⟩]) (.ret))))) }

/-- posthorn/posthornlaw04.WordEncodes -/
def F_posthornlaw04_WordEncodes : ACFn := { nt := 49,results := [.tmp 2],body := (.seq (.region [⟨some 2,.mov (.const (.bool false)),none⟩]) (.seq (.seq (.region [⟨some 7,.mov (.tmp 0),none⟩,⟨some 8,.len true (.tmp 7),none⟩,⟨some 9,.bin .gtr .no (.tmp 8) (.const (.int .i64 600)),none⟩,
 ⟨some 10,.mov (.tmp 9),none⟩,⟨some 11,.mov (.tmp 0),some (10,true)⟩,⟨some 12,.len true (.tmp 11),some (10,true)⟩,⟨some 13,.bin .leq .no (.tmp 12) (.const (.int .i64 4096)),some (10,true)⟩,⟨some 14,.pick (.tmp 10) (.tmp 13) (.const (.bool false)),none⟩,
 ⟨some 15,.mov (.tmp 14),none⟩,⟨some 16,.mov (.tmp 0),some (15,false)⟩,⟨some 17,.len true (.tmp 16),some (15,false)⟩,⟨some 18,.bin .gtr .no (.tmp 17) (.const (.int .i64 5000)),some (15,false)⟩,⟨some 19,.pick (.tmp 15) (.const (.bool true)) (.tmp 18),none⟩]) (.cond (.tmp 19) (.seq (.region [⟨some 20,.call (.fn 221) [],none⟩,
 ⟨some 2,.mov (.tmp 20),none⟩]) (.ret)) (.skip))) (.seq (.region [⟨some 22,.mov (.tmp 0),none⟩,⟨some 23,.call (.fn 222) [(.tmp 22)],none⟩,⟨some 21,.mov (.tmp 23),none⟩,⟨some 24,.ext 0 (.tmp 21),none⟩,⟨some 25,.ext 1 (.tmp 21),none⟩,
 ⟨some 3,.mov (.tmp 24),none⟩,⟨some 4,.mov (.tmp 25),none⟩]) (.seq (.region [⟨some 27,.mov (.tmp 0),none⟩,⟨some 28,.call (.fn 223) [(.tmp 27)],none⟩,⟨some 26,.mov (.tmp 28),none⟩,⟨some 29,.ext 0 (.tmp 26),none⟩,
 ⟨some 30,.ext 1 (.tmp 26),none⟩,⟨some 5,.mov (.tmp 29),none⟩,⟨some 6,.mov (.tmp 30),none⟩]) (.seq (.region [⟨some 31,.call (.fn 221) [],none⟩,⟨some 32,.mov (.tmp 31),none⟩,⟨some 33,.mov (.tmp 0),some (32,true)⟩,
 ⟨some 34,.call (.fn 224) [(.tmp 33)],some (32,true)⟩,⟨some 35,.mov (.tmp 0),some (32,true)⟩,⟨some 36,.call (.fn 225) [(.tmp 35)],some (32,true)⟩,⟨some 37,.bin .eql .bool (.tmp 34) (.tmp 36),some (32,true)⟩,
 ⟨some 38,.pick (.tmp 32) (.tmp 37) (.const (.bool false)),none⟩,⟨some 39,.mov (.tmp 38),none⟩,⟨some 40,.mov (.tmp 3),some (39,true)⟩,⟨some 41,.mov (.tmp 5),some (39,true)⟩,⟨some 42,.bin .eql .no (.tmp 40) (.tmp 41),some (39,true)⟩,
 ⟨some 43,.pick (.tmp 39) (.tmp 42) (.const (.bool false)),none⟩,⟨some 44,.mov (.tmp 43),none⟩,⟨some 45,.mov (.tmp 4),some (44,true)⟩,⟨some 46,.mov (.tmp 6),some (44,true)⟩,⟨some 47,.bin .eql .no (.tmp 45) (.tmp 46),some (44,true)⟩,
 ⟨some 48,.pick (.tmp 44) (.tmp 47) (.const (.bool false)),none⟩,⟨some 2,.mov (.tmp 48),none⟩]) (.ret)))))) }

/-- posthorn/word.One -/
def F_word_One : ACFn := { nt := 97,results := [.tmp 2,.tmp 3],body := (.seq (.region [⟨some 2,.mov (.const (.str [])),none⟩,⟨some 3,.mov (.const (.bool false)),none⟩]) (.seq (.seq (.region [⟨some 13,.mov (.tmp 0),none⟩,⟨some 14,.len true (.tmp 13),none⟩,
 ⟨some 15,.bin .gtr .no (.tmp 14) (.const (.int .i64 75)),none⟩,⟨some 16,.mov (.tmp 15),none⟩,⟨some 17,.mov (.tmp 0),some (16,false)⟩,⟨some 18,.call (.fn 72) [(.tmp 17),(.const (.str [61,63]))],some (16,false)⟩,
 ⟨some 19,.un .not (.tmp 18),some (16,false)⟩,⟨some 20,.pick (.tmp 16) (.const (.bool true)) (.tmp 19),none⟩,⟨some 21,.mov (.tmp 20),none⟩,⟨some 22,.mov (.tmp 0),some (21,false)⟩,⟨some 23,.call (.fn 130) [(.tmp 22),(.const (.str [63,61]))],some (21,false)⟩,
 ⟨some 24,.un .not (.tmp 23),some (21,false)⟩,⟨some 25,.pick (.tmp 21) (.const (.bool true)) (.tmp 24),none⟩]) (.cond (.tmp 25) (.seq (.region [⟨some 2,.mov (.const (.str [])),none⟩,⟨some 3,.mov (.const (.bool false)),none⟩]) (.ret)) (.skip))) (.seq (.region [⟨some 26,.mov (.tmp 0),none⟩,
 ⟨some 27,.call (.fn 133) [(.tmp 26),(.const (.str [63]))],none⟩,⟨some 4,.mov (.tmp 27),none⟩]) (.seq (.seq (.region [⟨some 28,.mov (.tmp 4),none⟩,⟨some 29,.len false (.tmp 28),none⟩,⟨some 30,.bin .neq .no (.tmp 29) (.const (.int .i64 5)),none⟩,
 ⟨some 31,.mov (.tmp 30),none⟩,⟨some 32,.mov (.tmp 0),some (31,false)⟩,⟨some 33,.call (.fn 66) [(.tmp 32),(.const (.str [32]))],some (31,false)⟩,⟨some 34,.pick (.tmp 31) (.const (.bool true)) (.tmp 33),none⟩]) (.cond (.tmp 34) (.seq (.region [⟨some 2,.mov (.const (.str [])),none⟩,
 ⟨some 3,.mov (.const (.bool false)),none⟩]) (.ret)) (.skip))) (.seq (.region [⟨some 35,.mov (.tmp 4),none⟩,⟨some 36,.iaddr 1 (.tmp 35) (.const (.int .i64 1)),none⟩,⟨some 37,.loadc false 1 (.tmp 36),none⟩,
 ⟨some 38,.callk (.fn 240) [(.tmp 37)],none⟩,⟨some 39,.mov (.tmp 4),none⟩,⟨some 40,.iaddr 1 (.tmp 39) (.const (.int .i64 2)),none⟩,⟨some 41,.loadc false 1 (.tmp 40),none⟩,⟨some 42,.callk (.fn 240) [(.tmp 41)],none⟩,
 ⟨some 43,.mov (.tmp 4),none⟩,⟨some 44,.iaddr 1 (.tmp 43) (.const (.int .i64 3)),none⟩,⟨some 45,.loadc false 1 (.tmp 44),none⟩,⟨some 5,.mov (.tmp 38),none⟩,⟨some 6,.mov (.tmp 42),none⟩,⟨some 7,.mov (.tmp 45),none⟩]) (.seq (.region [⟨some 8,.mov (.const (.str [])),none⟩,
 ⟨some 9,.mov (.const (.bool false)),none⟩]) (.seq (.seq (.region [⟨some 46,.mov (.tmp 6),none⟩]) (.block 0 (.seq (.region [⟨some 48,.bin .eql .no (.tmp 46) (.const (.str [98])),none⟩,⟨some 47,.mov (.tmp 48),none⟩]) (.cond (.tmp 47) (.seq (.region [⟨some 50,.mov (.tmp 7),none⟩,
 ⟨some 51,.call (.fn 241) [(.tmp 50)],none⟩,⟨some 49,.mov (.tmp 51),none⟩,⟨some 52,.ext 0 (.tmp 49),none⟩,⟨some 53,.ext 1 (.tmp 49),none⟩,⟨some 11,.alloc [.int .i64 0,.int .i64 0],none⟩,⟨some 10,.mov (.tmp 52),none⟩,
 ⟨none,.store 2 (.tmp 11) (.tmp 53),none⟩]) (.region [⟨some 54,.mov (.tmp 10),none⟩,⟨some 55,.cB2S false (.tmp 54),none⟩,⟨some 56,.faddr 1 (.tmp 11),none⟩,⟨some 57,.load false 1 (.tmp 56),none⟩,⟨some 58,.bin .eql .no (.tmp 57) (.const (.int .i64 0)),none⟩,
 ⟨some 8,.mov (.tmp 55),none⟩,⟨some 9,.mov (.tmp 58),none⟩])) (.seq (.region [⟨some 60,.bin .eql .no (.tmp 46) (.const (.str [113])),none⟩,⟨some 59,.mov (.tmp 60),none⟩]) (.cond (.tmp 59) (.region [⟨some 62,.mov (.tmp 7),none⟩,
 ⟨some 63,.call (.fn 242) [(.tmp 62)],none⟩,⟨some 61,.mov (.tmp 63),none⟩,⟨some 64,.ext 0 (.tmp 61),none⟩,⟨some 65,.ext 1 (.tmp 61),none⟩,⟨some 8,.mov (.tmp 64),none⟩,⟨some 9,.mov (.tmp 65),none⟩]) (.skip))))))) (.seq (.seq (.region [⟨some 66,.mov (.tmp 9),none⟩,
 ⟨some 67,.un .not (.tmp 66),none⟩,⟨some 68,.mov (.tmp 67),none⟩,⟨some 69,.mov (.tmp 5),some (68,false)⟩,⟨some 70,.bin .neq .no (.tmp 69) (.const (.str [117,116,102,45,56])),some (68,false)⟩,⟨some 71,.mov (.tmp 70),some (68,false)⟩,
 ⟨some 72,.mov (.tmp 5),some (71,true)⟩,⟨some 73,.bin .neq .no (.tmp 72) (.const (.str [117,115,45,97,115,99,105,105])),some (71,true)⟩,⟨some 74,.pick (.tmp 71) (.tmp 73) (.const (.bool false)),some (68,false)⟩,
 ⟨some 75,.pick (.tmp 68) (.const (.bool true)) (.tmp 74),none⟩,⟨some 76,.mov (.tmp 75),none⟩,⟨some 77,.mov (.tmp 8),some (76,false)⟩,⟨some 78,.cS2B false (.tmp 77),some (76,false)⟩,⟨some 79,.call (.fn 53) [(.tmp 78)],some (76,false)⟩,
 ⟨some 80,.un .not (.tmp 79),some (76,false)⟩,⟨some 81,.pick (.tmp 76) (.const (.bool true)) (.tmp 80),none⟩]) (.cond (.tmp 81) (.seq (.region [⟨some 2,.mov (.const (.str [])),none⟩,⟨some 3,.mov (.const (.bool false)),none⟩]) (.ret)) (.skip))) (.seq (.seq (.region [⟨some 82,.mov (.tmp 8),none⟩,
 ⟨some 83,.len true (.tmp 82),none⟩,⟨some 84,.mov (.const (.int .i64 0)),none⟩]) (.block 1 (.loop (.seq (.region [⟨some 85,.bin .lss .no (.tmp 84) (.tmp 83),none⟩]) (.seq (.cond (.tmp 85) (.skip) (.exit 1)) (.seq (.block 2 (.seq (.region [⟨some 86,.mov (.tmp 84),none⟩,
 ⟨some 12,.mov (.tmp 86),none⟩]) (.seq (.region [⟨some 87,.mov (.tmp 5),none⟩,⟨some 88,.bin .eql .no (.tmp 87) (.const (.str [117,115,45,97,115,99,105,105])),none⟩,⟨some 89,.mov (.tmp 88),none⟩,⟨some 90,.mov (.tmp 8),some (89,true)⟩,
 ⟨some 91,.mov (.tmp 12),some (89,true)⟩,⟨some 92,.idxS (.tmp 90) (.tmp 91),some (89,true)⟩,⟨some 93,.bin .gtr .no (.tmp 92) (.const (.b8 127)),some (89,true)⟩,⟨some 94,.pick (.tmp 89) (.tmp 93) (.const (.bool false)),none⟩]) (.cond (.tmp 94) (.seq (.region [⟨some 2,.mov (.const (.str [])),none⟩,
 ⟨some 3,.mov (.const (.bool false)),none⟩]) (.ret)) (.skip))))) (.region [⟨some 95,.bin .add .no (.tmp 84) (.const (.int .i64 1)),none⟩,⟨some 84,.mov (.tmp 95),none⟩]))))))) (.seq (.region [⟨some 96,.mov (.tmp 8),none⟩,
 ⟨some 2,.mov (.tmp 96),none⟩,⟨some 3,.mov (.const (.bool true)),none⟩]) (.ret))))))))))) }

/-- posthorn/word.Decode -/
def F_word_Decode : ACFn := { nt := 40,results := [.tmp 2],body := (.seq (.region [⟨some 2,.mov (.const (.str [])),none⟩]) (.seq (.region [⟨some 3,.alloc [.bslot,.nils],none⟩]) (.seq (.region [⟨some 4,.mov (.const (.bool false)),none⟩]) (.seq (.seq (.region [⟨some 9,.mov (.tmp 0),none⟩,
 ⟨some 10,.call (.fn 133) [(.tmp 9),(.const (.str [32]))],none⟩,⟨some 11,.len false (.tmp 10),none⟩,⟨some 12,.mov (.const (.int .i64 0)),none⟩]) (.block 0 (.loop (.seq (.region [⟨some 13,.bin .lss .no (.tmp 12) (.tmp 11),none⟩]) (.seq (.cond (.tmp 13) (.skip) (.exit 0)) (.seq (.block 1 (.seq (.region [⟨some 14,.mov (.tmp 12),none⟩,
 ⟨some 15,.iaddr 1 (.tmp 10) (.tmp 12),none⟩,⟨some 16,.load false 1 (.tmp 15),none⟩,⟨some 5,.mov (.tmp 14),none⟩,⟨some 6,.mov (.tmp 16),none⟩]) (.seq (.region [⟨some 18,.mov (.tmp 6),none⟩,⟨some 19,.call (.fn 227) [(.tmp 18)],none⟩,
 ⟨some 17,.mov (.tmp 19),none⟩,⟨some 20,.ext 0 (.tmp 17),none⟩,⟨some 21,.ext 1 (.tmp 17),none⟩,⟨some 7,.mov (.tmp 20),none⟩,⟨some 8,.mov (.tmp 21),none⟩]) (.seq (.seq (.region [⟨some 22,.mov (.tmp 5),none⟩,
 ⟨some 23,.bin .gtr .no (.tmp 22) (.const (.int .i64 0)),none⟩,⟨some 24,.mov (.tmp 23),none⟩,⟨some 25,.mov (.tmp 8),some (24,true)⟩,⟨some 26,.mov (.tmp 25),some (24,true)⟩,⟨some 27,.mov (.tmp 4),some (26,true)⟩,
 ⟨some 28,.pick (.tmp 26) (.tmp 27) (.const (.bool false)),some (24,true)⟩,⟨some 29,.un .not (.tmp 28),some (24,true)⟩,⟨some 30,.pick (.tmp 24) (.tmp 29) (.const (.bool false)),none⟩]) (.cond (.tmp 30) (.region [⟨some 31,.call (.fn 57) [(.tmp 3),(.const (.b8 32))],none⟩]) (.skip))) (.seq (.seq (.region [⟨some 32,.mov (.tmp 8),none⟩]) (.cond (.tmp 32) (.region [⟨some 33,.mov (.tmp 7),none⟩,
 ⟨some 34,.call (.fn 58) [(.tmp 3),(.tmp 33)],none⟩]) (.region [⟨some 35,.mov (.tmp 6),none⟩,⟨some 36,.call (.fn 58) [(.tmp 3),(.tmp 35)],none⟩]))) (.region [⟨some 37,.mov (.tmp 8),none⟩,⟨some 4,.mov (.tmp 37),none⟩])))))) (.region [⟨some 38,.bin .add .no (.tmp 12) (.const (.int .i64 1)),none⟩,
 ⟨some 12,.mov (.tmp 38),none⟩]))))))) (.seq (.region [⟨some 39,.call (.fn 59) [(.tmp 3)],none⟩,⟨some 2,.mov (.tmp 39),none⟩]) (.ret)))))) }

/-- posthorn/posthornlaw04.WordBack -/
def F_posthornlaw04_WordBack : ACFn := { nt := 34,results := [.tmp 2],body := (.seq (.region [⟨some 2,.mov (.const (.bool false)),none⟩]) (.seq (.seq (.region [⟨some 5,.mov (.tmp 0),none⟩,⟨some 6,.len true (.tmp 5),none⟩,⟨some 7,.bin .gtr .no (.tmp 6) (.const (.int .i64 3000)),none⟩]) (.cond (.tmp 7) (.seq (.region [⟨some 8,.call (.fn 221) [],none⟩,
 ⟨some 2,.mov (.tmp 8),none⟩]) (.ret)) (.skip))) (.seq (.region [⟨some 10,.mov (.tmp 0),none⟩,⟨some 11,.call (.fn 222) [(.tmp 10)],none⟩,⟨some 9,.mov (.tmp 11),none⟩,⟨some 12,.ext 0 (.tmp 9),none⟩,⟨some 13,.ext 1 (.tmp 9),none⟩,
 ⟨some 3,.mov (.tmp 12),none⟩,⟨some 4,.mov (.tmp 13),none⟩]) (.seq (.seq (.region [⟨some 14,.mov (.tmp 4),none⟩,⟨some 15,.bin .neq .no (.tmp 14) (.const (.int .i64 0)),none⟩]) (.cond (.tmp 15) (.seq (.region [⟨some 16,.call (.fn 221) [],none⟩,
 ⟨some 17,.mov (.tmp 16),none⟩,⟨some 18,.mov (.tmp 3),some (17,true)⟩,⟨some 19,.bin .eql .no (.tmp 18) (.const (.str [])),some (17,true)⟩,⟨some 20,.pick (.tmp 17) (.tmp 19) (.const (.bool false)),none⟩,
 ⟨some 21,.mov (.tmp 20),none⟩,⟨some 22,.mov (.tmp 0),some (21,true)⟩,⟨some 23,.cS2B false (.tmp 22),some (21,true)⟩,⟨some 24,.call (.fn 53) [(.tmp 23)],some (21,true)⟩,⟨some 25,.un .not (.tmp 24),some (21,true)⟩,
 ⟨some 26,.pick (.tmp 21) (.tmp 25) (.const (.bool false)),none⟩,⟨some 2,.mov (.tmp 26),none⟩]) (.ret)) (.skip))) (.seq (.region [⟨some 27,.call (.fn 221) [],none⟩,⟨some 28,.mov (.tmp 27),none⟩,⟨some 29,.mov (.tmp 3),some (28,true)⟩,
 ⟨some 30,.call (.fn 229) [(.tmp 29)],some (28,true)⟩,⟨some 31,.mov (.tmp 0),some (28,true)⟩,⟨some 32,.bin .eql .no (.tmp 30) (.tmp 31),some (28,true)⟩,⟨some 33,.pick (.tmp 28) (.tmp 32) (.const (.bool false)),none⟩,
 ⟨some 2,.mov (.tmp 33),none⟩]) (.ret)))))) }

/-- posthorn/posthornlaw04.WordShort -/
def F_posthornlaw04_WordShort : ACFn := { nt := 89,results := [.tmp 2],body := (.seq (.region [⟨some 2,.mov (.const (.bool false)),none⟩]) (.seq (.seq (.region [⟨some 9,.mov (.tmp 0),none⟩,⟨some 10,.len true (.tmp 9),none⟩,⟨some 11,.bin .gtr .no (.tmp 10) (.const (.int .i64 3000)),none⟩]) (.cond (.tmp 11) (.seq (.region [⟨some 12,.call (.fn 221) [],none⟩,
 ⟨some 2,.mov (.tmp 12),none⟩]) (.ret)) (.skip))) (.seq (.region [⟨some 14,.mov (.tmp 0),none⟩,⟨some 15,.call (.fn 222) [(.tmp 14)],none⟩,⟨some 13,.mov (.tmp 15),none⟩,⟨some 16,.ext 0 (.tmp 13),none⟩,⟨some 17,.ext 1 (.tmp 13),none⟩,
 ⟨some 3,.mov (.tmp 16),none⟩,⟨some 4,.mov (.tmp 17),none⟩]) (.seq (.seq (.region [⟨some 18,.mov (.tmp 4),none⟩,⟨some 19,.bin .neq .no (.tmp 18) (.const (.int .i64 0)),none⟩]) (.cond (.tmp 19) (.seq (.region [⟨some 20,.call (.fn 221) [],none⟩,
 ⟨some 2,.mov (.tmp 20),none⟩]) (.ret)) (.skip))) (.seq (.region [⟨some 5,.mov (.const (.int .i64 0)),none⟩]) (.seq (.seq (.region [⟨some 6,.mov (.const (.int .i64 0)),none⟩]) (.block 0 (.loop (.seq (.seq (.region [⟨some 21,.mov (.tmp 6),none⟩,
 ⟨some 22,.mov (.tmp 3),none⟩,⟨some 23,.len true (.tmp 22),none⟩,⟨some 24,.bin .leq .no (.tmp 21) (.tmp 23),none⟩]) (.cond (.tmp 24) (.skip) (.exit 0))) (.seq (.block 1 (.seq (.seq (.region [⟨some 27,.mov (.tmp 6),none⟩,
 ⟨some 28,.mov (.tmp 3),none⟩,⟨some 29,.len true (.tmp 28),none⟩,⟨some 30,.bin .lss .no (.tmp 27) (.tmp 29),none⟩,⟨some 31,.mov (.tmp 30),none⟩,⟨some 32,.mov (.tmp 3),some (31,true)⟩,⟨some 33,.mov (.tmp 6),some (31,true)⟩,
 ⟨some 34,.idxS (.tmp 32) (.tmp 33),some (31,true)⟩,⟨some 35,.bin .lss .no (.tmp 34) (.const (.b8 32)),some (31,true)⟩,⟨some 36,.mov (.tmp 35),some (31,true)⟩,⟨some 37,.mov (.tmp 3),some (36,false)⟩,⟨some 38,.mov (.tmp 6),some (36,false)⟩,
 ⟨some 39,.idxS (.tmp 37) (.tmp 38),some (36,false)⟩,⟨some 40,.bin .gtr .no (.tmp 39) (.const (.b8 126)),some (36,false)⟩,⟨some 41,.pick (.tmp 36) (.const (.bool true)) (.tmp 40),some (31,true)⟩,⟨some 42,.pick (.tmp 31) (.tmp 41) (.const (.bool false)),none⟩]) (.cond (.tmp 42) (.seq (.region [⟨some 2,.mov (.const (.bool false)),none⟩]) (.ret)) (.skip))) (.seq (.region [⟨some 43,.mov (.tmp 3),none⟩,
 ⟨some 44,.mov (.tmp 0),none⟩,⟨some 45,.bin .neq .no (.tmp 43) (.tmp 44),none⟩,⟨some 46,.mov (.tmp 45),none⟩,⟨some 47,.mov (.tmp 6),some (46,true)⟩,⟨some 48,.mov (.tmp 3),some (46,true)⟩,⟨some 49,.len true (.tmp 48),some (46,true)⟩,
 ⟨some 50,.bin .eql .no (.tmp 47) (.tmp 49),some (46,true)⟩,⟨some 51,.mov (.tmp 50),some (46,true)⟩,⟨some 52,.mov (.tmp 3),some (51,false)⟩,⟨some 53,.mov (.tmp 6),some (51,false)⟩,⟨some 54,.idxS (.tmp 52) (.tmp 53),some (51,false)⟩,
 ⟨some 55,.bin .eql .no (.tmp 54) (.const (.b8 32)),some (51,false)⟩,⟨some 56,.pick (.tmp 51) (.const (.bool true)) (.tmp 55),some (46,true)⟩,⟨some 57,.pick (.tmp 46) (.tmp 56) (.const (.bool false)),none⟩]) (.cond (.tmp 57) (.seq (.region [⟨some 59,.mov (.tmp 3),none⟩,
 ⟨some 60,.mov (.tmp 5),none⟩,⟨some 61,.mov (.tmp 6),none⟩,⟨some 62,.slc 0 (.tmp 59) (some (.tmp 60)) (some (.tmp 61)) none,none⟩,⟨some 63,.call (.fn 227) [(.tmp 62)],none⟩,⟨some 58,.mov (.tmp 63),none⟩,
 ⟨some 64,.ext 0 (.tmp 58),none⟩,⟨some 65,.ext 1 (.tmp 58),none⟩,⟨some 7,.mov (.tmp 64),none⟩,⟨some 8,.mov (.tmp 65),none⟩]) (.seq (.seq (.region [⟨some 66,.mov (.tmp 6),none⟩,⟨some 67,.mov (.tmp 5),none⟩,
 ⟨some 68,.bin .sub .no (.tmp 66) (.tmp 67),none⟩,⟨some 69,.bin .gtr .no (.tmp 68) (.const (.int .i64 75)),none⟩,⟨some 70,.mov (.tmp 69),none⟩,⟨some 71,.mov (.tmp 8),some (70,false)⟩,⟨some 72,.un .not (.tmp 71),some (70,false)⟩,
 ⟨some 73,.pick (.tmp 70) (.const (.bool true)) (.tmp 72),none⟩]) (.cond (.tmp 73) (.seq (.region [⟨some 2,.mov (.const (.bool false)),none⟩]) (.ret)) (.skip))) (.region [⟨some 74,.mov (.tmp 6),none⟩,⟨some 75,.bin .add .no (.tmp 74) (.const (.int .i64 1)),none⟩,
 ⟨some 5,.mov (.tmp 75),none⟩]))) (.skip))))) (.region [⟨some 25,.mov (.tmp 6),none⟩,⟨some 26,.bin .add .no (.tmp 25) (.const (.int .i64 1)),none⟩,⟨some 6,.mov (.tmp 26),none⟩])))))) (.seq (.region [⟨some 76,.call (.fn 221) [],none⟩,
 ⟨some 77,.mov (.tmp 76),none⟩,⟨some 78,.mov (.tmp 0),some (77,true)⟩,⟨some 79,.call (.fn 224) [(.tmp 78)],some (77,true)⟩,⟨some 80,.mov (.tmp 3),some (77,true)⟩,⟨some 81,.mov (.tmp 0),some (77,true)⟩,⟨some 82,.bin .eql .no (.tmp 80) (.tmp 81),some (77,true)⟩,
 ⟨some 83,.mov (.tmp 82),some (77,true)⟩,⟨some 84,.mov (.tmp 3),some (83,true)⟩,⟨some 85,.call (.fn 224) [(.tmp 84)],some (83,true)⟩,⟨some 86,.pick (.tmp 83) (.tmp 85) (.const (.bool false)),some (77,true)⟩,
 ⟨some 87,.bin .eql .bool (.tmp 79) (.tmp 86),some (77,true)⟩,⟨some 88,.pick (.tmp 77) (.tmp 87) (.const (.bool false)),none⟩,⟨some 2,.mov (.tmp 88),none⟩]) (.ret)))))))) }

/-- posthorn/bits.Encode -/
def F_bits_Encode : ACFn := { nt := 69,results := [.tmp 4,.tmp 5],body := (.seq (.region [⟨some 4,.mov (.const (.str [])),none⟩,⟨some 5,.mov (.const (.int .i64 0)),none⟩]) (.seq (.seq (.region [⟨some 13,.mov (.tmp 0),none⟩,⟨some 14,.len false (.tmp 13),none⟩,
 ⟨some 15,.mov (.tmp 1),none⟩,⟨some 16,.call (.fn 245) [(.tmp 14),(.tmp 15)],none⟩,⟨some 6,.mov (.tmp 16),none⟩]) (.seq (.region [⟨some 17,.mov (.tmp 6),none⟩,⟨some 18,.bin .neq .no (.tmp 17) (.const (.int .i64 0)),none⟩]) (.cond (.tmp 18) (.seq (.region [⟨some 19,.mov (.tmp 6),none⟩,
 ⟨some 4,.mov (.const (.str [])),none⟩,⟨some 5,.mov (.tmp 19),none⟩]) (.ret)) (.skip)))) (.seq (.region [⟨some 7,.alloc [.bslot,.nils],none⟩]) (.seq (.region [⟨some 8,.mov (.const (.int .i64 0)),none⟩]) (.seq (.block 0 (.loop (.seq (.seq (.region [⟨some 20,.mov (.tmp 0),none⟩,
 ⟨some 21,.len false (.tmp 20),none⟩,⟨some 22,.bin .gtr .no (.tmp 21) (.const (.int .i64 0)),none⟩]) (.cond (.tmp 22) (.skip) (.exit 0))) (.block 1 (.seq (.seq (.region [⟨some 23,.mov (.tmp 1),none⟩,⟨some 24,.bin .gtr .no (.tmp 23) (.const (.int .i64 0)),none⟩,
 ⟨some 25,.mov (.tmp 24),none⟩,⟨some 26,.mov (.tmp 8),some (25,true)⟩,⟨some 27,.mov (.tmp 1),some (25,true)⟩,⟨some 28,.bin .eql .no (.tmp 26) (.tmp 27),some (25,true)⟩,⟨some 29,.pick (.tmp 25) (.tmp 28) (.const (.bool false)),none⟩]) (.cond (.tmp 29) (.seq (.region [⟨some 30,.call (.fn 58) [(.tmp 7),(.const (.str [13,10]))],none⟩]) (.region [⟨some 8,.mov (.const (.int .i64 0)),none⟩])) (.skip))) (.seq (.region [⟨some 9,.alloc [.b8 0,.b8 0,.b8 0],none⟩]) (.seq (.region [⟨some 31,.slcA 3 1 (.tmp 9) none none none,none⟩,
 ⟨some 32,.mov (.tmp 0),none⟩,⟨some 33,.copy (.tmp 31) (.tmp 32),none⟩,⟨some 10,.mov (.tmp 33),none⟩]) (.seq (.region [⟨some 34,.mov (.tmp 0),none⟩,⟨some 35,.mov (.tmp 10),none⟩,⟨some 36,.slc 1 (.tmp 34) (some (.tmp 35)) none none,none⟩,
 ⟨some 0,.mov (.tmp 36),none⟩]) (.seq (.region [⟨some 37,.iaddrA 3 1 (.tmp 9) (.const (.int .i64 0)),none⟩,⟨some 38,.load false 1 (.tmp 37),none⟩,⟨some 39,.cInt .u32 (.tmp 38),none⟩,⟨some 40,.bin .shl .no (.tmp 39) (.const (.int .u64 16)),none⟩,
 ⟨some 41,.iaddrA 3 1 (.tmp 9) (.const (.int .i64 1)),none⟩,⟨some 42,.load false 1 (.tmp 41),none⟩,⟨some 43,.cInt .u32 (.tmp 42),none⟩,⟨some 44,.bin .shl .no (.tmp 43) (.const (.int .u64 8)),none⟩,⟨some 45,.bin .or .no (.tmp 40) (.tmp 44),none⟩,
 ⟨some 46,.iaddrA 3 1 (.tmp 9) (.const (.int .i64 2)),none⟩,⟨some 47,.load false 1 (.tmp 46),none⟩,⟨some 48,.cInt .u32 (.tmp 47),none⟩,⟨some 49,.bin .or .no (.tmp 45) (.tmp 48),none⟩,⟨some 11,.mov (.tmp 49),none⟩]) (.seq (.seq (.region [⟨some 50,.mov (.const (.int .i64 0)),none⟩]) (.block 2 (.loop (.seq (.region [⟨some 51,.bin .lss .no (.tmp 50) (.const (.int .i64 4)),none⟩]) (.seq (.cond (.tmp 51) (.skip) (.exit 2)) (.seq (.block 3 (.seq (.region [⟨some 52,.mov (.tmp 50),none⟩,
 ⟨some 12,.mov (.tmp 52),none⟩]) (.seq (.region [⟨some 53,.mov (.tmp 12),none⟩,⟨some 54,.mov (.tmp 10),none⟩,⟨some 55,.bin .leq .no (.tmp 53) (.tmp 54),none⟩]) (.cond (.tmp 55) (.region [⟨some 56,.mov (.tmp 11),none⟩,
 ⟨some 57,.mov (.tmp 12),none⟩,⟨some 58,.bin .mul .no (.const (.int .i64 6)) (.tmp 57),none⟩,⟨some 59,.bin .sub .no (.const (.int .i64 18)) (.tmp 58),none⟩,⟨some 60,.bin .shr .no (.tmp 56) (.tmp 59),none⟩,
 ⟨some 61,.bin .and .no (.tmp 60) (.const (.int .u32 63)),none⟩,⟨some 62,.idxS (.const (.str [65,66,67,68,69,70,71,72,73,74,75,76,77,78,79,80,81,82,83,84,85,86,87,88,89,90,97,98,99,100,101,102,103,104,105,106,107,108,109,110,111,112,113,114,115,116,117,118,119,120,121,122,48,49,50,51,52,53,54,55,56,57,43,47])) (.tmp 61),none⟩,
 ⟨some 63,.call (.fn 57) [(.tmp 7),(.tmp 62)],none⟩]) (.region [⟨some 64,.call (.fn 57) [(.tmp 7),(.const (.b8 61))],none⟩]))))) (.region [⟨some 65,.bin .add .no (.tmp 50) (.const (.int .i64 1)),none⟩,⟨some 50,.mov (.tmp 65),none⟩]))))))) (.region [⟨some 66,.mov (.tmp 8),none⟩,
 ⟨some 67,.bin .add .no (.tmp 66) (.const (.int .i64 4)),none⟩,⟨some 8,.mov (.tmp 67),none⟩]))))))))))) (.seq (.region [⟨some 68,.call (.fn 59) [(.tmp 7)],none⟩,⟨some 4,.mov (.tmp 68),none⟩,⟨some 5,.mov (.const (.int .i64 0)),none⟩]) (.ret))))))) }

/-- posthorn/posthornlaw04.WordSays -/
def F_posthornlaw04_WordSays : ACFn := { nt := 66,results := [.tmp 4],body := (.seq (.region [⟨some 4,.mov (.const (.bool false)),none⟩]) (.seq (.seq (.region [⟨some 10,.mov (.tmp 0),none⟩,⟨some 11,.len true (.tmp 10),none⟩,⟨some 12,.bin .gtr .no (.tmp 11) (.const (.int .i64 45)),none⟩,
 ⟨some 13,.mov (.tmp 12),none⟩,⟨some 14,.mov (.tmp 0),some (13,false)⟩,⟨some 15,.cS2B false (.tmp 14),some (13,false)⟩,⟨some 16,.call (.fn 53) [(.tmp 15)],some (13,false)⟩,⟨some 17,.un .not (.tmp 16),some (13,false)⟩,
 ⟨some 18,.pick (.tmp 13) (.const (.bool true)) (.tmp 17),none⟩]) (.cond (.tmp 18) (.seq (.region [⟨some 19,.call (.fn 221) [],none⟩,⟨some 4,.mov (.tmp 19),none⟩]) (.ret)) (.skip))) (.seq (.region [⟨some 21,.mov (.tmp 0),none⟩,
 ⟨some 22,.cS2B false (.tmp 21),none⟩,⟨some 23,.call (.fn 234) [(.tmp 22),(.const (.int .i64 0))],none⟩,⟨some 20,.mov (.tmp 23),none⟩,⟨some 24,.ext 0 (.tmp 20),none⟩,⟨some 25,.ext 1 (.tmp 20),none⟩,⟨some 5,.mov (.tmp 24),none⟩,
 ⟨some 6,.mov (.tmp 25),none⟩]) (.seq (.region [⟨some 7,.mov (.const (.str [61,63,117,116,102,45,56,63,66,63])),none⟩]) (.seq (.seq (.region [⟨some 26,.mov (.tmp 1),none⟩]) (.cond (.tmp 26) (.region [⟨some 7,.mov (.const (.str [61,63,85,84,70,45,56,63,98,63])),none⟩]) (.skip))) (.seq (.region [⟨some 28,.mov (.tmp 7),none⟩,
 ⟨some 29,.mov (.tmp 5),none⟩,⟨some 30,.bin .add .no (.tmp 28) (.tmp 29),none⟩,⟨some 31,.bin .add .no (.tmp 30) (.const (.str [63,61])),none⟩,⟨some 32,.call (.fn 227) [(.tmp 31)],none⟩,⟨some 27,.mov (.tmp 32),none⟩,
 ⟨some 33,.ext 0 (.tmp 27),none⟩,⟨some 34,.ext 1 (.tmp 27),none⟩,⟨some 8,.mov (.tmp 33),none⟩,⟨some 9,.mov (.tmp 34),none⟩]) (.seq (.region [⟨some 35,.call (.fn 221) [],none⟩,⟨some 36,.mov (.tmp 35),none⟩,
 ⟨some 37,.mov (.tmp 6),some (36,true)⟩,⟨some 38,.bin .eql .no (.tmp 37) (.const (.int .i64 0)),some (36,true)⟩,⟨some 39,.pick (.tmp 36) (.tmp 38) (.const (.bool false)),none⟩,⟨some 40,.mov (.tmp 39),none⟩,
 ⟨some 41,.mov (.tmp 9),some (40,true)⟩,⟨some 42,.pick (.tmp 40) (.tmp 41) (.const (.bool false)),none⟩,⟨some 43,.mov (.tmp 42),none⟩,⟨some 44,.mov (.tmp 8),some (43,true)⟩,⟨some 45,.mov (.tmp 0),some (43,true)⟩,
 ⟨some 46,.bin .eql .no (.tmp 44) (.tmp 45),some (43,true)⟩,⟨some 47,.pick (.tmp 43) (.tmp 46) (.const (.bool false)),none⟩,⟨some 48,.mov (.tmp 47),none⟩,⟨some 49,.mov (.tmp 7),some (48,true)⟩,⟨some 50,.bin .add .no (.const (.str [97,32])) (.tmp 49),some (48,true)⟩,
 ⟨some 51,.mov (.tmp 5),some (48,true)⟩,⟨some 52,.bin .add .no (.tmp 50) (.tmp 51),some (48,true)⟩,⟨some 53,.bin .add .no (.tmp 52) (.const (.str [63,61,32])),some (48,true)⟩,⟨some 54,.mov (.tmp 7),some (48,true)⟩,
 ⟨some 55,.bin .add .no (.tmp 53) (.tmp 54),some (48,true)⟩,⟨some 56,.mov (.tmp 5),some (48,true)⟩,⟨some 57,.bin .add .no (.tmp 55) (.tmp 56),some (48,true)⟩,⟨some 58,.bin .add .no (.tmp 57) (.const (.str [63,61])),some (48,true)⟩,
 ⟨some 59,.call (.fn 229) [(.tmp 58)],some (48,true)⟩,⟨some 60,.mov (.tmp 0),some (48,true)⟩,⟨some 61,.bin .add .no (.const (.str [97,32])) (.tmp 60),some (48,true)⟩,⟨some 62,.mov (.tmp 0),some (48,true)⟩,
 ⟨some 63,.bin .add .no (.tmp 61) (.tmp 62),some (48,true)⟩,⟨some 64,.bin .eql .no (.tmp 59) (.tmp 63),some (48,true)⟩,⟨some 65,.pick (.tmp 48) (.tmp 64) (.const (.bool false)),none⟩,⟨some 4,.mov (.tmp 65),none⟩]) (.ret)))))))) }

/-- posthorn/posthornlaw04.WordOthers -/
def F_posthornlaw04_WordOthers : ACFn := { nt := 44,results := [.tmp 2],body := (.seq (.region [⟨some 2,.mov (.const (.bool false)),none⟩]) (.seq (.seq (.region [⟨some 6,.mov (.tmp 0),none⟩,⟨some 7,.len true (.tmp 6),none⟩,⟨some 8,.bin .gtr .no (.tmp 7) (.const (.int .i64 2000)),none⟩]) (.cond (.tmp 8) (.seq (.region [⟨some 9,.call (.fn 221) [],none⟩,
 ⟨some 2,.mov (.tmp 9),none⟩]) (.ret)) (.skip))) (.seq (.seq (.region [⟨some 3,.mov (.const (.int .i64 1)),none⟩]) (.block 0 (.loop (.seq (.seq (.region [⟨some 10,.mov (.tmp 3),none⟩,⟨some 11,.mov (.tmp 0),none⟩,
 ⟨some 12,.len true (.tmp 11),none⟩,⟨some 13,.bin .lss .no (.tmp 10) (.tmp 12),none⟩]) (.cond (.tmp 13) (.skip) (.exit 0))) (.seq (.block 1 (.seq (.region [⟨some 16,.mov (.tmp 0),none⟩,⟨some 17,.mov (.tmp 3),none⟩,
 ⟨some 18,.bin .sub .no (.tmp 17) (.const (.int .i64 1)),none⟩,⟨some 19,.idxS (.tmp 16) (.tmp 18),none⟩,⟨some 20,.bin .eql .no (.tmp 19) (.const (.b8 61)),none⟩,⟨some 21,.mov (.tmp 20),none⟩,⟨some 22,.mov (.tmp 0),some (21,true)⟩,
 ⟨some 23,.mov (.tmp 3),some (21,true)⟩,⟨some 24,.idxS (.tmp 22) (.tmp 23),some (21,true)⟩,⟨some 25,.bin .eql .no (.tmp 24) (.const (.b8 63)),some (21,true)⟩,⟨some 26,.pick (.tmp 21) (.tmp 25) (.const (.bool false)),none⟩]) (.cond (.tmp 26) (.seq (.region [⟨some 27,.call (.fn 221) [],none⟩,
 ⟨some 2,.mov (.tmp 27),none⟩]) (.ret)) (.skip)))) (.region [⟨some 14,.mov (.tmp 3),none⟩,⟨some 15,.bin .add .no (.tmp 14) (.const (.int .i64 1)),none⟩,⟨some 3,.mov (.tmp 15),none⟩])))))) (.seq (.region [⟨some 29,.mov (.tmp 0),none⟩,
 ⟨some 30,.call (.fn 227) [(.tmp 29)],none⟩,⟨some 28,.mov (.tmp 30),none⟩,⟨some 31,.ext 0 (.tmp 28),none⟩,⟨some 32,.ext 1 (.tmp 28),none⟩,⟨some 4,.mov (.tmp 31),none⟩,⟨some 5,.mov (.tmp 32),none⟩]) (.seq (.region [⟨some 33,.call (.fn 221) [],none⟩,
 ⟨some 34,.mov (.tmp 33),none⟩,⟨some 35,.mov (.tmp 5),some (34,true)⟩,⟨some 36,.un .not (.tmp 35),some (34,true)⟩,⟨some 37,.pick (.tmp 34) (.tmp 36) (.const (.bool false)),none⟩,⟨some 38,.mov (.tmp 37),none⟩,
 ⟨some 39,.mov (.tmp 0),some (38,true)⟩,⟨some 40,.call (.fn 229) [(.tmp 39)],some (38,true)⟩,⟨some 41,.mov (.tmp 0),some (38,true)⟩,⟨some 42,.bin .eql .no (.tmp 40) (.tmp 41),some (38,true)⟩,⟨some 43,.pick (.tmp 38) (.tmp 42) (.const (.bool false)),none⟩,
 ⟨some 2,.mov (.tmp 43),none⟩]) (.ret)))))) }

/-- posthorn/word.pieces -/
def F_word_pieces : ACFn := { nt := 4,results := [.tmp 2],body := (.seq (.region [⟨some 1,.box (.tmp 0),none⟩,⟨some 2,.mov (.const (.nilf)),none⟩]) (.seq (.region [⟨some 3,.mkfn 246 [(.tmp 1)],none⟩,⟨some 2,.mov (.tmp 3),none⟩]) (.ret))) }

/-- posthorn/posthornref01.Encode -/
def F_posthornref01_Encode : ACFn := { nt := 84,results := [.tmp 4,.tmp 5],body := (.seq (.region [⟨some 4,.mov (.const (.str [])),none⟩,⟨some 5,.mov (.const (.int .i64 0)),none⟩]) (.seq (.region [⟨some 14,.mov (.tmp 0),none⟩,⟨some 15,.len false (.tmp 14),none⟩,
 ⟨some 16,.mov (.tmp 1),none⟩,⟨some 17,.call (.fn 247) [(.tmp 15),(.tmp 16)],none⟩,⟨some 6,.mov (.tmp 17),none⟩]) (.seq (.seq (.region [⟨some 18,.mov (.tmp 6),none⟩,⟨some 19,.bin .neq .no (.tmp 18) (.const (.int .i64 0)),none⟩]) (.cond (.tmp 19) (.seq (.region [⟨some 20,.mov (.tmp 6),none⟩,
 ⟨some 4,.mov (.const (.str [])),none⟩,⟨some 5,.mov (.tmp 20),none⟩]) (.ret)) (.skip))) (.seq (.region [⟨some 21,.mov (.tmp 0),none⟩,⟨some 22,.call (.fn 248) [(.tmp 21)],none⟩,⟨some 7,.mov (.tmp 22),none⟩]) (.seq (.region [⟨some 8,.mov (.const (.nils)),none⟩]) (.seq (.region [⟨some 9,.mov (.const (.int .i64 0)),none⟩]) (.seq (.block 0 (.loop (.seq (.seq (.region [⟨some 23,.mov (.tmp 7),none⟩,
 ⟨some 24,.len false (.tmp 23),none⟩,⟨some 25,.bin .gtr .no (.tmp 24) (.const (.int .i64 0)),none⟩,⟨some 26,.mov (.tmp 25),none⟩,⟨some 27,.mov (.tmp 9),some (26,false)⟩,⟨some 28,.bin .rem .no (.tmp 27) (.const (.int .i64 4)),some (26,false)⟩,
 ⟨some 29,.bin .gtr .no (.tmp 28) (.const (.int .i64 0)),some (26,false)⟩,⟨some 30,.pick (.tmp 26) (.const (.bool true)) (.tmp 29),none⟩]) (.cond (.tmp 30) (.skip) (.exit 0))) (.block 1 (.seq (.seq (.region [⟨some 31,.mov (.tmp 1),none⟩,
 ⟨some 32,.bin .gtr .no (.tmp 31) (.const (.int .i64 0)),none⟩,⟨some 33,.mov (.tmp 32),none⟩,⟨some 34,.mov (.tmp 9),some (33,true)⟩,⟨some 35,.mov (.tmp 1),some (33,true)⟩,⟨some 36,.bin .eql .no (.tmp 34) (.tmp 35),some (33,true)⟩,
 ⟨some 37,.pick (.tmp 33) (.tmp 36) (.const (.bool false)),none⟩]) (.cond (.tmp 37) (.seq (.region [⟨some 38,.mov (.tmp 8),none⟩,⟨some 39,.lit8 2 [(0,(.const (.b8 13))),(1,(.const (.b8 10)))],none⟩,⟨some 40,.app true 1 (.tmp 38) (.tmp 39),none⟩,
 ⟨some 8,.mov (.tmp 40),none⟩]) (.region [⟨some 9,.mov (.const (.int .i64 0)),none⟩])) (.skip))) (.seq (.seq (.region [⟨some 41,.mov (.tmp 7),none⟩,⟨some 42,.len false (.tmp 41),none⟩,⟨some 43,.bin .eql .no (.tmp 42) (.const (.int .i64 0)),none⟩]) (.cond (.tmp 43) (.seq (.region [⟨some 44,.mov (.tmp 8),none⟩,
 ⟨some 45,.lit8 1 [(0,(.const (.b8 61)))],none⟩,⟨some 46,.app true 1 (.tmp 44) (.tmp 45),none⟩,⟨some 8,.mov (.tmp 46),none⟩]) (.seq (.region [⟨some 47,.mov (.tmp 9),none⟩,⟨some 48,.bin .add .no (.tmp 47) (.const (.int .i64 1)),none⟩,
 ⟨some 9,.mov (.tmp 48),none⟩]) (.exit 1))) (.skip))) (.seq (.region [⟨some 10,.mov (.const (.int .i64 0)),none⟩]) (.seq (.seq (.region [⟨some 11,.mov (.const (.int .i64 0)),none⟩]) (.block 2 (.loop (.seq (.seq (.region [⟨some 49,.mov (.tmp 11),none⟩,
 ⟨some 50,.bin .lss .no (.tmp 49) (.const (.int .i64 6)),none⟩]) (.cond (.tmp 50) (.skip) (.exit 2))) (.seq (.block 3 (.seq (.region [⟨some 53,.mov (.tmp 10),none⟩,⟨some 54,.bin .mul .no (.const (.int .i64 2)) (.tmp 53),none⟩,
 ⟨some 10,.mov (.tmp 54),none⟩]) (.seq (.region [⟨some 55,.mov (.tmp 11),none⟩,⟨some 56,.mov (.tmp 7),none⟩,⟨some 57,.len false (.tmp 56),none⟩,⟨some 58,.bin .lss .no (.tmp 55) (.tmp 57),none⟩]) (.cond (.tmp 58) (.region [⟨some 59,.mov (.tmp 10),none⟩,
 ⟨some 60,.mov (.tmp 7),none⟩,⟨some 61,.mov (.tmp 11),none⟩,⟨some 62,.iaddr 1 (.tmp 60) (.tmp 61),none⟩,⟨some 63,.load false 1 (.tmp 62),none⟩,⟨some 64,.bin .add .no (.tmp 59) (.tmp 63),none⟩,⟨some 10,.mov (.tmp 64),none⟩]) (.skip))))) (.region [⟨some 51,.mov (.tmp 11),none⟩,
 ⟨some 52,.bin .add .no (.tmp 51) (.const (.int .i64 1)),none⟩,⟨some 11,.mov (.tmp 52),none⟩])))))) (.seq (.seq (.region [⟨some 65,.mov (.tmp 7),none⟩,⟨some 66,.len false (.tmp 65),none⟩,⟨some 67,.bin .gtr .no (.tmp 66) (.const (.int .i64 6)),none⟩]) (.cond (.tmp 67) (.region [⟨some 68,.mov (.tmp 7),none⟩,
 ⟨some 69,.slc 1 (.tmp 68) (some (.const (.int .i64 6))) none none,none⟩,⟨some 7,.mov (.tmp 69),none⟩]) (.region [⟨some 7,.mov (.const (.nils)),none⟩]))) (.seq (.region [⟨some 71,.mov (.tmp 10),none⟩,⟨some 72,.call (.fn 249) [(.tmp 71)],none⟩,
 ⟨some 70,.mov (.tmp 72),none⟩,⟨some 73,.ext 0 (.tmp 70),none⟩,⟨some 74,.ext 1 (.tmp 70),none⟩,⟨some 12,.mov (.tmp 73),none⟩,⟨some 13,.mov (.tmp 74),none⟩]) (.seq (.region [⟨some 75,.mov (.tmp 8),none⟩,
 ⟨some 76,.mov (.tmp 12),none⟩,⟨some 77,.lit8 1 [(0,(.tmp 76))],none⟩,⟨some 78,.app true 1 (.tmp 75) (.tmp 77),none⟩,⟨some 8,.mov (.tmp 78),none⟩]) (.region [⟨some 79,.mov (.tmp 9),none⟩,⟨some 80,.bin .add .no (.tmp 79) (.const (.int .i64 1)),none⟩,
 ⟨some 9,.mov (.tmp 80),none⟩])))))))))))) (.seq (.region [⟨some 81,.mov (.tmp 8),none⟩,⟨some 82,.cB2S false (.tmp 81),none⟩,⟨some 83,.mov (.tmp 6),none⟩,⟨some 4,.mov (.tmp 82),none⟩,⟨some 5,.mov (.tmp 83),none⟩]) (.ret))))))))) }

/-- posthorn/word.lower -/
def F_word_lower : ACFn := { nt := 29,results := [.tmp 2],body := (.seq (.region [⟨some 2,.mov (.const (.str [])),none⟩]) (.seq (.region [⟨some 6,.mov (.tmp 0),none⟩,⟨some 7,.cS2B true (.tmp 6),none⟩,⟨some 3,.mov (.tmp 7),none⟩]) (.seq (.seq (.region [⟨some 8,.mov (.tmp 3),none⟩,
 ⟨some 9,.len false (.tmp 8),none⟩,⟨some 10,.mov (.const (.int .i64 0)),none⟩]) (.block 0 (.loop (.seq (.region [⟨some 11,.bin .lss .no (.tmp 10) (.tmp 9),none⟩]) (.seq (.cond (.tmp 11) (.skip) (.exit 0)) (.seq (.block 1 (.seq (.region [⟨some 12,.mov (.tmp 10),none⟩,
 ⟨some 13,.iaddr 1 (.tmp 8) (.tmp 10),none⟩,⟨some 14,.load false 1 (.tmp 13),none⟩,⟨some 4,.mov (.tmp 12),none⟩,⟨some 5,.mov (.tmp 14),none⟩]) (.seq (.region [⟨some 15,.mov (.tmp 5),none⟩,⟨some 16,.bin .geq .no (.tmp 15) (.const (.b8 65)),none⟩,
 ⟨some 17,.mov (.tmp 16),none⟩,⟨some 18,.mov (.tmp 5),some (17,true)⟩,⟨some 19,.bin .leq .no (.tmp 18) (.const (.b8 90)),some (17,true)⟩,⟨some 20,.pick (.tmp 17) (.tmp 19) (.const (.bool false)),none⟩]) (.cond (.tmp 20) (.region [⟨some 21,.mov (.tmp 3),none⟩,
 ⟨some 22,.mov (.tmp 4),none⟩,⟨some 23,.mov (.tmp 5),none⟩,⟨some 24,.bin .add .no (.tmp 23) (.const (.b8 32)),none⟩,⟨some 25,.iaddr 1 (.tmp 21) (.tmp 22),none⟩,⟨none,.store 1 (.tmp 25) (.tmp 24),none⟩]) (.skip))))) (.region [⟨some 26,.bin .add .no (.tmp 10) (.const (.int .i64 1)),none⟩,
 ⟨some 10,.mov (.tmp 26),none⟩]))))))) (.seq (.region [⟨some 27,.mov (.tmp 3),none⟩,⟨some 28,.cB2S true (.tmp 27),none⟩,⟨some 2,.mov (.tmp 28),none⟩]) (.ret))))) }

/-- posthorn/bits.Decode -/
def F_bits_Decode : ACFn := { nt := 129,results := [.tmp 2,.cell 3 true 2],body := (.seq (.region [⟨some 2,.mov (.const (.nils)),none⟩,⟨some 3,.alloc [.int .i64 0,.int .i64 0],none⟩]) (.seq (.seq (.region [⟨some 13,.mov (.tmp 0),none⟩,
 ⟨some 14,.len true (.tmp 13),none⟩,⟨some 15,.bin .gtr .no (.tmp 14) (.const (.int .i64 2097152)),none⟩]) (.cond (.tmp 15) (.seq (.region [⟨some 16,.build [.int .i64 0,.int .i64 0] [(1,1,(.const (.int .i64 2)))],none⟩,
 ⟨some 2,.mov (.const (.nils)),none⟩,⟨none,.store 2 (.tmp 3) (.tmp 16),none⟩]) (.ret)) (.skip))) (.seq (.region [⟨some 4,.mov (.const (.nils)),none⟩]) (.seq (.region [⟨some 5,.mov (.const (.int .u32 0)),none⟩]) (.seq (.region [⟨some 6,.mov (.const (.int .i64 0)),none⟩,
 ⟨some 7,.mov (.const (.int .i64 0)),none⟩,⟨some 8,.mov (.const (.int .i64 0)),none⟩]) (.seq (.seq (.region [⟨some 9,.mov (.const (.int .i64 0)),none⟩]) (.block 0 (.loop (.seq (.seq (.region [⟨some 17,.mov (.tmp 9),none⟩,
 ⟨some 18,.mov (.tmp 0),none⟩,⟨some 19,.len true (.tmp 18),none⟩,⟨some 20,.bin .lss .no (.tmp 17) (.tmp 19),none⟩]) (.cond (.tmp 20) (.skip) (.exit 0))) (.seq (.block 1 (.seq (.region [⟨some 23,.mov (.tmp 0),none⟩,
 ⟨some 24,.mov (.tmp 9),none⟩,⟨some 25,.idxS (.tmp 23) (.tmp 24),none⟩,⟨some 10,.mov (.tmp 25),none⟩]) (.seq (.seq (.region [⟨some 26,.mov (.tmp 10),none⟩,⟨some 27,.bin .eql .no (.tmp 26) (.const (.b8 13)),none⟩,
 ⟨some 28,.mov (.tmp 27),none⟩,⟨some 29,.mov (.tmp 9),some (28,true)⟩,⟨some 30,.bin .add .no (.tmp 29) (.const (.int .i64 1)),some (28,true)⟩,⟨some 31,.mov (.tmp 0),some (28,true)⟩,⟨some 32,.len true (.tmp 31),some (28,true)⟩,
 ⟨some 33,.bin .lss .no (.tmp 30) (.tmp 32),some (28,true)⟩,⟨some 34,.pick (.tmp 28) (.tmp 33) (.const (.bool false)),none⟩,⟨some 35,.mov (.tmp 34),none⟩,⟨some 36,.mov (.tmp 0),some (35,true)⟩,⟨some 37,.mov (.tmp 9),some (35,true)⟩,
 ⟨some 38,.bin .add .no (.tmp 37) (.const (.int .i64 1)),some (35,true)⟩,⟨some 39,.idxS (.tmp 36) (.tmp 38),some (35,true)⟩,⟨some 40,.bin .eql .no (.tmp 39) (.const (.b8 10)),some (35,true)⟩,⟨some 41,.pick (.tmp 35) (.tmp 40) (.const (.bool false)),none⟩]) (.cond (.tmp 41) (.seq (.region [⟨some 42,.mov (.tmp 9),none⟩,
 ⟨some 43,.bin .add .no (.tmp 42) (.const (.int .i64 1)),none⟩,⟨some 9,.mov (.tmp 43),none⟩]) (.exit 1)) (.skip))) (.seq (.region [⟨some 45,.mov (.tmp 10),none⟩,⟨some 46,.call (.fn 250) [(.tmp 45)],none⟩,
 ⟨some 44,.mov (.tmp 46),none⟩,⟨some 47,.ext 0 (.tmp 44),none⟩,⟨some 48,.ext 1 (.tmp 44),none⟩,⟨some 11,.mov (.tmp 47),none⟩,⟨some 12,.mov (.tmp 48),none⟩]) (.seq (.block 2 (.seq (.region [⟨some 51,.mov (.tmp 12),none⟩,
 ⟨some 52,.un .not (.tmp 51),none⟩,⟨some 53,.mov (.tmp 52),none⟩,⟨some 54,.mov (.tmp 10),some (53,true)⟩,⟨some 55,.bin .neq .no (.tmp 54) (.const (.b8 61)),some (53,true)⟩,⟨some 56,.pick (.tmp 53) (.tmp 55) (.const (.bool false)),none⟩,
 ⟨some 50,.mov (.tmp 56),none⟩]) (.cond (.tmp 50) (.seq (.region [⟨some 57,.mov (.tmp 9),none⟩,⟨some 58,.build [.int .i64 0,.int .i64 0] [(0,1,(.tmp 57)),(1,1,(.const (.int .i64 10)))],none⟩,⟨some 2,.mov (.const (.nils)),none⟩,
 ⟨none,.store 2 (.tmp 3) (.tmp 58),none⟩]) (.ret)) (.seq (.seq (.region [⟨some 60,.mov (.tmp 10),none⟩,⟨some 61,.bin .eql .no (.tmp 60) (.const (.b8 61)),none⟩,⟨some 62,.mov (.tmp 61),none⟩,⟨some 63,.mov (.tmp 6),some (62,true)⟩,
 ⟨some 64,.bin .rem .no (.tmp 63) (.const (.int .i64 4)),some (62,true)⟩,⟨some 65,.bin .lss .no (.tmp 64) (.const (.int .i64 2)),some (62,true)⟩,⟨some 66,.pick (.tmp 62) (.tmp 65) (.const (.bool false)),none⟩,
 ⟨some 59,.mov (.tmp 66),none⟩]) (.cond (.tmp 59) (.skip) (.region [⟨some 67,.mov (.tmp 10),none⟩,⟨some 68,.bin .neq .no (.tmp 67) (.const (.b8 61)),none⟩,⟨some 69,.mov (.tmp 68),none⟩,⟨some 70,.mov (.tmp 7),some (69,true)⟩,
 ⟨some 71,.bin .gtr .no (.tmp 70) (.const (.int .i64 0)),some (69,true)⟩,⟨some 72,.pick (.tmp 69) (.tmp 71) (.const (.bool false)),none⟩,⟨some 59,.mov (.tmp 72),none⟩]))) (.cond (.tmp 59) (.seq (.region [⟨some 73,.mov (.tmp 9),none⟩,
 ⟨some 74,.build [.int .i64 0,.int .i64 0] [(0,1,(.tmp 73)),(1,1,(.const (.int .i64 11)))],none⟩,⟨some 2,.mov (.const (.nils)),none⟩,⟨none,.store 2 (.tmp 3) (.tmp 74),none⟩]) (.ret)) (.seq (.region [⟨some 76,.mov (.tmp 10),none⟩,
 ⟨some 77,.bin .eql .no (.tmp 76) (.const (.b8 61)),none⟩,⟨some 75,.mov (.tmp 77),none⟩]) (.cond (.tmp 75) (.seq (.region [⟨some 78,.mov (.tmp 7),none⟩,⟨some 79,.bin .add .no (.tmp 78) (.const (.int .i64 1)),none⟩,
 ⟨some 7,.mov (.tmp 79),none⟩]) (.region [⟨some 11,.mov (.const (.int .u32 0)),none⟩])) (.region [⟨some 49,.mov (.tmp 9),none⟩,⟨some 8,.mov (.tmp 49),none⟩])))))))) (.seq (.region [⟨some 80,.mov (.tmp 5),none⟩,
 ⟨some 81,.bin .shl .no (.tmp 80) (.const (.int .u64 6)),none⟩,⟨some 82,.mov (.tmp 11),none⟩,⟨some 83,.bin .or .no (.tmp 81) (.tmp 82),none⟩,⟨some 5,.mov (.tmp 83),none⟩]) (.seq (.region [⟨some 84,.mov (.tmp 6),none⟩,
 ⟨some 85,.bin .add .no (.tmp 84) (.const (.int .i64 1)),none⟩,⟨some 6,.mov (.tmp 85),none⟩]) (.seq (.region [⟨some 86,.mov (.tmp 6),none⟩,⟨some 87,.bin .rem .no (.tmp 86) (.const (.int .i64 4)),none⟩,⟨some 88,.bin .eql .no (.tmp 87) (.const (.int .i64 0)),none⟩]) (.cond (.tmp 88) (.seq (.region [⟨some 89,.mov (.tmp 4),none⟩,
 ⟨some 90,.mov (.tmp 5),none⟩,⟨some 91,.bin .shr .no (.tmp 90) (.const (.int .u64 16)),none⟩,⟨some 92,.cInt .u8 (.tmp 91),none⟩,⟨some 93,.mov (.tmp 5),none⟩,⟨some 94,.bin .shr .no (.tmp 93) (.const (.int .u64 8)),none⟩,
 ⟨some 95,.cInt .u8 (.tmp 94),none⟩,⟨some 96,.mov (.tmp 5),none⟩,⟨some 97,.cInt .u8 (.tmp 96),none⟩,⟨some 98,.lit8 3 [(0,(.tmp 92)),(1,(.tmp 95)),(2,(.tmp 97))],none⟩,⟨some 99,.app true 1 (.tmp 89) (.tmp 98),none⟩,
 ⟨some 4,.mov (.tmp 99),none⟩]) (.seq (.seq (.region [⟨some 100,.mov (.tmp 7),none⟩,⟨some 101,.bin .gtr .no (.tmp 100) (.const (.int .i64 0)),none⟩,⟨some 102,.mov (.tmp 101),none⟩,⟨some 103,.mov (.tmp 4),some (102,true)⟩,
 ⟨some 104,.mov (.tmp 4),some (102,true)⟩,⟨some 105,.len false (.tmp 104),some (102,true)⟩,⟨some 106,.mov (.tmp 7),some (102,true)⟩,⟨some 107,.bin .sub .no (.tmp 105) (.tmp 106),some (102,true)⟩,⟨some 108,.slc 1 (.tmp 103) (some (.tmp 107)) none none,some (102,true)⟩,
 ⟨some 109,.iaddr 1 (.tmp 108) (.const (.int .i64 0)),some (102,true)⟩,⟨some 110,.load false 1 (.tmp 109),some (102,true)⟩,⟨some 111,.bin .neq .no (.tmp 110) (.const (.b8 0)),some (102,true)⟩,⟨some 112,.pick (.tmp 102) (.tmp 111) (.const (.bool false)),none⟩]) (.cond (.tmp 112) (.seq (.region [⟨some 113,.mov (.tmp 8),none⟩,
 ⟨some 114,.build [.int .i64 0,.int .i64 0] [(0,1,(.tmp 113)),(1,1,(.const (.int .i64 12)))],none⟩,⟨some 2,.mov (.const (.nils)),none⟩,⟨none,.store 2 (.tmp 3) (.tmp 114),none⟩]) (.ret)) (.skip))) (.seq (.region [⟨some 115,.mov (.tmp 4),none⟩,
 ⟨some 116,.mov (.tmp 4),none⟩,⟨some 117,.len false (.tmp 116),none⟩,⟨some 118,.mov (.tmp 7),none⟩,⟨some 119,.bin .sub .no (.tmp 117) (.tmp 118),none⟩,⟨some 120,.slcT (.tmp 115) (.tmp 119),none⟩,⟨some 4,.mov (.tmp 120),none⟩]) (.region [⟨some 5,.mov (.const (.int .u32 0)),none⟩])))) (.skip)))))))))) (.region [⟨some 21,.mov (.tmp 9),none⟩,
 ⟨some 22,.bin .add .no (.tmp 21) (.const (.int .i64 1)),none⟩,⟨some 9,.mov (.tmp 22),none⟩])))))) (.seq (.seq (.region [⟨some 121,.mov (.tmp 6),none⟩,⟨some 122,.bin .rem .no (.tmp 121) (.const (.int .i64 4)),none⟩,
 ⟨some 123,.bin .neq .no (.tmp 122) (.const (.int .i64 0)),none⟩]) (.cond (.tmp 123) (.seq (.region [⟨some 124,.mov (.tmp 0),none⟩,⟨some 125,.len true (.tmp 124),none⟩,⟨some 126,.build [.int .i64 0,.int .i64 0] [(0,1,(.tmp 125)),(1,1,(.const (.int .i64 11)))],none⟩,
 ⟨some 2,.mov (.const (.nils)),none⟩,⟨none,.store 2 (.tmp 3) (.tmp 126),none⟩]) (.ret)) (.skip))) (.seq (.region [⟨some 127,.mov (.tmp 4),none⟩,⟨some 128,.build [.int .i64 0,.int .i64 0] [],none⟩,⟨some 2,.mov (.tmp 127),none⟩,
 ⟨none,.store 2 (.tmp 3) (.tmp 128),none⟩]) (.ret))))))))) }

/-- posthorn/word.short -/
def F_word_short : ACFn := { nt := 76,results := [.tmp 2,.tmp 3],body := (.seq (.region [⟨some 2,.mov (.const (.str [])),none⟩,⟨some 3,.mov (.const (.bool false)),none⟩]) (.seq (.region [⟨some 4,.mov (.const (.nils)),none⟩]) (.seq (.seq (.region [⟨some 5,.mov (.const (.int .i64 0)),none⟩]) (.block 0 (.loop (.seq (.seq (.region [⟨some 7,.mov (.tmp 5),none⟩,
 ⟨some 8,.mov (.tmp 0),none⟩,⟨some 9,.len true (.tmp 8),none⟩,⟨some 10,.bin .lss .no (.tmp 7) (.tmp 9),none⟩]) (.cond (.tmp 10) (.skip) (.exit 0))) (.seq (.block 1 (.seq (.region [⟨some 13,.mov (.tmp 0),none⟩,
 ⟨some 14,.mov (.tmp 5),none⟩,⟨some 15,.idxS (.tmp 13) (.tmp 14),none⟩,⟨some 6,.mov (.tmp 15),none⟩]) (.block 2 (.seq (.region [⟨some 21,.mov (.tmp 6),none⟩,⟨some 22,.bin .lss .no (.tmp 21) (.const (.b8 33)),none⟩,
 ⟨some 23,.mov (.tmp 22),none⟩,⟨some 24,.mov (.tmp 6),some (23,false)⟩,⟨some 25,.bin .gtr .no (.tmp 24) (.const (.b8 126)),some (23,false)⟩,⟨some 26,.pick (.tmp 23) (.const (.bool true)) (.tmp 25),none⟩,
 ⟨some 20,.mov (.tmp 26),none⟩]) (.cond (.tmp 20) (.seq (.region [⟨some 2,.mov (.const (.str [])),none⟩,⟨some 3,.mov (.const (.bool false)),none⟩]) (.ret)) (.seq (.region [⟨some 28,.mov (.tmp 6),none⟩,⟨some 29,.bin .eql .no (.tmp 28) (.const (.b8 95)),none⟩,
 ⟨some 27,.mov (.tmp 29),none⟩]) (.cond (.tmp 27) (.region [⟨some 30,.mov (.tmp 4),none⟩,⟨some 31,.lit8 1 [(0,(.const (.b8 32)))],none⟩,⟨some 32,.app true 1 (.tmp 30) (.tmp 31),none⟩,⟨some 4,.mov (.tmp 32),none⟩]) (.seq (.region [⟨some 34,.mov (.tmp 6),none⟩,
 ⟨some 35,.bin .eql .no (.tmp 34) (.const (.b8 61)),none⟩,⟨some 33,.mov (.tmp 35),none⟩]) (.cond (.tmp 33) (.seq (.seq (.region [⟨some 36,.mov (.tmp 5),none⟩,⟨some 37,.bin .add .no (.tmp 36) (.const (.int .i64 2)),none⟩,
 ⟨some 38,.mov (.tmp 0),none⟩,⟨some 39,.len true (.tmp 38),none⟩,⟨some 40,.bin .geq .no (.tmp 37) (.tmp 39),none⟩,⟨some 41,.mov (.tmp 40),none⟩,⟨some 42,.mov (.tmp 0),some (41,false)⟩,⟨some 43,.mov (.tmp 5),some (41,false)⟩,
 ⟨some 44,.bin .add .no (.tmp 43) (.const (.int .i64 1)),some (41,false)⟩,⟨some 45,.idxS (.tmp 42) (.tmp 44),some (41,false)⟩,⟨some 46,.call (.fn 251) [(.tmp 45)],some (41,false)⟩,⟨some 47,.bin .gtr .no (.tmp 46) (.const (.b8 15)),some (41,false)⟩,
 ⟨some 48,.pick (.tmp 41) (.const (.bool true)) (.tmp 47),none⟩,⟨some 49,.mov (.tmp 48),none⟩,⟨some 50,.mov (.tmp 0),some (49,false)⟩,⟨some 51,.mov (.tmp 5),some (49,false)⟩,⟨some 52,.bin .add .no (.tmp 51) (.const (.int .i64 2)),some (49,false)⟩,
 ⟨some 53,.idxS (.tmp 50) (.tmp 52),some (49,false)⟩,⟨some 54,.call (.fn 251) [(.tmp 53)],some (49,false)⟩,⟨some 55,.bin .gtr .no (.tmp 54) (.const (.b8 15)),some (49,false)⟩,⟨some 56,.pick (.tmp 49) (.const (.bool true)) (.tmp 55),none⟩]) (.cond (.tmp 56) (.seq (.region [⟨some 2,.mov (.const (.str [])),none⟩,
 ⟨some 3,.mov (.const (.bool false)),none⟩]) (.ret)) (.skip))) (.seq (.region [⟨some 57,.mov (.tmp 4),none⟩,⟨some 58,.mov (.tmp 0),none⟩,⟨some 59,.mov (.tmp 5),none⟩,⟨some 60,.bin .add .no (.tmp 59) (.const (.int .i64 1)),none⟩,
 ⟨some 61,.idxS (.tmp 58) (.tmp 60),none⟩,⟨some 62,.call (.fn 251) [(.tmp 61)],none⟩,⟨some 63,.bin .shl .no (.tmp 62) (.const (.int .u64 4)),none⟩,⟨some 64,.mov (.tmp 0),none⟩,⟨some 65,.mov (.tmp 5),none⟩,
 ⟨some 66,.bin .add .no (.tmp 65) (.const (.int .i64 2)),none⟩,⟨some 67,.idxS (.tmp 64) (.tmp 66),none⟩,⟨some 68,.call (.fn 251) [(.tmp 67)],none⟩,⟨some 69,.bin .or .no (.tmp 63) (.tmp 68),none⟩,⟨some 70,.lit8 1 [(0,(.tmp 69))],none⟩,
 ⟨some 71,.app true 1 (.tmp 57) (.tmp 70),none⟩,⟨some 4,.mov (.tmp 71),none⟩]) (.region [⟨some 72,.mov (.tmp 5),none⟩,⟨some 73,.bin .add .no (.tmp 72) (.const (.int .i64 2)),none⟩,⟨some 5,.mov (.tmp 73),none⟩]))) (.region [⟨some 16,.mov (.tmp 4),none⟩,
 ⟨some 17,.mov (.tmp 6),none⟩,⟨some 18,.lit8 1 [(0,(.tmp 17))],none⟩,⟨some 19,.app true 1 (.tmp 16) (.tmp 18),none⟩,⟨some 4,.mov (.tmp 19),none⟩])))))))))) (.region [⟨some 11,.mov (.tmp 5),none⟩,⟨some 12,.bin .add .no (.tmp 11) (.const (.int .i64 1)),none⟩,
 ⟨some 5,.mov (.tmp 12),none⟩])))))) (.seq (.region [⟨some 74,.mov (.tmp 4),none⟩,⟨some 75,.cB2S false (.tmp 74),none⟩,⟨some 2,.mov (.tmp 75),none⟩,⟨some 3,.mov (.const (.bool true)),none⟩]) (.ret))))) }

/-- posthorn/bits.fits -/
def F_bits_fits : ACFn := { nt := 24,results := [.tmp 4],body := (.seq (.region [⟨some 4,.mov (.const (.int .i64 0)),none⟩]) (.seq (.block 0 (.seq (.region [⟨some 6,.mov (.tmp 1),none⟩,⟨some 7,.bin .lss .no (.tmp 6) (.const (.int .i64 0)),none⟩,
 ⟨some 8,.mov (.tmp 7),none⟩,⟨some 9,.mov (.tmp 1),some (8,false)⟩,⟨some 10,.bin .gtr .no (.tmp 9) (.const (.int .i64 76)),some (8,false)⟩,⟨some 11,.pick (.tmp 8) (.const (.bool true)) (.tmp 10),none⟩,⟨some 12,.mov (.tmp 11),none⟩,
 ⟨some 13,.mov (.tmp 1),some (12,false)⟩,⟨some 14,.bin .rem .no (.tmp 13) (.const (.int .i64 4)),some (12,false)⟩,⟨some 15,.bin .neq .no (.tmp 14) (.const (.int .i64 0)),some (12,false)⟩,⟨some 16,.pick (.tmp 12) (.const (.bool true)) (.tmp 15),none⟩,
 ⟨some 17,.mov (.tmp 16),none⟩,⟨some 18,.mov (.tmp 0),some (17,false)⟩,⟨some 19,.bin .lss .no (.tmp 18) (.const (.int .i64 0)),some (17,false)⟩,⟨some 20,.pick (.tmp 17) (.const (.bool true)) (.tmp 19),none⟩,
 ⟨some 5,.mov (.tmp 20),none⟩]) (.cond (.tmp 5) (.seq (.region [⟨some 4,.mov (.const (.int .i64 1)),none⟩]) (.ret)) (.seq (.region [⟨some 22,.mov (.tmp 0),none⟩,⟨some 23,.bin .gtr .no (.tmp 22) (.const (.int .i64 1048576)),none⟩,
 ⟨some 21,.mov (.tmp 23),none⟩]) (.cond (.tmp 21) (.seq (.region [⟨some 4,.mov (.const (.int .i64 2)),none⟩]) (.ret)) (.skip)))))) (.seq (.region [⟨some 4,.mov (.const (.int .i64 0)),none⟩]) (.ret)))) }

/-- posthorn/word.pieces$1 -/
def F_word_pieces_c1 : ACFn := { nt := 18,results := [],body := (.block 0 (.loop (.seq (.seq (.region [⟨some 4,.load false 1 (.tmp 1),none⟩,⟨some 5,.len false (.tmp 4),none⟩,⟨some 6,.bin .gtr .no (.tmp 5) (.const (.int .i64 0)),none⟩]) (.cond (.tmp 6) (.skip) (.exit 0))) (.block 1 (.seq (.region [⟨some 7,.load false 1 (.tmp 1),none⟩,
 ⟨some 8,.call (.fn 61) [(.tmp 7),(.const (.int .i64 45))],none⟩,⟨some 3,.mov (.tmp 8),none⟩]) (.seq (.seq (.region [⟨some 9,.mov (.tmp 0),none⟩,⟨some 10,.load false 1 (.tmp 1),none⟩,⟨some 11,.mov (.tmp 3),none⟩,
 ⟨some 12,.slc 1 (.tmp 10) none (some (.tmp 11)) none,none⟩,⟨some 13,.call (.tmp 9) [(.tmp 12)],none⟩,⟨some 14,.un .not (.tmp 13),none⟩]) (.cond (.tmp 14) (.ret) (.skip))) (.region [⟨some 15,.load false 1 (.tmp 1),none⟩,
 ⟨some 16,.mov (.tmp 3),none⟩,⟨some 17,.slc 1 (.tmp 15) (some (.tmp 16)) none none,none⟩,⟨none,.store 1 (.tmp 1) (.tmp 17),none⟩]))))))) }

/-- posthorn/posthornref01.May -/
def F_posthornref01_May : ACFn := { nt := 22,results := [.tmp 4],body := (.seq (.region [⟨some 4,.mov (.const (.int .i64 0)),none⟩]) (.seq (.seq (.region [⟨some 5,.mov (.tmp 1),none⟩,⟨some 6,.bin .lss .no (.tmp 5) (.const (.int .i64 0)),none⟩,
 ⟨some 7,.mov (.tmp 6),none⟩,⟨some 8,.mov (.tmp 1),some (7,false)⟩,⟨some 9,.bin .gtr .no (.tmp 8) (.const (.int .i64 76)),some (7,false)⟩,⟨some 10,.pick (.tmp 7) (.const (.bool true)) (.tmp 9),none⟩,⟨some 11,.mov (.tmp 10),none⟩,
 ⟨some 12,.mov (.tmp 1),some (11,false)⟩,⟨some 13,.bin .rem .no (.tmp 12) (.const (.int .i64 4)),some (11,false)⟩,⟨some 14,.bin .gtr .no (.tmp 13) (.const (.int .i64 0)),some (11,false)⟩,⟨some 15,.pick (.tmp 11) (.const (.bool true)) (.tmp 14),none⟩,
 ⟨some 16,.mov (.tmp 15),none⟩,⟨some 17,.mov (.tmp 0),some (16,false)⟩,⟨some 18,.bin .lss .no (.tmp 17) (.const (.int .i64 0)),some (16,false)⟩,⟨some 19,.pick (.tmp 16) (.const (.bool true)) (.tmp 18),none⟩]) (.cond (.tmp 19) (.seq (.region [⟨some 4,.mov (.const (.int .i64 1)),none⟩]) (.ret)) (.skip))) (.seq (.seq (.region [⟨some 20,.mov (.tmp 0),none⟩,
 ⟨some 21,.bin .gtr .no (.tmp 20) (.const (.int .i64 1048576)),none⟩]) (.cond (.tmp 21) (.seq (.region [⟨some 4,.mov (.const (.int .i64 2)),none⟩]) (.ret)) (.skip))) (.seq (.region [⟨some 4,.mov (.const (.int .i64 0)),none⟩]) (.ret))))) }

/-- posthorn/posthornref01.digits -/
def F_posthornref01_digits : ACFn := { nt := 28,results := [.tmp 2],body := (.seq (.region [⟨some 2,.mov (.const (.nils)),none⟩]) (.seq (.region [⟨some 3,.mov (.const (.nils)),none⟩]) (.seq (.seq (.region [⟨some 4,.mov (.const (.int .i64 0)),none⟩]) (.block 0 (.loop (.seq (.seq (.region [⟨some 6,.mov (.tmp 4),none⟩,
 ⟨some 7,.mov (.tmp 0),none⟩,⟨some 8,.len false (.tmp 7),none⟩,⟨some 9,.bin .lss .no (.tmp 6) (.tmp 8),none⟩]) (.cond (.tmp 9) (.skip) (.exit 0))) (.seq (.block 1 (.seq (.region [⟨some 5,.mov (.const (.int .i64 128)),none⟩]) (.block 2 (.loop (.seq (.seq (.region [⟨some 12,.mov (.tmp 5),none⟩,
 ⟨some 13,.bin .gtr .no (.tmp 12) (.const (.int .i64 0)),none⟩]) (.cond (.tmp 13) (.skip) (.exit 2))) (.block 3 (.seq (.region [⟨some 14,.mov (.tmp 3),none⟩,⟨some 15,.mov (.tmp 0),none⟩,⟨some 16,.mov (.tmp 4),none⟩,
 ⟨some 17,.iaddr 1 (.tmp 15) (.tmp 16),none⟩,⟨some 18,.load false 1 (.tmp 17),none⟩,⟨some 19,.cInt .i64 (.tmp 18),none⟩,⟨some 20,.mov (.tmp 5),none⟩,⟨some 21,.bin .quo .no (.tmp 19) (.tmp 20),none⟩,⟨some 22,.bin .rem .no (.tmp 21) (.const (.int .i64 2)),none⟩,
 ⟨some 23,.lit 1 (.int .i64 0) 1 [(0,(.tmp 22))],none⟩,⟨some 24,.app false 1 (.tmp 14) (.tmp 23),none⟩,⟨some 3,.mov (.tmp 24),none⟩]) (.region [⟨some 25,.mov (.tmp 5),none⟩,⟨some 26,.bin .quo .no (.tmp 25) (.const (.int .i64 2)),none⟩,
 ⟨some 5,.mov (.tmp 26),none⟩])))))))) (.region [⟨some 10,.mov (.tmp 4),none⟩,⟨some 11,.bin .add .no (.tmp 10) (.const (.int .i64 1)),none⟩,⟨some 4,.mov (.tmp 11),none⟩])))))) (.seq (.region [⟨some 27,.mov (.tmp 3),none⟩,
 ⟨some 2,.mov (.tmp 27),none⟩]) (.ret))))) }

/-- posthorn/posthornref01.Sign -/
def F_posthornref01_Sign : ACFn := { nt := 42,results := [.tmp 2,.tmp 3],body := (.seq (.region [⟨some 2,.mov (.const (.b8 0)),none⟩,⟨some 3,.mov (.const (.bool false)),none⟩]) (.seq (.block 0 (.seq (.region [⟨some 5,.mov (.tmp 0),none⟩,
 ⟨some 6,.bin .geq .no (.tmp 5) (.const (.int .i64 0)),none⟩,⟨some 7,.mov (.tmp 6),none⟩,⟨some 8,.mov (.tmp 0),some (7,true)⟩,⟨some 9,.bin .leq .no (.tmp 8) (.const (.int .i64 25)),some (7,true)⟩,⟨some 10,.pick (.tmp 7) (.tmp 9) (.const (.bool false)),none⟩,
 ⟨some 4,.mov (.tmp 10),none⟩]) (.cond (.tmp 4) (.seq (.region [⟨some 11,.mov (.tmp 0),none⟩,⟨some 12,.bin .add .no (.const (.int .i64 65)) (.tmp 11),none⟩,⟨some 13,.cInt .u8 (.tmp 12),none⟩,⟨some 2,.mov (.tmp 13),none⟩,
 ⟨some 3,.mov (.const (.bool true)),none⟩]) (.ret)) (.seq (.region [⟨some 15,.mov (.tmp 0),none⟩,⟨some 16,.bin .geq .no (.tmp 15) (.const (.int .i64 26)),none⟩,⟨some 17,.mov (.tmp 16),none⟩,⟨some 18,.mov (.tmp 0),some (17,true)⟩,
 ⟨some 19,.bin .leq .no (.tmp 18) (.const (.int .i64 51)),some (17,true)⟩,⟨some 20,.pick (.tmp 17) (.tmp 19) (.const (.bool false)),none⟩,⟨some 14,.mov (.tmp 20),none⟩]) (.cond (.tmp 14) (.seq (.region [⟨some 21,.mov (.tmp 0),none⟩,
 ⟨some 22,.bin .add .no (.const (.int .i64 97)) (.tmp 21),none⟩,⟨some 23,.bin .sub .no (.tmp 22) (.const (.int .i64 26)),none⟩,⟨some 24,.cInt .u8 (.tmp 23),none⟩,⟨some 2,.mov (.tmp 24),none⟩,⟨some 3,.mov (.const (.bool true)),none⟩]) (.ret)) (.seq (.region [⟨some 26,.mov (.tmp 0),none⟩,
 ⟨some 27,.bin .geq .no (.tmp 26) (.const (.int .i64 52)),none⟩,⟨some 28,.mov (.tmp 27),none⟩,⟨some 29,.mov (.tmp 0),some (28,true)⟩,⟨some 30,.bin .leq .no (.tmp 29) (.const (.int .i64 61)),some (28,true)⟩,
 ⟨some 31,.pick (.tmp 28) (.tmp 30) (.const (.bool false)),none⟩,⟨some 25,.mov (.tmp 31),none⟩]) (.cond (.tmp 25) (.seq (.region [⟨some 32,.mov (.tmp 0),none⟩,⟨some 33,.bin .add .no (.const (.int .i64 48)) (.tmp 32),none⟩,
 ⟨some 34,.bin .sub .no (.tmp 33) (.const (.int .i64 52)),none⟩,⟨some 35,.cInt .u8 (.tmp 34),none⟩,⟨some 2,.mov (.tmp 35),none⟩,⟨some 3,.mov (.const (.bool true)),none⟩]) (.ret)) (.seq (.region [⟨some 37,.mov (.tmp 0),none⟩,
 ⟨some 38,.bin .eql .no (.tmp 37) (.const (.int .i64 62)),none⟩,⟨some 36,.mov (.tmp 38),none⟩]) (.cond (.tmp 36) (.seq (.region [⟨some 2,.mov (.const (.b8 43)),none⟩,⟨some 3,.mov (.const (.bool true)),none⟩]) (.ret)) (.seq (.region [⟨some 40,.mov (.tmp 0),none⟩,
 ⟨some 41,.bin .eql .no (.tmp 40) (.const (.int .i64 63)),none⟩,⟨some 39,.mov (.tmp 41),none⟩]) (.cond (.tmp 39) (.seq (.region [⟨some 2,.mov (.const (.b8 47)),none⟩,⟨some 3,.mov (.const (.bool true)),none⟩]) (.ret)) (.skip)))))))))))) (.seq (.region [⟨some 2,.mov (.const (.b8 0)),none⟩,
 ⟨some 3,.mov (.const (.bool false)),none⟩]) (.ret)))) }

/-- posthorn/bits.value -/
def F_bits_value : ACFn := { nt := 11,results := [.tmp 2,.tmp 3],body := (.seq (.region [⟨some 2,.mov (.const (.int .u32 0)),none⟩,⟨some 3,.mov (.const (.bool false)),none⟩]) (.seq (.region [⟨some 5,.mov (.tmp 0),none⟩,⟨some 6,.call (.fn 78) [(.const (.str [65,66,67,68,69,70,71,72,73,74,75,76,77,78,79,80,81,82,83,84,85,86,87,88,89,90,97,98,99,100,101,102,103,104,105,106,107,108,109,110,111,112,113,114,115,116,117,118,119,120,121,122,48,49,50,51,52,53,54,55,56,57,43,47])),(.tmp 5)],none⟩,
 ⟨some 4,.mov (.tmp 6),none⟩]) (.seq (.region [⟨some 7,.mov (.tmp 4),none⟩,⟨some 8,.cInt .u32 (.tmp 7),none⟩,⟨some 9,.mov (.tmp 4),none⟩,⟨some 10,.bin .geq .no (.tmp 9) (.const (.int .i64 0)),none⟩,⟨some 2,.mov (.tmp 8),none⟩,
 ⟨some 3,.mov (.tmp 10),none⟩]) (.ret)))) }

/-- posthorn/word.digit -/
def F_word_digit : ACFn := { nt := 22,results := [.tmp 2],body := (.seq (.region [⟨some 2,.mov (.const (.b8 0)),none⟩]) (.seq (.block 0 (.seq (.region [⟨some 4,.mov (.tmp 0),none⟩,⟨some 5,.bin .geq .no (.tmp 4) (.const (.b8 48)),none⟩,
 ⟨some 6,.mov (.tmp 5),none⟩,⟨some 7,.mov (.tmp 0),some (6,true)⟩,⟨some 8,.bin .leq .no (.tmp 7) (.const (.b8 57)),some (6,true)⟩,⟨some 9,.pick (.tmp 6) (.tmp 8) (.const (.bool false)),none⟩,⟨some 3,.mov (.tmp 9),none⟩]) (.cond (.tmp 3) (.seq (.region [⟨some 10,.mov (.tmp 0),none⟩,
 ⟨some 11,.bin .sub .no (.tmp 10) (.const (.b8 48)),none⟩,⟨some 2,.mov (.tmp 11),none⟩]) (.ret)) (.seq (.region [⟨some 13,.mov (.tmp 0),none⟩,⟨some 14,.bin .geq .no (.tmp 13) (.const (.b8 65)),none⟩,⟨some 15,.mov (.tmp 14),none⟩,
 ⟨some 16,.mov (.tmp 0),some (15,true)⟩,⟨some 17,.bin .leq .no (.tmp 16) (.const (.b8 70)),some (15,true)⟩,⟨some 18,.pick (.tmp 15) (.tmp 17) (.const (.bool false)),none⟩,⟨some 12,.mov (.tmp 18),none⟩]) (.cond (.tmp 12) (.seq (.region [⟨some 19,.mov (.tmp 0),none⟩,
 ⟨some 20,.bin .sub .no (.tmp 19) (.const (.b8 65)),none⟩,⟨some 21,.bin .add .no (.tmp 20) (.const (.b8 10)),none⟩,⟨some 2,.mov (.tmp 21),none⟩]) (.ret)) (.skip)))))) (.seq (.region [⟨some 2,.mov (.const (.b8 16)),none⟩]) (.ret)))) }

end Go.Ab
