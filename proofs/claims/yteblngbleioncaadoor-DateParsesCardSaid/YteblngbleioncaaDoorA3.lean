/-
  Operations on what is known of values: numbers that are naturals, slices of bytes.
-/
import Derived.Test.YteblngbleioncaaDoorA2
import Derived.ProofKit
import Derived.HandedShaped
import Derived.Deep.Slices
import Derived.Test.YteblngbleioncaaDoorA1
namespace Go.Ab
set_option linter.unusedVariables false
set_option linter.unusedSimpArgs false
variable {A : AP} {st : St} {e : Env}

theorem by_cases' {x : PV} {l : List UInt8} (h : x.by = some l) : (x = .nils ∧ l = []) ∨ ∃ t, x = .bys t l := by
  cases x <;> simp [PV.by] at h
  · exact .inl ⟨rfl, h⟩
  · subst h; exact .inr ⟨_, rfl⟩

theorem wrap64 {n : Int} (h1 : -9223372036854775808 ≤ n) (h2 : n < 9223372036854775808) : IntKind.i64.wrap n = n := by
  unfold IntKind.wrap
  simp only [IntKind.signed, IntKind.bits]
  simp
  omega

/-! ### Numbers -/
theorem add_n {ek : EK} {a : Nat} {c : Int} (h1 : 0 ≤ c) (h2 : a + c.toNat < 9223372036854775808) : binPV .add ek (.int .i64 (a : Int)) (.int .i64 c) = some (.int .i64 ((a + c.toNat : Nat) : Int)) := by
  simp only [binPV, binI, reduceIte, Option.some.injEq]
  rw [wrap64 (by omega) (by omega)]
  congr 1; omega
theorem sub_n {ek : EK} {a : Nat} {c : Int} (h1 : 0 ≤ c) (h2 : c.toNat ≤ a) (h3 : a < 9223372036854775808) : binPV .sub ek (.int .i64 (a : Int)) (.int .i64 c) = some (.int .i64 ((a - c.toNat : Nat) : Int)) := by
  simp only [binPV, binI, reduceIte, Option.some.injEq]
  rw [wrap64 (by omega) (by omega)]
  congr 1; omega
theorem add_i {ek : EK} {a c : Int} (h1 : -9223372036854775808 ≤ a + c) (h2 : a + c < 9223372036854775808) : binPV .add ek (.int .i64 a) (.int .i64 c) = some (.int .i64 (a + c)) := by
  simp only [binPV, binI, reduceIte, Option.some.injEq]
  rw [wrap64 (by omega) (by omega)]
theorem sub_i {ek : EK} {a c : Int} (h1 : -9223372036854775808 ≤ a - c) (h2 : a - c < 9223372036854775808) : binPV .sub ek (.int .i64 a) (.int .i64 c) = some (.int .i64 (a - c)) := by
  simp only [binPV, binI, reduceIte, Option.some.injEq]
  rw [wrap64 (by omega) (by omega)]
theorem qbpz {k : IntKind} {ek : EK} {a c : Int} : binPV .lss ek (.int k a) (.int k c) = some (.bool (decide (a < c))) := by simp [binPV, binI]
theorem qbqz {k : IntKind} {ek : EK} {a c : Int} : binPV .leq ek (.int k a) (.int k c) = some (.bool (decide (a ≤ c))) := by simp [binPV, binI]
theorem qbrz {k : IntKind} {ek : EK} {a c : Int} : binPV .gtr ek (.int k a) (.int k c) = some (.bool (decide (c < a))) := by simp [binPV, binI]
theorem qbsz {k : IntKind} {ek : EK} {a c : Int} : binPV .geq ek (.int k a) (.int k c) = some (.bool (decide (c ≤ a))) := by simp [binPV, binI]
theorem qbtz {k : IntKind} {ek : EK} {a c : Int} : binPV .eql ek (.int k a) (.int k c) = some (.bool (decide (a = c))) := by
  simp [binPV, binI]; by_cases h : a = c <;> simp [h]
theorem qbuz {k : IntKind} {ek : EK} {a c : Int} : binPV .neq ek (.int k a) (.int k c) = some (.bool (decide (a ≠ c))) := by
  simp [binPV, binI]; by_cases h : a = c <;> simp [h]
theorem qbvz {ek : EK} {a c : UInt8} : binPV .eql ek (.b8 a) (.b8 c) = some (.bool (decide (a = c))) := by
  simp [binPV, bin8]; by_cases h : a = c <;> simp [h]
theorem qbwz {ek : EK} {a c : UInt8} : binPV .neq ek (.b8 a) (.b8 c) = some (.bool (decide (a ≠ c))) := by
  simp [binPV, bin8]; by_cases h : a = c <;> simp [h]
theorem qbxz {ek : EK} {a c : UInt8} : binPV .lss ek (.b8 a) (.b8 c) = some (.bool (decide (a < c))) := rfl
theorem qbyz {ek : EK} {a c : UInt8} : binPV .leq ek (.b8 a) (.b8 c) = some (.bool (decide (a ≤ c))) := rfl
theorem qbzz {ek : EK} {a c : UInt8} : binPV .gtr ek (.b8 a) (.b8 c) = some (.bool (decide (c < a))) := rfl
theorem qcaz {ek : EK} {a c : UInt8} : binPV .geq ek (.b8 a) (.b8 c) = some (.bool (decide (c ≤ a))) := rfl
theorem qcbz {ek : EK} {a c : List UInt8} : binPV .eql ek (.str a) (.str c) = some (.bool (decide (a = c))) := by
  simp [binPV, binS]; by_cases h : a = c <;> simp [h]
theorem qccz {ek : EK} {a c : List UInt8} : binPV .neq ek (.str a) (.str c) = some (.bool (decide (a ≠ c))) := by
  simp [binPV, binS]; by_cases h : a = c <;> simp [h]
theorem qcfz {b : Bool} : unPV .not (.bool b) = some (.bool !b) := rfl
theorem qcdz {a b : Bool} : binPV .eql .bool (.bool a) (.bool b) = some (.bool (decide (a = b))) := by cases a <;> cases b <;> rfl
theorem qcez {a b : Bool} : binPV .neq .bool (.bool a) (.bool b) = some (.bool (decide (a ≠ b))) := by cases a <;> cases b <;> rfl

/-! ### Slices of bytes -/
theorem b2s_by {x : PV} {l : List UInt8} {mu : Bool} (h : x.by = some l) : b2s mu st x = some l := by
  rcases by_cases' h with ⟨rfl, rfl⟩ | ⟨t, rfl⟩ <;> rfl
theorem qcgz {t : Tok} {l : List UInt8} : (PV.bys t l).by = some l := rfl
theorem qchz : PV.nils.by = some [] := rfl

theorem qciz {v : PV} {sz : Nat} : loadPV st false sz (.cp [v]) = some v := rfl

/-! ### Behind a call -/
theorem leave_pure {v : PV} (h1 : v.inB st.boxes.length = true) (h3 : keepRes st.toks.length st.toks v = (v, [])) :
    leave st { st with low := st.boxes.length } v = (v, st) := by
  simp [leave, h1, h3]
/-- The slice's token is one of the caller's. -/
def PV.tokLt (n : Nat) : PV → Bool
  | .bys t _ => t.lt n
  | .sl _ t _ => t.lt n
  | _ => true
/-- A value that a call hands back as it is. -/
structure Kp (st : St) (v : PV) : Prop where
  nt : notTup v = true
  ib : v.inB st.boxes.length = true
  kp : keepVal st.toks.length st.toks [] v = (v, [])
theorem Kp_bool {b : Bool} : Kp st (.bool b) := ⟨rfl, rfl, rfl⟩
theorem Kp_str {s : List UInt8} : Kp st (.str s) := ⟨rfl, rfl, rfl⟩
theorem end1 {a : Nat} {v : PV} (ha : e a = v) (h : Kp st v) : ∃ rv, resOf e { boxes := st.boxes, toks := st.toks, loops := st.loops, low := st.boxes.length } [.tmp a] = some rv ∧ leave st { boxes := st.boxes, toks := st.toks, loops := st.loops, low := st.boxes.length } rv = (v, st) := by
  refine ⟨v, by simp [resOf, rvAll, rv1, ha, h.nt, packRes], leave_pure h.ib (keep1 h.kp h.nt)⟩
theorem end3 {a b c : Nat} {v w u : PV} (ha : e a = v) (hb : e b = w) (hc : e c = u) (h : Kp st v) (h2 : Kp st w) (h3 : Kp st u) : ∃ rv, resOf e { boxes := st.boxes, toks := st.toks, loops := st.loops, low := st.boxes.length } [.tmp a, .tmp b, .tmp c] = some rv ∧ leave st { boxes := st.boxes, toks := st.toks, loops := st.loops, low := st.boxes.length } rv = (.tup [v, w, u], st) := by
  refine ⟨.tup [v, w, u], by simp [resOf, rvAll, rv1, ha, hb, hc, h.nt, h2.nt, h3.nt, packRes], leave_pure (by simp [PV.inB, PV.inB.inBAll, h.ib, h2.ib, h3.ib]) (keep3 h.kp h2.kp h3.kp)⟩
end Go.Ab

/-
  Arguments of type []byte, opened.
-/
namespace Go.Ab
open Go.ChangeShapes Go.WideShapes Go.ChangeAt Go.RowKit
set_option linter.unusedVariables false
set_option linter.unusedSimpArgs false
variable {P : Program} {g : GMap}

theorem byte_of_wf {x : Int} (h : (Lit.int .u8 x).wf = true) : 0 ≤ x ∧ x < 256 := by
  have h1 : IntKind.u8.min = 0 := rfl
  have h2 : IntKind.u8.max = 255 := rfl
  simp only [Lit.wf, Bool.and_eq_true, decide_eq_true_eq] at h
  omega

end Go.Ab

/-
  Arguments of plain types, opened: what they read as, as abstract values.
-/
namespace Go.Ab
open Go.ChangeShapes Go.WideShapes Go.ChangeAt Go.RowKit Go.Deep
set_option linter.unusedVariables false
set_option linter.unusedSimpArgs false
variable {P : Program} {g : GMap}

/-- Abstract values of a type, without tokens. -/
inductive HasTy (P : Program) : TypeId → PV → Prop
  | bool {t : TypeId} (b : Bool) (ht : P.underlying t = some .bool) : HasTy P t (.bool b)
  | int {t : TypeId} {k : IntKind} (n : Int) (ht : P.underlying t = some (.int k)) (hk : k ≠ .u8) (h : k.min ≤ n ∧ n ≤ k.max) : HasTy P t (.int k n)
  | u8 {t : TypeId} (b : UInt8) (ht : P.underlying t = some (.int .u8)) : HasTy P t (.b8 b)
  | str {t : TypeId} (s : List UInt8) (ht : P.underlying t = some .string) (h : s.length ≤ reachBytes) : HasTy P t (.str s)
  | nils {t e : TypeId} (ht : P.underlying t = some (.slice e)) : HasTy P t .nils
  | bys {t e : TypeId} (l : List UInt8) (ht : P.underlying t = some (.slice e)) (he : P.underlying e = some (.int .u8)) (h : l.length ≤ maxLen) : HasTy P t (.bys .no l)
  | sl {t e : TypeId} (xs : List PV) (ht : P.underlying t = some (.slice e)) (he : P.underlying e ≠ some (.int .u8)) (h : xs.length ≤ maxLen) (hx : ∀ x ∈ xs, HasTy P e x) : HasTy P t (.sl (P.cellsOf e) .no xs)
  | agg {t : TypeId} {fs : Array Field} (xs : List PV) (ht : P.underlying t = some (.struct fs)) (hl : xs.length = fs.size) (hx : ∀ (i : Nat) (f : Field) (x : PV), fs[i]? = some f → xs[i]? = some x → HasTy P f.type x) : HasTy P t (.agg (flat xs))

/-- Where each field begins. -/
def contig (P : Program) : List Field → Nat → Option Nat
  | [], n => some n
  | f :: fs, n => if f.offset = n then contig P fs (n + P.cellsOf f.type) else none

/-- Types that are read: closed under what they are made of; no row of bytes within them. -/
def okIn (P : Program) (ts : List TypeId) (t : TypeId) : Bool :=
  match P.underlying t with
  | some .bool => P.cellsOf t == 1
  | some (.int _) => P.cellsOf t == 1
  | some .string => P.cellsOf t == 1
  | some (.slice e) => P.cellsOf t == 1 && ts.contains e && decide (0 < P.cellsOf e) && (match P.underlying e with | some (.int .u8) => false | _ => true)
  | some (.struct fs) => contig P fs.toList 0 == some (P.cellsOf t) && fs.toList.all fun f => ts.contains f.type
  | _ => false
/-- .. at the top: bytes may stand there. -/
def okTop (P : Program) (ts us : List TypeId) (t : TypeId) : Bool :=
  match P.underlying t with
  | some .bool => P.cellsOf t == 1
  | some (.int _) => P.cellsOf t == 1
  | some .string => P.cellsOf t == 1
  | some (.slice e) => P.cellsOf t == 1 && (match P.underlying e with | some (.int .u8) => P.cellsOf e == 1 | _ => ts.contains e && decide (0 < P.cellsOf e))
  | some (.struct fs) => contig P fs.toList 0 == some (P.cellsOf t) && fs.toList.all fun f => us.contains f.type
  | _ => false

/-- What is shown of cells that are read as a type. -/
structure Opened (P : Program) (g : GMap) (w : World) (t : TypeId) (cs : List Value) (p : PV) : Prop where
  ty : HasTy P t p
  ln : p.cells.length = cs.length
  lt : p.cells.length = P.cellsOf t
  dt : p.data = true
  nt : notTup p = true
  lf : p.cells.all leafOk = true
  rr : ∀ (i : Nat) (v : Value) (q : PV), cs[i]? = some v → p.cells[i]? = some q → R g (κ0 w) v q

theorem one_get {v : Value} {q : PV} {R' : Value → PV → Prop} (h : R' v q) : ∀ (i : Nat) (v' : Value) (q' : PV), [v][i]? = some v' → [q][i]? = some q' → R' v' q' := by
  intro i v' q' a b
  cases i with
  | zero => simp at a b; subst a b; exact h
  | succ i => simp at a

theorem flatMap_get {α : Type} {f : Nat → List α} {c : Nat} : ∀ (n : Nat), (∀ i, i < n → (f i).length = c) → ((List.range n).flatMap f).length = n * c ∧ ∀ i, i < n * c → ((List.range n).flatMap f)[i]? = (f (i / c))[i % c]? := by
  intro n
  induction n with
  | zero => intro _; simp
  | succ n ih =>
    intro h
    obtain ⟨h1, h2⟩ := ih (fun i hi => h i (by omega))
    rw [List.range_succ, List.flatMap_append]
    simp only [List.flatMap_cons, List.flatMap_nil, List.append_nil, List.length_append, h1, h n (by omega)]
    refine ⟨(Nat.succ_mul n c).symm, fun i hi => ?_⟩
    by_cases hlt : i < n * c
    · rw [List.getElem?_append_left (by rw [h1]; exact hlt), h2 i hlt]
    · rw [List.getElem?_append_right (by rw [h1]; omega), h1]
      have hc : 0 < c := by
        rcases Nat.eq_zero_or_pos c with h0 | h0
        · subst h0; simp at hi
        · exact h0
      have hlt2 : i < n * c + c := by rw [← Nat.succ_mul]; exact hi
      have hd : i / c = n := by
        apply Nat.div_eq_of_lt_le
        · omega
        · rw [Nat.succ_mul]; omega
      have hm : i % c = i - n * c := by
        have := Nat.div_add_mod i c
        rw [hd] at this
        rw [Nat.mul_comm] at this; omega
      rw [hd, hm]

theorem spot_of_cell {w : World} {a : Addr} {v : Value} (h : w.cell? a = some v) : a.spot = none := by
  unfold World.cell? at h
  split at h
  · split at h
    · cases h
    · rename_i hs; simpa using hs
  · cases h

/-- Fields, one behind the other. -/
theorem open_fields {w : World} : ∀ (fs : List Field) (off tot : Nat) (cs : List Value), contig P fs off = some tot → cs.length = tot → (∀ (i : Nat) (f : Field), fs[i]? = some f → ∃ p, Opened P g w f.type ((cs.drop f.offset).take (P.cellsOf f.type)) p) →
    ∃ ps : List PV, ps.length = fs.length ∧ (∀ (i : Nat) (f : Field) (x : PV), fs[i]? = some f → ps[i]? = some x → HasTy P f.type x) ∧ (flat ps).length + off = tot ∧ dataAll (flat ps) = true ∧ (flat ps).all leafOk = true ∧
      ∀ (i : Nat) (v : Value) (q : PV), cs[off + i]? = some v → (flat ps)[i]? = some q → R g (κ0 w) v q := by
  intro fs
  induction fs with
  | nil =>
    intro off tot cs hc hl _
    simp only [contig, Option.some.injEq] at hc
    exact ⟨[], rfl, fun i f x h => by simp at h, by simp [flat, hc], rfl, rfl, fun i v q _ h => by simp [flat] at h⟩
  | cons f fs ih =>
    intro off tot cs hc hl hf
    simp only [contig] at hc
    split at hc
    · rename_i ho
      obtain ⟨p, hp⟩ := hf 0 f rfl
      obtain ⟨ps, h1, h2, h3, h4, h5, h6⟩ := ih (off + P.cellsOf f.type) tot cs hc hl (fun i f' h => hf (i + 1) f' h)
      refine ⟨p :: ps, by simp [h1], fun i f' x a b => ?_, ?_, ?_, ?_, fun i v q a b => ?_⟩
      · cases i with
        | zero => simp at a b; subst a b; exact hp.ty
        | succ i => simp at a b; exact h2 i f' x a b
      · have := hp.lt
        simp only [flat, List.flatMap_cons, List.length_append] at h3 ⊢; omega
      · simp only [flat, List.flatMap_cons] at h4 ⊢
        rw [dataAll_append, h4, data_cells hp.dt]; rfl
      · simp only [flat, List.flatMap_cons] at h5 ⊢
        rw [List.all_append, hp.lf, h5]; rfl
      · simp only [flat, List.flatMap_cons] at b
        by_cases hi : i < p.cells.length
        · rw [List.getElem?_append_left hi] at b
          refine hp.rr i v q ?_ b
          rw [List.getElem?_take, if_pos (by rw [← hp.lt]; exact hi), List.getElem?_drop, ho]; exact a
        · rw [List.getElem?_append_right (by omega)] at b
          refine h6 (i - p.cells.length) v q ?_ b
          rw [← hp.lt, show off + p.cells.length + (i - p.cells.length) = off + i by omega]; exact a
    · cases hc

theorem weightsEach_get {H : Type} : ∀ (ts : List TypeId) (ds : List (DataW H)), (DataW.weightsEach P ts ds).all (· ≤ reachBytes) = true → ∀ (i : Nat) (t : TypeId) (d : DataW H), ts[i]? = some t → ds[i]? = some d → (d.weights P t).all (· ≤ reachBytes) = true := by
  intro ts
  induction ts with
  | nil => intro ds _ i t d h; simp at h
  | cons t ts ih =>
    intro ds h i u d a b
    cases ds with
    | nil => simp at b
    | cons e ds =>
      simp only [DataW.weightsEach, List.all_append, Bool.and_eq_true] at h
      cases i with
      | zero => simp at a b; subst a b; exact h.1
      | succ i => simp at a b; exact ih ds h.2 i u d a b
theorem weightsAll_get {H : Type} {e : TypeId} : ∀ (ds : List (DataW H)), (DataW.weightsAll P e ds).all (· ≤ reachBytes) = true → ∀ (i : Nat) (d : DataW H), ds[i]? = some d → (d.weights P e).all (· ≤ reachBytes) = true := by
  intro ds
  induction ds with
  | nil => intro _ i d h; simp at h
  | cons e ds ih =>
    intro h i d b
    simp only [DataW.weightsAll, List.all_append, Bool.and_eq_true] at h
    cases i with
    | zero => simp at b; subst b; exact h.1
    | succ i => simp at b; exact ih h.2 i d b

theorem open_in {H : Type} {enc : TypeId × Value → H} {w : World} {ts us : List TypeId} (hin : ts.all (okIn P ts) = true) (htop : us.all (okTop P ts us) = true) : ∀ (fuel : Nat) (t : TypeId) (cs : List Value) (x : DataW H × List MemPlace), DataW.trod enc P w 0 (fun _ => true) true fuel t cs = some x → (x.1.weights P t).all (· ≤ reachBytes) = true →
    (t ∈ ts ∨ t ∈ us ∧ ∀ a len cap, Value.slice (some a) len cap ∈ cs → a.spot = none) → ∃ p, Opened P g w t cs p := by
  intro fuel
  induction fuel with
  | zero => intro t cs x h; simp [DataW.trod] at h
  | succ fuel ih =>
    intro t cs x h hwt hm
    have hok : okIn P ts t = true ∨ okTop P ts us t = true := by
      rcases hm with hm | hm
      · exact .inl ((List.all_eq_true.1 hin) t hm)
      · exact .inr ((List.all_eq_true.1 htop) t hm.1)
    have hone : (∀ e, P.underlying t ≠ some (.struct e)) → P.cellsOf t = 1 := by
      intro hne
      cases hu : P.underlying t with
      | none => rcases hok with hok | hok <;> simp [okIn, okTop, hu] at hok
      | some d =>
        rcases hok with hok | hok
        · simp only [okIn, hu] at hok
          cases d <;> first | exact (hne _ hu).elim | simp_all
        · simp only [okTop, hu] at hok
          cases d <;> first | exact (hne _ hu).elim | simp_all
    cases hu : P.underlying t with
    | none => rcases hok with hok | hok <;> simp [okIn, okTop, hu] at hok
    | some d =>
      cases d with
      | bool =>
        obtain ⟨b, rfl, _⟩ := DataW.trod_bool hu h
        exact ⟨.bool b, .bool b hu, rfl, (hone (fun e he => by rw [hu] at he; cases he)).symm, rfl, rfl, rfl, one_get (.bool b)⟩
      | int k =>
        obtain ⟨n, rfl, _, hw⟩ := DataW.trod_int hu h
        have hrange : k.min ≤ n ∧ n ≤ k.max := by simpa [Lit.wf] using hw
        by_cases hk : k = .u8
        · subst hk
          have h1 : IntKind.u8.min = 0 := rfl
          have h2 : IntKind.u8.max = 255 := rfl
          rw [h1, h2] at hrange
          refine ⟨.b8 (n.toNat.toUInt8), .u8 _ hu, rfl, (hone (fun e he => by rw [hu] at he; cases he)).symm, rfl, rfl, rfl, one_get (.b8 _ _ ?_)⟩
          simp [Nat.toUInt8, UInt8.toNat_ofNat]; omega
        · exact ⟨.int k n, .int n hu hk hrange, rfl, (hone (fun e he => by rw [hu] at he; cases he)).symm, rfl, rfl, rfl, one_get (.int k n hk)⟩
      | string =>
        obtain ⟨s, rfl, hxe, hs⟩ := DataW.trod_string hu h
        rw [hxe] at hwt
        simp only [DataW.weights, List.all_cons, List.all_nil, Bool.and_true, decide_eq_true_eq] at hwt
        exact ⟨.str s.data.toList, .str _ hu hwt, rfl, (hone (fun e he => by rw [hu] at he; cases he)).symm, rfl, rfl, rfl, one_get (.str s _ rfl)⟩
      | struct fs =>
        obtain ⟨xs, n, hn, hxe, hcl, hxl, hx⟩ := DataW.trod_struct hu h
        obtain rfl : n = fuel := by omega
        rw [hxe] at hwt
        simp only [DataW.weights, hu] at hwt
        have hc : contig P fs.toList 0 = some (P.cellsOf t) := by
          rcases hok with hok | hok
          · simp only [okIn, hu, Bool.and_eq_true, beq_iff_eq] at hok; exact hok.1
          · simp only [okTop, hu, Bool.and_eq_true, beq_iff_eq] at hok; exact hok.1
        have hmem : ∀ (i : Nat) (f : Field), fs.toList[i]? = some f → (f.type ∈ ts ∨ f.type ∈ us ∧ ∀ a len cap, Value.slice (some a) len cap ∈ cs → a.spot = none) := by
          intro i f hf
          have hfm := List.mem_of_getElem? hf
          rcases hm with hm | hm
          · have hok := (List.all_eq_true.1 hin) t hm
            simp only [okIn, hu, Bool.and_eq_true, List.all_eq_true] at hok
            exact .inl (by simpa using hok.2 f hfm)
          · have hok := (List.all_eq_true.1 htop) t hm.1
            simp only [okTop, hu, Bool.and_eq_true, List.all_eq_true] at hok
            exact .inr ⟨by simpa using hok.2 f hfm, hm.2⟩
        obtain ⟨ps, h1, h2, h3, h4, h5, h6⟩ := open_fields (g := g) (w := w) fs.toList 0 _ cs hc hcl (fun i f hf => by
          have hf' : fs[i]? = some f := by simpa using hf
          have hi : i < xs.length := by rw [hxl]; exact (Array.getElem?_eq_some_iff.1 hf').1
          have := hx i f hf'
          rw [List.getElem?_eq_getElem hi] at this
          refine ih _ _ _ this (weightsEach_get _ _ hwt i _ _ (by simp [hf]) (by simp [hi])) ?_
          rcases hmem i f hf with hm | hm
          · exact .inl hm
          · exact .inr ⟨hm.1, fun a len cap ha => hm.2 a len cap (List.mem_of_mem_drop (List.mem_of_mem_take ha))⟩)
        refine ⟨.agg (flat ps), .agg ps hu (by simpa using h1) (fun i f x a b => h2 i f x (by simpa using a) b), ?_, ?_, h4, rfl, h5, fun i v q a b => h6 i v q (by simpa using a) b⟩
        · show (flat ps).length = _
          omega
        · show (flat ps).length = _
          omega
      | slice e =>
        have hct := hone (fun e he => by rw [hu] at he; cases he)
        rcases DataW.trod_slice hu h with ⟨rfl, _⟩ | ⟨a, len, cap, elems, rest, n, hn, rfl, hxe, _, hl, hmx, hlen, hel, hspare, _⟩
        · exact ⟨.nils, .nils hu, rfl, hct.symm, rfl, rfl, rfl, one_get .nils⟩
        · obtain rfl : n = fuel := by omega
          -- an element's cells
          have hpart : ∀ i, i < len → ∃ cs', w.cells? 0 (a.add (i * P.cellsOf e)) (P.cellsOf e) = some cs' ∧ DataW.trod enc P w 0 (fun _ => true) true n e cs' = elems[i]? := fun i hi => by
            have := hel i hi
            rw [List.getElem?_eq_getElem (by omega)] at this
            obtain ⟨cs', h1, h2⟩ := Option.bind_eq_some_iff.1 this
            exact ⟨cs', h1, by rw [h2, List.getElem?_eq_getElem (by omega)]⟩
          by_cases he : P.underlying e = some (.int .u8)
          · -- bytes
            have hus : t ∈ us ∧ ∀ a' len' cap', Value.slice (some a') len' cap' ∈ [Value.slice (some a) len cap] → a'.spot = none := by
              rcases hm with hm | hm
              · have hok := (List.all_eq_true.1 hin) t hm
                simp [okIn, hu, he] at hok
              · exact hm
            have hce : P.cellsOf e = 1 := by
              have hok := (List.all_eq_true.1 htop) t hus.1
              simp only [okTop, hu, he, Bool.and_eq_true, beq_iff_eq] at hok
              exact hok.2
            have hsp := hus.2 a len cap (by simp)
            obtain ⟨blk, off, sp⟩ := a
            simp only at hsp
            subst hsp
            obtain ⟨f, hf⟩ := choose_lt (α := Int) (p := fun i z => w.cell? ⟨blk, off + i, none⟩ = some (.int .u8 z) ∧ 0 ≤ z ∧ z < 256) (n := len) (fun i hi => by
              obtain ⟨cs', h1, h2⟩ := hpart i hi
              rw [List.getElem?_eq_getElem (by omega)] at h2
              obtain ⟨z, rfl, _, hz⟩ := DataW.trod_int he h2
              rw [hce, Nat.mul_one] at h1
              have := cell_of_cells?_one h1
              rw [add_eq] at this
              exact ⟨z, this, byte_of_wf hz⟩)
            refine ⟨.bys .no ((List.range len).map fun i => (f i).toNat.toUInt8), .bys _ hu he (by simp; omega), rfl, hct.symm, rfl, rfl, rfl, one_get (.bys blk off len cap .no _ (by simp) hl (fun i b hb => ?_) trivial (fun i h => by cases h))⟩
            simp only [List.getElem?_map, Option.map_eq_some_iff] at hb
            obtain ⟨j, hj, rfl⟩ := hb
            have hi : i < len := by
              have := (List.getElem?_eq_some_iff.1 hj).1
              simpa using this
            rw [List.getElem?_range hi] at hj
            cases hj
            obtain ⟨q1, q2, q3⟩ := hf i hi
            show w.cell? ⟨blk, off + i, none⟩ = _
            rw [q1]
            have : (((f i).toNat.toUInt8).toNat : Int) = f i := by
              simp [Nat.toUInt8, UInt8.toNat_ofNat]; omega
            rw [this]
          · -- other elements
            have hein : e ∈ ts ∧ 0 < P.cellsOf e := by
              rcases hm with hm | hm
              · have hok := (List.all_eq_true.1 hin) t hm
                simp only [okIn, hu, Bool.and_eq_true, decide_eq_true_eq] at hok
                exact ⟨by simpa using hok.1.1.2, hok.1.2⟩
              · have hok := (List.all_eq_true.1 htop) t hm.1
                simp only [okTop, hu, Bool.and_eq_true] at hok
                have h2 := hok.2
                first
                | (split at h2
                   · rename_i h3; exact absurd h3 he
                   · simp only [Bool.and_eq_true, decide_eq_true_eq] at h2
                     exact ⟨by simpa using h2.1, h2.2⟩)
                | (simp only [Bool.and_eq_true, decide_eq_true_eq] at h2
                   exact ⟨by simpa using h2.1, h2.2⟩)
            by_cases hcap : cap = 0
            · have hl0 : len = 0 := by omega
              subst hcap hl0
              exact ⟨.sl (P.cellsOf e) .no [], .sl [] hu he (Nat.zero_le _) (fun x hx => by simp at hx), rfl, hct.symm, rfl, rfl, rfl, one_get (.sl0 a _ _ (fun i h => by cases h))⟩
            · -- the address is a cell's
              have hsp : a.spot = none := by
                have h0 : ∃ cs', w.cells? 0 (a.add (0 * P.cellsOf e)) (P.cellsOf e) = some cs' := by
                  by_cases hl0 : 0 < len
                  · obtain ⟨cs', h1, _⟩ := hpart 0 hl0
                    exact ⟨cs', h1⟩
                  · obtain ⟨r1, r2⟩ := hspare rfl
                    have := r2 0 (by omega)
                    rw [List.getElem?_eq_getElem (by omega)] at this
                    obtain ⟨cs', h1, h2⟩ := Option.bind_eq_some_iff.1 this
                    rw [show len + 0 = 0 by omega] at h1
                    exact ⟨cs', h1⟩
                obtain ⟨cs', h1⟩ := h0
                obtain ⟨_, h2, h3⟩ := World.cells?_some h1
                have h4 := h3 0 hein.2
                rw [List.getElem?_eq_getElem (by omega)] at h4
                have := spot_of_cell h4
                simpa [Addr.add] using this
              obtain ⟨blk, off, sp⟩ := a
              simp only at hsp
              subst hsp
              obtain ⟨F, hF⟩ := choose_lt (α := List Value × PV) (p := fun i z => w.cells? 0 ((⟨blk, off, none⟩ : Addr).add (i * P.cellsOf e)) (P.cellsOf e) = some z.1 ∧ Opened P g w e z.1 z.2) (n := len) (fun i hi => by
                obtain ⟨cs', h1, h2⟩ := hpart i hi
                rw [List.getElem?_eq_getElem (by omega)] at h2
                rw [hxe] at hwt
                simp only [DataW.weights, hu, List.all_cons, List.all_append, Bool.and_eq_true] at hwt
                obtain ⟨p, hp⟩ := ih _ _ _ h2 (weightsAll_get _ hwt.2.1 i _ (by rw [List.getElem?_map, List.getElem?_eq_getElem (by omega)]; rfl)) (.inl hein.1)
                exact ⟨(cs', p), h1, hp⟩)
              have hflat : flat ((List.range len).map fun i => (F i).2) = (List.range len).flatMap fun i => (F i).2.cells := by simp [flat, List.flatMap_map]
              obtain ⟨v1, v2⟩ := flatMap_get (f := fun i => (F i).1) (c := P.cellsOf e) len (fun i hi => (World.cells?_some (hF i hi).1).2.1)
              obtain ⟨x1, x2⟩ := flatMap_get (f := fun i => (F i).2.cells) (c := P.cellsOf e) len (fun i hi => (hF i hi).2.lt)
              have hdm : ∀ i, i < len * P.cellsOf e → i / P.cellsOf e < len := fun i hi => by
                rw [Nat.div_lt_iff_lt_mul hein.2]; exact hi
              have hmd : ∀ i, i % P.cellsOf e < P.cellsOf e := fun i => Nat.mod_lt _ hein.2
              have hxs : ∀ x ∈ (List.range len).map (fun i => (F i).2), ∃ i, i < len ∧ x = (F i).2 := fun x hx => by
                simp only [List.mem_map, List.mem_range] at hx
                obtain ⟨i, h1, rfl⟩ := hx
                exact ⟨i, h1, rfl⟩
              have hda : ∀ xs : List PV, (∀ x ∈ xs, x.data = true) → dataAll xs = true := by
                intro xs
                induction xs with
                | nil => intro _; rfl
                | cons x xs ih => intro h; simp only [dataAll, h x (by simp), ih (fun y hy => h y (by simp [hy])), Bool.and_self]
              have hd : dataAll ((List.range len).map fun i => (F i).2) = true := hda _ fun x hx => by
                obtain ⟨i, hi, rfl⟩ := hxs x hx
                exact (hF i hi).2.dt
              refine ⟨.sl (P.cellsOf e) .no ((List.range len).map fun i => (F i).2), .sl _ hu he (by simp; omega) (fun x hx => ?_), rfl, hct.symm, by simp [PV.data, Tok.isNo, hd], rfl, rfl,
                one_get (.sl blk off len cap (P.cellsOf e) .no _ ((List.range len).flatMap fun i => (F i).1) (by simp) hl (fun x hx => ?_) (by rw [hflat, v1, x1]) (fun i v hi => ?_) (fun i v q a b => ?_) hd ?_ trivial)⟩
              · obtain ⟨i, hi, rfl⟩ := hxs x hx
                exact (hF i hi).2.ty
              · obtain ⟨i, hi, rfl⟩ := hxs x hx
                exact (hF i hi).2.lt
              · have hlt := (List.getElem?_eq_some_iff.1 hi).1
                rw [v1] at hlt
                rw [v2 i hlt] at hi
                have h3 := (World.cells?_some (hF _ (hdm i hlt)).1).2.2 (i % P.cellsOf e) (hmd i)
                rw [add_eq, add_eq, hi] at h3
                have h4 := Nat.div_add_mod i (P.cellsOf e)
                rw [Nat.mul_comm] at h4
                rw [Nat.add_assoc, h4] at h3
                exact h3
              · have hlt := (List.getElem?_eq_some_iff.1 a).1
                rw [v1] at hlt
                rw [v2 i hlt] at a
                rw [hflat, x2 i hlt] at b
                exact (hF _ (hdm i hlt)).2.rr _ _ _ a b
              · rw [hflat, List.all_eq_true]
                intro y hy
                obtain ⟨i, hi, hy⟩ := List.mem_flatMap.1 hy
                exact (List.all_eq_true.1 (hF i (by simpa using hi)).2.lf) y hy
      | _ => rcases hok with hok | hok <;> simp [okIn, okTop, hu] at hok

theorem cell_spot {w : World} {r : Reach} {base : Nat} {u : TypeId} {a : Addr} {len cap : Nat} (h : Cell.okWide P w r base u (.slice (some a) len cap)) : a.spot = none := by
  unfold Cell.okWide at h
  cases hu : P.underlying u with
  | none => simp [hu, Cell.ok] at h
  | some d =>
    cases d <;> simp [hu, Cell.ok] at h
    exact h.2.2.2.1

/-- **An argument, opened.** -/
theorem open_arg {H : Type} {enc : TypeId × Value → H} {W : World} {base : Nat} {ts us : List TypeId} (hin : ts.all (okIn P ts) = true) (htop : us.all (okTop P ts us) = true) {t : TypeId} (ht : us.contains t = true) {v : Value} {d : DataW H} {p : List MemPlace}
    (hval : Value.okWide P W .any base t v) (h0 : DataW.Trod enc P W 0 (fun _ => true) true t v d p) (hwt : (d.weights P t).all (· ≤ reachBytes) = true) : ∃ q : PV, HasTy P t q ∧ q.data = true ∧ R g (κ0 W) v q := by
  have htm : t ∈ us := by simpa using ht
  obtain ⟨fuel, hf⟩ := h0
  have hok := (List.all_eq_true.1 htop) t htm
  have hsp : ∀ a len cap, Value.slice (some a) len cap ∈ v.cells.toList → a.spot = none := by
    intro a len cap ha
    unfold Value.okWide at hval
    cases hu : P.underlying t with
    | none => simp [okTop, hu] at hok
    | some d =>
      rw [hu] at hval
      cases d with
      | struct fs =>
        obtain ⟨cs, rfl, _, ts', _, _, hr⟩ := hval
        simp only [Value.cells] at ha
        obtain ⟨i, hi⟩ := List.getElem?_of_mem ha
        obtain ⟨u, _, hc⟩ := hr i _ (by simpa using hi)
        exact cell_spot hc
      | bool =>
        obtain ⟨b, rfl⟩ := okWide_bool hu (by unfold Value.okWide; rw [hu]; exact hval)
        simp [Value.cells] at ha
      | int k =>
        obtain ⟨b, rfl⟩ := okWide_int hu (by unfold Value.okWide; rw [hu]; exact hval)
        simp [Value.cells] at ha
      | string =>
        obtain ⟨b, rfl⟩ := okWide_string hu (by unfold Value.okWide; rw [hu]; exact hval)
        simp [Value.cells] at ha
      | slice e =>
        obtain ⟨a', l', c', rfl⟩ := okWide_slice hu (by unfold Value.okWide; rw [hu]; exact hval)
        simp [Value.cells] at ha
        obtain ⟨rfl, rfl, rfl⟩ := ha
        exact cell_spot hval
      | _ => simp [okTop, hu] at hok
  obtain ⟨q, hq⟩ := open_in (g := g) hin htop fuel t _ _ hf hwt (.inr ⟨htm, hsp⟩)
  refine ⟨q, hq.ty, hq.dt, ?_⟩
  have single : v.cells = #[v] → q.cells = [q] → R g (κ0 W) v q := fun h1 h2 => hq.rr 0 v q (by rw [h1]; rfl) (by rw [h2]; rfl)
  cases hu : P.underlying t with
  | none => simp [okTop, hu] at hok
  | some d =>
    cases d with
    | struct fs =>
      obtain ⟨cs, rfl, _⟩ := okWide_struct hu hval
      have hqt := hq.ty
      cases hqt with
      | agg xs ht hl hx =>
        have := hq.lf
        simp only [PV.cells] at this
        refine .agg cs (flat xs) ?_ (leafB_all this) (fun i u q a b => hq.rr i u q (by simpa [Value.cells] using a) b)
        have := hq.ln
        simp [Value.cells, PV.cells] at this; omega
      | _ => simp_all
    | bool =>
      obtain ⟨b, rfl⟩ := okWide_bool hu hval
      refine single rfl ?_
      have hqt := hq.ty
      cases hqt <;> first | rfl | simp_all
    | int k =>
      obtain ⟨b, rfl⟩ := okWide_int hu hval
      refine single rfl ?_
      have hqt := hq.ty
      cases hqt <;> first | rfl | simp_all
    | string =>
      obtain ⟨b, rfl⟩ := okWide_string hu hval
      refine single rfl ?_
      have hqt := hq.ty
      cases hqt <;> first | rfl | simp_all
    | slice e =>
      obtain ⟨a', l', c', rfl⟩ := okWide_slice hu hval
      refine single rfl ?_
      have hqt := hq.ty
      cases hqt <;> first | rfl | simp_all
    | _ => simp [okTop, hu] at hok

/-! ### What values of a type look like -/
theorem HasTy.bytes {t e : TypeId} {q : PV} (h : HasTy P t q) (ht : P.underlying t = some (.slice e)) (he : P.underlying e = some (.int .u8)) : ∃ l, q.by = some l ∧ q.tokLt 0 = true ∧ l.length ≤ maxLen := by
  cases h with
  | nils => exact ⟨[], rfl, rfl, Nat.zero_le _⟩
  | bys l _ _ hl => exact ⟨l, rfl, rfl, hl⟩
  | sl xs h1 h2 _ _ =>
    rw [ht] at h1
    simp only [Option.some.injEq, TypeDesc.slice.injEq] at h1
    subst h1; exact absurd he h2
  | _ => simp_all
theorem HasTy.strR {t : TypeId} {q : PV} (h : HasTy P t q) (ht : P.underlying t = some .string) : ∃ s, q = .str s ∧ s.length ≤ reachBytes := by
  cases h with
  | str s h1 h2 => exact ⟨s, rfl, h2⟩
  | _ => simp_all
theorem HasTy.str' {t : TypeId} {q : PV} (h : HasTy P t q) (ht : P.underlying t = some .string) : ∃ s, q = .str s ∧ s.length ≤ maxLen := by
  obtain ⟨s, h1, h2⟩ := HasTy.strR h ht
  exact ⟨s, h1, Nat.le_trans h2 (by decide)⟩
end Go.Ab

/-
  From the evaluator's answer to a law's row: what all rows share.
-/
namespace Go.Ab
open Go.ChangeShapes Go.WideShapes Go.ChangeAt Go.RowKit
set_option linter.unusedVariables false
set_option linter.unusedSimpArgs false
variable {P : Program} {g : GMap} {H : Type} {enc : TypeId × Value → H}

/-- All arguments, opened. -/
theorem args_open {W : World} {base : Nat} {ts us : List TypeId} (hin : ts.all (okIn P ts) = true) (htop : us.all (okTop P ts us) = true) : ∀ (ps : List TypeId) (vs : List Value) (ds : List (DataW H)) (q : List MemPlace) (us2 : List TypeId) (gs : List (DataW H)), ps.all us.contains = true →
    DataW.TrodAll enc P W 0 (fun _ => true) true ps vs ds q → (DataW.weightsEach P (ps ++ us2) (ds ++ gs)).all (· ≤ reachBytes) = true → (∀ (j : Nat) t v, ps[j]? = some t → vs[j]? = some v → Value.okWide P W .any base t v) →
    ∃ xs : List PV, xs.length = ps.length ∧ vs.length = ps.length ∧ ds.length = ps.length ∧ (∀ (i : Nat) (t : TypeId) (x : PV), ps[i]? = some t → xs[i]? = some x → HasTy P t x ∧ x.data = true) ∧ ∀ (i : Nat) (v : Value) (x : PV), vs[i]? = some v → xs[i]? = some x → R g (κ0 W) v x := by
  intro ps
  induction ps with
  | nil =>
    intro vs ds q us2 gs _ h _ _
    obtain ⟨rfl, rfl, rfl⟩ := trodAll_nil h
    exact ⟨[], rfl, rfl, rfl, fun i t x a => by simp at a, fun i v x a => by simp at a⟩
  | cons t ps ih =>
    intro vs ds q us2 gs hall h hwt hval
    obtain ⟨v, vs', d, ds', p, q', rfl, rfl, rfl, h0, hr⟩ := trodAll_cons h
    simp only [List.cons_append, DataW.weightsEach, List.all_append, Bool.and_eq_true] at hwt
    simp only [List.all_cons, Bool.and_eq_true] at hall
    obtain ⟨x, x1, x2, x3⟩ := open_arg (g := g) hin htop hall.1 (hval 0 t v rfl rfl) h0 hwt.1
    obtain ⟨xs, y1, y2, y3, y4, y5⟩ := ih vs' ds' q' us2 gs hall.2 hr hwt.2 (fun j t' v' a b => hval (j + 1) t' v' (by simpa using a) (by simpa using b))
    refine ⟨x :: xs, by simp [y1], by simp [y2], by simp [y3], fun i t' x' a b => ?_, fun i v' x' a b => ?_⟩
    · cases i with
      | zero => simp at a b; subst a b; exact ⟨x1, x2⟩
      | succ i => simp at a b; exact y4 i t' x' a b
    · cases i with
      | zero => simp at a b; subst a b; exact x3
      | succ i => simp at a b; exact y5 i v' x' a b

/-- What lay in memory reads as it did. -/
theorem trodAll_below {W W' : World} (hl : laidOutB P = true) (hb : Below W.heap.size W W') : ∀ (ps : List TypeId) (vs : List Value) (ds : List (DataW H)) (q : List MemPlace), ps.all (fun t => P.readableRec t && decide (t < P.types.size)) = true →
    DataW.TrodAll enc P W 0 (fun _ => true) true ps vs ds q → (∀ x ∈ q, x.block < W.heap.size) → DataW.TrodAll enc P W' 0 (fun b => decide (b < W.heap.size)) true ps vs ds q := by
  intro ps
  induction ps with
  | nil =>
    intro vs ds q _ h _
    obtain ⟨rfl, rfl, rfl⟩ := trodAll_nil h
    exact trodAll_mk0
  | cons t ps ih =>
    intro vs ds q hall h hlt
    obtain ⟨v, vs', d, ds', p, q', rfl, rfl, rfl, h0, hr⟩ := trodAll_cons h
    simp only [List.all_cons, Bool.and_eq_true, decide_eq_true_eq] at hall
    exact ⟨_, _, (Below.trod hl hall.1.1 hall.1.2 h0 hb (fun x hx => hlt x (by simp [hx]))), (ih vs' ds' q' (by simpa using hall.2) hr (fun x hx => hlt x (by simp [hx]))), rfl⟩

/-- **What a law's row asks behind the call.** -/
theorem post_of {s : ChangeSpec} {f : Func} {tb : TypeId} {apart : Bool} (hl : laidOutB P = true) (hread : f.params.toList.all (fun t => P.readableRec t && decide (t < P.types.size)) = true) (hres : f.resultTypes = #[tb]) (htb : P.underlying tb = some .bool)
    (hv : s.vars = []) (hfn : ∀ ds : List (DataW H), ds.length = f.params.toList.length → s.fn H ds = { results := [.lit (.bool true)], args := ds }) {W W' : World} {args : Array Value} {ds gs : List (DataW H)} {before : List MemPlace}
    (hW : DataW.Whole enc P f.params.toList s.vars apart W args.toList ds gs before) (hds : ds.length = f.params.toList.length) (hb : Below W.heap.size W W') : s.post enc P f apart true false false W args (.bool true) W' := by
  have hW0 := hW
  obtain ⟨p, q, hA, hV, rfl, hz, hn⟩ := hW
  rw [hv] at hV
  obtain ⟨rfl, rfl⟩ := trodVars_none hV
  simp only [List.append_nil] at hW0
  refine ⟨ds, [], p, [], p, [], hW0, ?_, ?_, ?_, hb.frame _, fun h => by cases h⟩
  · rw [List.append_nil, hfn ds hds, hres]
    exact trodAll_mk1 (shut_bool htb true)
  · rw [List.append_nil, hfn ds hds]
    exact trodAll_below hl hb _ _ _ _ hread hA (fun x hx => hW0.lt x hx)
  · rw [List.append_nil, hfn ds hds, hv]
    rfl
end Go.Ab

/-
  The abstract code of functions, printed by program (abgen.py, abput2.py).
-/
namespace Go.Ab

/-- posthorn/posthornref04.Has -/
def F_posthornref04_Has : ACFn := { nt := 24,results := [.tmp 4],body := (.seq (.region [⟨some 4,.mov (.const (.bool false)),none⟩]) (.seq (.seq (.region [⟨some 5,.mov (.const (.int .i64 0)),none⟩]) (.block 0 (.loop (.seq (.seq (.region [⟨some 6,.mov (.tmp 5),none⟩,
 ⟨some 7,.mov (.tmp 1),none⟩,⟨some 8,.len true (.tmp 7),none⟩,⟨some 9,.bin .add .no (.tmp 6) (.tmp 8),none⟩,⟨some 10,.mov (.tmp 0),none⟩,⟨some 11,.len true (.tmp 10),none⟩,⟨some 12,.bin .leq .no (.tmp 9) (.tmp 11),none⟩]) (.cond (.tmp 12) (.skip) (.exit 0))) (.seq (.block 1 (.seq (.region [⟨some 15,.mov (.tmp 0),none⟩,
 ⟨some 16,.mov (.tmp 5),none⟩,⟨some 17,.mov (.tmp 5),none⟩,⟨some 18,.mov (.tmp 1),none⟩,⟨some 19,.len true (.tmp 18),none⟩,⟨some 20,.bin .add .no (.tmp 17) (.tmp 19),none⟩,⟨some 21,.slc 0 (.tmp 15) (some (.tmp 16)) (some (.tmp 20)) none,none⟩,
 ⟨some 22,.mov (.tmp 1),none⟩,⟨some 23,.bin .eql .no (.tmp 21) (.tmp 22),none⟩]) (.cond (.tmp 23) (.seq (.region [⟨some 4,.mov (.const (.bool true)),none⟩]) (.ret)) (.skip)))) (.region [⟨some 13,.mov (.tmp 5),none⟩,
 ⟨some 14,.bin .add .no (.tmp 13) (.const (.int .i64 1)),none⟩,⟨some 5,.mov (.tmp 14),none⟩])))))) (.seq (.region [⟨some 4,.mov (.const (.bool false)),none⟩]) (.ret)))) }

/-- (*strings.Builder).WriteByte -/
def F_P_strings_Builder_WriteByte : ACFn := { nt := 17,results := [.tmp 4],body := (.seq (.region [⟨some 4,.mov (.const (.nili)),none⟩]) (.seq (.region [⟨some 5,.mov (.tmp 0),none⟩,⟨some 6,.call (.fn 73) [(.tmp 5)],none⟩]) (.seq (.region [⟨some 7,.mov (.tmp 0),none⟩,
 ⟨some 8,.mov (.tmp 0),none⟩,⟨some 9,.nilck (.tmp 8),none⟩,⟨some 10,.faddr 1 (.tmp 9),none⟩,⟨some 11,.load false 1 (.tmp 10),none⟩,⟨some 12,.mov (.tmp 1),none⟩,⟨some 13,.lit8 1 [(0,(.tmp 12))],none⟩,⟨some 14,.app true 1 (.tmp 11) (.tmp 13),none⟩,
 ⟨some 15,.nilck (.tmp 7),none⟩,⟨some 16,.faddr 1 (.tmp 15),none⟩,⟨none,.store 1 (.tmp 16) (.tmp 14),none⟩]) (.seq (.region [⟨some 4,.mov (.const (.nili)),none⟩]) (.ret))))) }

/-- (*strings.Builder).WriteString -/
def F_P_strings_Builder_WriteString : ACFn := { nt := 19,results := [.tmp 4,.tmp 5],body := (.seq (.region [⟨some 4,.mov (.const (.int .i64 0)),none⟩,⟨some 5,.mov (.const (.nili)),none⟩]) (.seq (.region [⟨some 6,.mov (.tmp 0),none⟩,⟨some 7,.call (.fn 73) [(.tmp 6)],none⟩]) (.seq (.region [⟨some 8,.mov (.tmp 0),none⟩,
 ⟨some 9,.mov (.tmp 0),none⟩,⟨some 10,.nilck (.tmp 9),none⟩,⟨some 11,.faddr 1 (.tmp 10),none⟩,⟨some 12,.load false 1 (.tmp 11),none⟩,⟨some 13,.mov (.tmp 1),none⟩,⟨some 14,.app true 1 (.tmp 12) (.tmp 13),none⟩,
 ⟨some 15,.nilck (.tmp 8),none⟩,⟨some 16,.faddr 1 (.tmp 15),none⟩,⟨none,.store 1 (.tmp 16) (.tmp 14),none⟩]) (.seq (.region [⟨some 17,.mov (.tmp 1),none⟩,⟨some 18,.len true (.tmp 17),none⟩,⟨some 4,.mov (.tmp 18),none⟩,
 ⟨some 5,.mov (.const (.nili)),none⟩]) (.ret))))) }

/-- strings.Contains -/
def F_strings_Contains : ACFn := { nt := 9,results := [.tmp 4],body := (.seq (.region [⟨some 4,.mov (.const (.bool false)),none⟩]) (.seq (.region [⟨some 5,.mov (.tmp 0),none⟩,⟨some 6,.mov (.tmp 1),none⟩,⟨some 7,.call (.fn 76) [(.tmp 5),(.tmp 6)],none⟩,
 ⟨some 8,.bin .geq .no (.tmp 7) (.const (.int .i64 0)),none⟩,⟨some 4,.mov (.tmp 8),none⟩]) (.ret))) }

/-- strings.HasPrefix -/
def F_strings_HasPrefix : ACFn := { nt := 8,results := [.tmp 4],body := (.seq (.region [⟨some 4,.mov (.const (.bool false)),none⟩]) (.seq (.region [⟨some 5,.mov (.tmp 0),none⟩,⟨some 6,.mov (.tmp 1),none⟩,⟨some 7,.call (.fn 79) [(.tmp 5),(.tmp 6)],none⟩,
 ⟨some 4,.mov (.tmp 7),none⟩]) (.ret))) }

/-- strings.Index -/
def F_strings_Index : ACFn := { nt := 8,results := [.tmp 4],body := (.seq (.region [⟨some 4,.mov (.const (.int .i64 0)),none⟩]) (.seq (.region [⟨some 5,.mov (.tmp 0),none⟩,⟨some 6,.mov (.tmp 1),none⟩,⟨some 7,.call (.fn 82) [(.tmp 5),(.tmp 6)],none⟩,
 ⟨some 4,.mov (.tmp 7),none⟩]) (.ret))) }

/-- internal/stringslite.HasPrefix -/
def F_internal_stringslite_HasPrefix : ACFn := { nt := 18,results := [.tmp 4],body := (.seq (.region [⟨some 4,.mov (.const (.bool false)),none⟩]) (.seq (.region [⟨some 5,.mov (.tmp 0),none⟩,⟨some 6,.len true (.tmp 5),none⟩,⟨some 7,.mov (.tmp 1),none⟩,
 ⟨some 8,.len true (.tmp 7),none⟩,⟨some 9,.bin .geq .no (.tmp 6) (.tmp 8),none⟩,⟨some 10,.mov (.tmp 9),none⟩,⟨some 11,.mov (.tmp 0),some (10,true)⟩,⟨some 12,.mov (.tmp 1),some (10,true)⟩,⟨some 13,.len true (.tmp 12),some (10,true)⟩,
 ⟨some 14,.slc 0 (.tmp 11) none (some (.tmp 13)) none,some (10,true)⟩,⟨some 15,.mov (.tmp 1),some (10,true)⟩,⟨some 16,.bin .eql .no (.tmp 14) (.tmp 15),some (10,true)⟩,⟨some 17,.pick (.tmp 10) (.tmp 16) (.const (.bool false)),none⟩,
 ⟨some 4,.mov (.tmp 17),none⟩]) (.ret))) }

end Go.Ab

/-
  The abstract code of functions, printed by program (abgen.py, abput2.py).
-/
namespace Go.Ab

/-- posthorn/posthornref04.Lower -/
def F_posthornref04_Lower : ACFn := { nt := 29,results := [.tmp 2],body := (.seq (.region [⟨some 2,.mov (.const (.str [])),none⟩]) (.seq (.region [⟨some 3,.mov (.const (.nils)),none⟩]) (.seq (.seq (.region [⟨some 4,.mov (.const (.int .i64 0)),none⟩]) (.block 0 (.loop (.seq (.seq (.region [⟨some 6,.mov (.tmp 4),none⟩,
 ⟨some 7,.mov (.tmp 0),none⟩,⟨some 8,.len true (.tmp 7),none⟩,⟨some 9,.bin .lss .no (.tmp 6) (.tmp 8),none⟩]) (.cond (.tmp 9) (.skip) (.exit 0))) (.seq (.block 1 (.seq (.region [⟨some 12,.mov (.tmp 0),none⟩,
 ⟨some 13,.mov (.tmp 4),none⟩,⟨some 14,.idxS (.tmp 12) (.tmp 13),none⟩,⟨some 5,.mov (.tmp 14),none⟩]) (.seq (.seq (.region [⟨some 15,.mov (.tmp 5),none⟩,⟨some 16,.bin .geq .no (.tmp 15) (.const (.b8 65)),none⟩,
 ⟨some 17,.mov (.tmp 16),none⟩,⟨some 18,.mov (.tmp 5),some (17,true)⟩,⟨some 19,.bin .leq .no (.tmp 18) (.const (.b8 90)),some (17,true)⟩,⟨some 20,.pick (.tmp 17) (.tmp 19) (.const (.bool false)),none⟩]) (.cond (.tmp 20) (.region [⟨some 21,.mov (.tmp 5),none⟩,
 ⟨some 22,.bin .add .no (.tmp 21) (.const (.b8 32)),none⟩,⟨some 5,.mov (.tmp 22),none⟩]) (.skip))) (.region [⟨some 23,.mov (.tmp 3),none⟩,⟨some 24,.mov (.tmp 5),none⟩,⟨some 25,.lit8 1 [(0,(.tmp 24))],none⟩,
 ⟨some 26,.app true 1 (.tmp 23) (.tmp 25),none⟩,⟨some 3,.mov (.tmp 26),none⟩])))) (.region [⟨some 10,.mov (.tmp 4),none⟩,⟨some 11,.bin .add .no (.tmp 10) (.const (.int .i64 1)),none⟩,⟨some 4,.mov (.tmp 11),none⟩])))))) (.seq (.region [⟨some 27,.mov (.tmp 3),none⟩,
 ⟨some 28,.cB2S false (.tmp 27),none⟩,⟨some 2,.mov (.tmp 28),none⟩]) (.ret))))) }

/-- strings.Cut -/
def F_strings_Cut : ACFn := { nt := 13,results := [.tmp 4,.tmp 5,.tmp 6],body := (.seq (.region [⟨some 4,.mov (.const (.str [])),none⟩,⟨some 5,.mov (.const (.str [])),none⟩,⟨some 6,.mov (.const (.bool false)),none⟩]) (.seq (.region [⟨some 7,.mov (.tmp 0),none⟩,
 ⟨some 8,.mov (.tmp 1),none⟩,⟨some 9,.call (.fn 135) [(.tmp 7),(.tmp 8)],none⟩,⟨some 10,.ext 0 (.tmp 9),none⟩,⟨some 11,.ext 1 (.tmp 9),none⟩,⟨some 12,.ext 2 (.tmp 9),none⟩,⟨some 4,.mov (.tmp 10),none⟩,⟨some 5,.mov (.tmp 11),none⟩,
 ⟨some 6,.mov (.tmp 12),none⟩]) (.ret))) }

/-- internal/stringslite.Cut -/
def F_internal_stringslite_Cut : ACFn := { nt := 23,results := [.tmp 4,.tmp 5,.tmp 6],body := (.seq (.region [⟨some 4,.mov (.const (.str [])),none⟩,⟨some 5,.mov (.const (.str [])),none⟩,⟨some 6,.mov (.const (.bool false)),none⟩]) (.seq (.seq (.region [⟨some 8,.mov (.tmp 0),none⟩,
 ⟨some 9,.mov (.tmp 1),none⟩,⟨some 10,.call (.fn 82) [(.tmp 8),(.tmp 9)],none⟩,⟨some 7,.mov (.tmp 10),none⟩]) (.seq (.region [⟨some 11,.mov (.tmp 7),none⟩,⟨some 12,.bin .geq .no (.tmp 11) (.const (.int .i64 0)),none⟩]) (.cond (.tmp 12) (.seq (.region [⟨some 13,.mov (.tmp 0),none⟩,
 ⟨some 14,.mov (.tmp 7),none⟩,⟨some 15,.slc 0 (.tmp 13) none (some (.tmp 14)) none,none⟩,⟨some 16,.mov (.tmp 0),none⟩,⟨some 17,.mov (.tmp 7),none⟩,⟨some 18,.mov (.tmp 1),none⟩,⟨some 19,.len true (.tmp 18),none⟩,
 ⟨some 20,.bin .add .no (.tmp 17) (.tmp 19),none⟩,⟨some 21,.slc 0 (.tmp 16) (some (.tmp 20)) none none,none⟩,⟨some 4,.mov (.tmp 15),none⟩,⟨some 5,.mov (.tmp 21),none⟩,⟨some 6,.mov (.const (.bool true)),none⟩]) (.ret)) (.skip)))) (.seq (.region [⟨some 22,.mov (.tmp 0),none⟩,
 ⟨some 4,.mov (.tmp 22),none⟩,⟨some 5,.mov (.const (.str [])),none⟩,⟨some 6,.mov (.const (.bool false)),none⟩]) (.ret)))) }

/-- posthorn/posthornlaw06.Great -/
def F_posthornlaw06_Great : ACFn := { nt := 42,results := [.tmp 2],body := (.seq (.region [⟨some 2,.mov (.const (.bool false)),none⟩]) (.seq (.seq (.region [⟨some 4,.mov (.tmp 0),none⟩,⟨some 5,.len false (.tmp 4),none⟩,⟨some 6,.bin .gtr .no (.tmp 5) (.const (.int .i64 200)),none⟩]) (.cond (.tmp 6) (.seq (.region [⟨some 2,.mov (.const (.bool true)),none⟩]) (.ret)) (.skip))) (.seq (.seq (.region [⟨some 3,.mov (.const (.int .i64 0)),none⟩]) (.block 0 (.loop (.seq (.seq (.region [⟨some 7,.mov (.tmp 3),none⟩,
 ⟨some 8,.mov (.tmp 0),none⟩,⟨some 9,.len false (.tmp 8),none⟩,⟨some 10,.bin .lss .no (.tmp 7) (.tmp 9),none⟩]) (.cond (.tmp 10) (.skip) (.exit 0))) (.seq (.block 1 (.seq (.region [⟨some 13,.mov (.tmp 0),none⟩,
 ⟨some 14,.mov (.tmp 3),none⟩,⟨some 15,.iaddr 2 (.tmp 13) (.tmp 14),none⟩,⟨some 16,.faddr 0 (.tmp 15),none⟩,⟨some 17,.load false 1 (.tmp 16),none⟩,⟨some 18,.len true (.tmp 17),none⟩,⟨some 19,.bin .gtr .no (.tmp 18) (.const (.int .i64 200)),none⟩,
 ⟨some 20,.mov (.tmp 19),none⟩,⟨some 21,.mov (.tmp 0),some (20,false)⟩,⟨some 22,.mov (.tmp 3),some (20,false)⟩,⟨some 23,.iaddr 2 (.tmp 21) (.tmp 22),some (20,false)⟩,⟨some 24,.faddr 1 (.tmp 23),some (20,false)⟩,
 ⟨some 25,.load false 1 (.tmp 24),some (20,false)⟩,⟨some 26,.len true (.tmp 25),some (20,false)⟩,⟨some 27,.bin .gtr .no (.tmp 26) (.const (.int .i64 5000)),some (20,false)⟩,⟨some 28,.pick (.tmp 20) (.const (.bool true)) (.tmp 27),none⟩,
 ⟨some 29,.mov (.tmp 28),none⟩,⟨some 30,.mov (.tmp 3),some (29,false)⟩,⟨some 31,.bin .gtr .no (.tmp 30) (.const (.int .i64 20)),some (29,false)⟩,⟨some 32,.mov (.tmp 31),some (29,false)⟩,⟨some 33,.mov (.tmp 0),some (32,true)⟩,
 ⟨some 34,.mov (.tmp 3),some (32,true)⟩,⟨some 35,.iaddr 2 (.tmp 33) (.tmp 34),some (32,true)⟩,⟨some 36,.faddr 1 (.tmp 35),some (32,true)⟩,⟨some 37,.load false 1 (.tmp 36),some (32,true)⟩,⟨some 38,.len true (.tmp 37),some (32,true)⟩,
 ⟨some 39,.bin .gtr .no (.tmp 38) (.const (.int .i64 100)),some (32,true)⟩,⟨some 40,.pick (.tmp 32) (.tmp 39) (.const (.bool false)),some (29,false)⟩,⟨some 41,.pick (.tmp 29) (.const (.bool true)) (.tmp 40),none⟩]) (.cond (.tmp 41) (.seq (.region [⟨some 2,.mov (.const (.bool true)),none⟩]) (.ret)) (.skip)))) (.region [⟨some 11,.mov (.tmp 3),none⟩,
 ⟨some 12,.bin .add .no (.tmp 11) (.const (.int .i64 1)),none⟩,⟨some 3,.mov (.tmp 12),none⟩])))))) (.seq (.region [⟨some 2,.mov (.const (.bool false)),none⟩]) (.ret))))) }

/-- posthorn/fields.Get -/
def F_fields_Get : ACFn := { nt := 29,results := [.tmp 4,.tmp 5],body := (.seq (.region [⟨some 4,.mov (.const (.str [])),none⟩,⟨some 5,.mov (.const (.int .i64 0)),none⟩]) (.seq (.region [⟨some 6,.mov (.const (.str [])),none⟩,⟨some 7,.mov (.const (.int .i64 0)),none⟩]) (.seq (.seq (.region [⟨some 10,.mov (.tmp 0),none⟩,
 ⟨some 11,.len false (.tmp 10),none⟩,⟨some 12,.mov (.const (.int .i64 0)),none⟩]) (.block 0 (.loop (.seq (.region [⟨some 13,.bin .lss .no (.tmp 12) (.tmp 11),none⟩]) (.seq (.cond (.tmp 13) (.skip) (.exit 0)) (.seq (.block 1 (.seq (.region [⟨some 14,.iaddr 2 (.tmp 10) (.tmp 12),none⟩,
 ⟨some 15,.load true 2 (.tmp 14),none⟩,⟨some 9,.alloc [.str [],.str []],none⟩,⟨none,.store 2 (.tmp 9) (.tmp 15),none⟩]) (.seq (.region [⟨some 16,.faddr 0 (.tmp 9),none⟩,⟨some 17,.load false 1 (.tmp 16),none⟩,
 ⟨some 18,.mov (.tmp 1),none⟩,⟨some 19,.call (.fn 155) [(.tmp 17),(.tmp 18)],none⟩]) (.cond (.tmp 19) (.seq (.seq (.region [⟨some 20,.mov (.tmp 7),none⟩,⟨some 21,.bin .eql .no (.tmp 20) (.const (.int .i64 0)),none⟩]) (.cond (.tmp 21) (.region [⟨some 22,.faddr 1 (.tmp 9),none⟩,
 ⟨some 23,.load false 1 (.tmp 22),none⟩,⟨some 6,.mov (.tmp 23),none⟩]) (.skip))) (.region [⟨some 24,.mov (.tmp 7),none⟩,⟨some 25,.bin .add .no (.tmp 24) (.const (.int .i64 1)),none⟩,⟨some 7,.mov (.tmp 25),none⟩])) (.skip))))) (.region [⟨some 26,.bin .add .no (.tmp 12) (.const (.int .i64 1)),none⟩,
 ⟨some 12,.mov (.tmp 26),none⟩]))))))) (.seq (.region [⟨some 27,.mov (.tmp 6),none⟩,⟨some 28,.mov (.tmp 7),none⟩,⟨some 4,.mov (.tmp 27),none⟩,⟨some 5,.mov (.tmp 28),none⟩]) (.ret))))) }

/-- posthorn/posthornref06.Get -/
def F_posthornref06_Get : ACFn := { nt := 37,results := [.tmp 4,.tmp 5],body := (.seq (.region [⟨some 4,.mov (.const (.str [])),none⟩,⟨some 5,.mov (.const (.int .i64 0)),none⟩]) (.seq (.region [⟨some 6,.mov (.const (.nils)),none⟩]) (.seq (.seq (.region [⟨some 7,.mov (.const (.int .i64 0)),none⟩]) (.block 0 (.loop (.seq (.seq (.region [⟨some 8,.mov (.tmp 7),none⟩,
 ⟨some 9,.mov (.tmp 0),none⟩,⟨some 10,.len false (.tmp 9),none⟩,⟨some 11,.bin .lss .no (.tmp 8) (.tmp 10),none⟩]) (.cond (.tmp 11) (.skip) (.exit 0))) (.seq (.block 1 (.seq (.region [⟨some 14,.mov (.tmp 0),none⟩,
 ⟨some 15,.mov (.tmp 7),none⟩,⟨some 16,.iaddr 2 (.tmp 14) (.tmp 15),none⟩,⟨some 17,.faddr 0 (.tmp 16),none⟩,⟨some 18,.load false 1 (.tmp 17),none⟩,⟨some 19,.mov (.tmp 1),none⟩,⟨some 20,.call (.fn 163) [(.tmp 18),(.tmp 19)],none⟩]) (.cond (.tmp 20) (.region [⟨some 21,.mov (.tmp 6),none⟩,
 ⟨some 22,.mov (.tmp 0),none⟩,⟨some 23,.mov (.tmp 7),none⟩,⟨some 24,.iaddr 2 (.tmp 22) (.tmp 23),none⟩,⟨some 25,.faddr 1 (.tmp 24),none⟩,⟨some 26,.load false 1 (.tmp 25),none⟩,⟨some 27,.lit 1 (.str []) 1 [(0,(.tmp 26))],none⟩,
 ⟨some 28,.app false 1 (.tmp 21) (.tmp 27),none⟩,⟨some 6,.mov (.tmp 28),none⟩]) (.skip)))) (.region [⟨some 12,.mov (.tmp 7),none⟩,⟨some 13,.bin .add .no (.tmp 12) (.const (.int .i64 1)),none⟩,⟨some 7,.mov (.tmp 13),none⟩])))))) (.seq (.seq (.region [⟨some 29,.mov (.tmp 6),none⟩,
 ⟨some 30,.len false (.tmp 29),none⟩,⟨some 31,.bin .eql .no (.tmp 30) (.const (.int .i64 0)),none⟩]) (.cond (.tmp 31) (.seq (.region [⟨some 4,.mov (.const (.str [])),none⟩,⟨some 5,.mov (.const (.int .i64 0)),none⟩]) (.ret)) (.skip))) (.seq (.region [⟨some 32,.mov (.tmp 6),none⟩,
 ⟨some 33,.iaddr 1 (.tmp 32) (.const (.int .i64 0)),none⟩,⟨some 34,.load false 1 (.tmp 33),none⟩,⟨some 35,.mov (.tmp 6),none⟩,⟨some 36,.len false (.tmp 35),none⟩,⟨some 4,.mov (.tmp 34),none⟩,⟨some 5,.mov (.tmp 36),none⟩]) (.ret)))))) }

/-- posthorn/fields.Same -/
def F_fields_Same : ACFn := { nt := 10,results := [.tmp 4],body := (.seq (.region [⟨some 4,.mov (.const (.bool false)),none⟩]) (.seq (.region [⟨some 5,.mov (.tmp 0),none⟩,⟨some 6,.call (.fn 167) [(.tmp 5)],none⟩,⟨some 7,.mov (.tmp 1),none⟩,
 ⟨some 8,.call (.fn 167) [(.tmp 7)],none⟩,⟨some 9,.bin .eql .no (.tmp 6) (.tmp 8),none⟩,⟨some 4,.mov (.tmp 9),none⟩]) (.ret))) }

/-- posthorn/fields.isName -/
def F_fields_isName : ACFn := { nt := 34,results := [.tmp 2],body := (.seq (.region [⟨some 2,.mov (.const (.bool false)),none⟩]) (.seq (.seq (.region [⟨some 4,.mov (.tmp 0),none⟩,⟨some 5,.len true (.tmp 4),none⟩,⟨some 6,.bin .lss .no (.tmp 5) (.const (.int .i64 1)),none⟩,
 ⟨some 7,.mov (.tmp 6),none⟩,⟨some 8,.mov (.tmp 0),some (7,false)⟩,⟨some 9,.len true (.tmp 8),some (7,false)⟩,⟨some 10,.bin .gtr .no (.tmp 9) (.const (.int .i64 64)),some (7,false)⟩,⟨some 11,.pick (.tmp 7) (.const (.bool true)) (.tmp 10),none⟩]) (.cond (.tmp 11) (.seq (.region [⟨some 2,.mov (.const (.bool false)),none⟩]) (.ret)) (.skip))) (.seq (.seq (.region [⟨some 12,.mov (.tmp 0),none⟩,
 ⟨some 13,.len true (.tmp 12),none⟩,⟨some 14,.mov (.const (.int .i64 0)),none⟩]) (.block 0 (.loop (.seq (.region [⟨some 15,.bin .lss .no (.tmp 14) (.tmp 13),none⟩]) (.seq (.cond (.tmp 15) (.skip) (.exit 0)) (.seq (.block 1 (.seq (.region [⟨some 16,.mov (.tmp 14),none⟩,
 ⟨some 3,.mov (.tmp 16),none⟩]) (.seq (.region [⟨some 17,.mov (.tmp 0),none⟩,⟨some 18,.mov (.tmp 3),none⟩,⟨some 19,.idxS (.tmp 17) (.tmp 18),none⟩,⟨some 20,.bin .lss .no (.tmp 19) (.const (.b8 33)),none⟩,
 ⟨some 21,.mov (.tmp 20),none⟩,⟨some 22,.mov (.tmp 0),some (21,false)⟩,⟨some 23,.mov (.tmp 3),some (21,false)⟩,⟨some 24,.idxS (.tmp 22) (.tmp 23),some (21,false)⟩,⟨some 25,.bin .gtr .no (.tmp 24) (.const (.b8 126)),some (21,false)⟩,
 ⟨some 26,.pick (.tmp 21) (.const (.bool true)) (.tmp 25),none⟩,⟨some 27,.mov (.tmp 26),none⟩,⟨some 28,.mov (.tmp 0),some (27,false)⟩,⟨some 29,.mov (.tmp 3),some (27,false)⟩,⟨some 30,.idxS (.tmp 28) (.tmp 29),some (27,false)⟩,
 ⟨some 31,.bin .eql .no (.tmp 30) (.const (.b8 58)),some (27,false)⟩,⟨some 32,.pick (.tmp 27) (.const (.bool true)) (.tmp 31),none⟩]) (.cond (.tmp 32) (.seq (.region [⟨some 2,.mov (.const (.bool false)),none⟩]) (.ret)) (.skip))))) (.region [⟨some 33,.bin .add .no (.tmp 14) (.const (.int .i64 1)),none⟩,
 ⟨some 14,.mov (.tmp 33),none⟩]))))))) (.seq (.region [⟨some 2,.mov (.const (.bool true)),none⟩]) (.ret))))) }

/-- posthorn/fields.isValue -/
def F_fields_isValue : ACFn := { nt := 35,results := [.tmp 2],body := (.seq (.region [⟨some 2,.mov (.const (.bool false)),none⟩]) (.seq (.seq (.region [⟨some 4,.mov (.tmp 0),none⟩,⟨some 5,.len true (.tmp 4),none⟩,⟨some 6,.mov (.const (.int .i64 0)),none⟩]) (.block 0 (.loop (.seq (.region [⟨some 7,.bin .lss .no (.tmp 6) (.tmp 5),none⟩]) (.seq (.cond (.tmp 7) (.skip) (.exit 0)) (.seq (.block 1 (.seq (.region [⟨some 8,.mov (.tmp 6),none⟩,
 ⟨some 3,.mov (.tmp 8),none⟩]) (.seq (.region [⟨some 9,.mov (.tmp 0),none⟩,⟨some 10,.mov (.tmp 3),none⟩,⟨some 11,.idxS (.tmp 9) (.tmp 10),none⟩,⟨some 12,.bin .neq .no (.tmp 11) (.const (.b8 9)),none⟩,⟨some 13,.mov (.tmp 12),none⟩,
 ⟨some 14,.mov (.tmp 0),some (13,true)⟩,⟨some 15,.mov (.tmp 3),some (13,true)⟩,⟨some 16,.idxS (.tmp 14) (.tmp 15),some (13,true)⟩,⟨some 17,.bin .lss .no (.tmp 16) (.const (.b8 32)),some (13,true)⟩,⟨some 18,.mov (.tmp 17),some (13,true)⟩,
 ⟨some 19,.mov (.tmp 0),some (18,false)⟩,⟨some 20,.mov (.tmp 3),some (18,false)⟩,⟨some 21,.idxS (.tmp 19) (.tmp 20),some (18,false)⟩,⟨some 22,.bin .gtr .no (.tmp 21) (.const (.b8 126)),some (18,false)⟩,
 ⟨some 23,.pick (.tmp 18) (.const (.bool true)) (.tmp 22),some (13,true)⟩,⟨some 24,.pick (.tmp 13) (.tmp 23) (.const (.bool false)),none⟩]) (.cond (.tmp 24) (.seq (.region [⟨some 2,.mov (.const (.bool false)),none⟩]) (.ret)) (.skip))))) (.region [⟨some 25,.bin .add .no (.tmp 6) (.const (.int .i64 1)),none⟩,
 ⟨some 6,.mov (.tmp 25),none⟩]))))))) (.seq (.region [⟨some 26,.mov (.tmp 0),none⟩,⟨some 27,.len true (.tmp 26),none⟩,⟨some 28,.bin .leq .no (.tmp 27) (.const (.int .i64 4096)),none⟩,⟨some 29,.mov (.tmp 28),none⟩,
 ⟨some 30,.mov (.tmp 0),some (29,true)⟩,⟨some 31,.call (.fn 168) [(.tmp 30)],some (29,true)⟩,⟨some 32,.mov (.tmp 0),some (29,true)⟩,⟨some 33,.bin .eql .no (.tmp 31) (.tmp 32),some (29,true)⟩,⟨some 34,.pick (.tmp 29) (.tmp 33) (.const (.bool false)),none⟩,
 ⟨some 2,.mov (.tmp 34),none⟩]) (.ret)))) }

/-- posthorn/posthornref06.Name -/
def F_posthornref06_Name : ACFn := { nt := 34,results := [.tmp 2],body := (.seq (.region [⟨some 2,.mov (.const (.bool false)),none⟩]) (.seq (.seq (.region [⟨some 3,.mov (.const (.int .i64 0)),none⟩]) (.block 0 (.loop (.seq (.seq (.region [⟨some 4,.mov (.tmp 3),none⟩,
 ⟨some 5,.mov (.tmp 0),none⟩,⟨some 6,.len true (.tmp 5),none⟩,⟨some 7,.bin .lss .no (.tmp 4) (.tmp 6),none⟩]) (.cond (.tmp 7) (.skip) (.exit 0))) (.seq (.block 1 (.seq (.region [⟨some 10,.mov (.tmp 0),none⟩,
 ⟨some 11,.mov (.tmp 3),none⟩,⟨some 12,.idxS (.tmp 10) (.tmp 11),none⟩,⟨some 13,.bin .leq .no (.tmp 12) (.const (.b8 32)),none⟩,⟨some 14,.mov (.tmp 13),none⟩,⟨some 15,.mov (.tmp 0),some (14,false)⟩,⟨some 16,.mov (.tmp 3),some (14,false)⟩,
 ⟨some 17,.idxS (.tmp 15) (.tmp 16),some (14,false)⟩,⟨some 18,.bin .geq .no (.tmp 17) (.const (.b8 127)),some (14,false)⟩,⟨some 19,.pick (.tmp 14) (.const (.bool true)) (.tmp 18),none⟩,⟨some 20,.mov (.tmp 19),none⟩,
 ⟨some 21,.mov (.tmp 0),some (20,false)⟩,⟨some 22,.mov (.tmp 3),some (20,false)⟩,⟨some 23,.idxS (.tmp 21) (.tmp 22),some (20,false)⟩,⟨some 24,.bin .eql .no (.tmp 23) (.const (.b8 58)),some (20,false)⟩,⟨some 25,.pick (.tmp 20) (.const (.bool true)) (.tmp 24),none⟩]) (.cond (.tmp 25) (.seq (.region [⟨some 2,.mov (.const (.bool false)),none⟩]) (.ret)) (.skip)))) (.region [⟨some 8,.mov (.tmp 3),none⟩,
 ⟨some 9,.bin .add .no (.tmp 8) (.const (.int .i64 1)),none⟩,⟨some 3,.mov (.tmp 9),none⟩])))))) (.seq (.region [⟨some 26,.mov (.tmp 0),none⟩,⟨some 27,.len true (.tmp 26),none⟩,⟨some 28,.bin .geq .no (.tmp 27) (.const (.int .i64 1)),none⟩,
 ⟨some 29,.mov (.tmp 28),none⟩,⟨some 30,.mov (.tmp 0),some (29,true)⟩,⟨some 31,.len true (.tmp 30),some (29,true)⟩,⟨some 32,.bin .leq .no (.tmp 31) (.const (.int .i64 64)),some (29,true)⟩,⟨some 33,.pick (.tmp 29) (.tmp 32) (.const (.bool false)),none⟩,
 ⟨some 2,.mov (.tmp 33),none⟩]) (.ret)))) }

/-- posthorn/posthornref06.Value -/
def F_posthornref06_Value : ACFn := { nt := 35,results := [.tmp 2],body := (.seq (.region [⟨some 2,.mov (.const (.bool false)),none⟩]) (.seq (.seq (.region [⟨some 3,.mov (.const (.int .i64 0)),none⟩]) (.block 0 (.loop (.seq (.seq (.region [⟨some 4,.mov (.tmp 3),none⟩,
 ⟨some 5,.mov (.tmp 0),none⟩,⟨some 6,.len true (.tmp 5),none⟩,⟨some 7,.bin .lss .no (.tmp 4) (.tmp 6),none⟩]) (.cond (.tmp 7) (.skip) (.exit 0))) (.seq (.block 1 (.seq (.region [⟨some 10,.mov (.tmp 0),none⟩,
 ⟨some 11,.mov (.tmp 3),none⟩,⟨some 12,.idxS (.tmp 10) (.tmp 11),none⟩,⟨some 13,.bin .lss .no (.tmp 12) (.const (.b8 32)),none⟩,⟨some 14,.mov (.tmp 13),none⟩,⟨some 15,.mov (.tmp 0),some (14,false)⟩,⟨some 16,.mov (.tmp 3),some (14,false)⟩,
 ⟨some 17,.idxS (.tmp 15) (.tmp 16),some (14,false)⟩,⟨some 18,.bin .gtr .no (.tmp 17) (.const (.b8 126)),some (14,false)⟩,⟨some 19,.pick (.tmp 14) (.const (.bool true)) (.tmp 18),none⟩,⟨some 20,.mov (.tmp 19),none⟩,
 ⟨some 21,.mov (.tmp 0),some (20,true)⟩,⟨some 22,.mov (.tmp 3),some (20,true)⟩,⟨some 23,.idxS (.tmp 21) (.tmp 22),some (20,true)⟩,⟨some 24,.bin .neq .no (.tmp 23) (.const (.b8 9)),some (20,true)⟩,⟨some 25,.pick (.tmp 20) (.tmp 24) (.const (.bool false)),none⟩]) (.cond (.tmp 25) (.seq (.region [⟨some 2,.mov (.const (.bool false)),none⟩]) (.ret)) (.skip)))) (.region [⟨some 8,.mov (.tmp 3),none⟩,
 ⟨some 9,.bin .add .no (.tmp 8) (.const (.int .i64 1)),none⟩,⟨some 3,.mov (.tmp 9),none⟩])))))) (.seq (.region [⟨some 26,.mov (.tmp 0),none⟩,⟨some 27,.len true (.tmp 26),none⟩,⟨some 28,.bin .leq .no (.tmp 27) (.const (.int .i64 4096)),none⟩,
 ⟨some 29,.mov (.tmp 28),none⟩,⟨some 30,.mov (.tmp 0),some (29,true)⟩,⟨some 31,.call (.fn 170) [(.tmp 30)],some (29,true)⟩,⟨some 32,.mov (.tmp 0),some (29,true)⟩,⟨some 33,.bin .eql .no (.tmp 31) (.tmp 32),some (29,true)⟩,
 ⟨some 34,.pick (.tmp 29) (.tmp 33) (.const (.bool false)),none⟩,⟨some 2,.mov (.tmp 34),none⟩]) (.ret)))) }

/-- posthorn/posthornref06.Same -/
def F_posthornref06_Same : ACFn := { nt := 10,results := [.tmp 4],body := (.seq (.region [⟨some 4,.mov (.const (.bool false)),none⟩]) (.seq (.region [⟨some 5,.mov (.tmp 0),none⟩,⟨some 6,.call (.fn 114) [(.tmp 5)],none⟩,⟨some 7,.mov (.tmp 1),none⟩,
 ⟨some 8,.call (.fn 114) [(.tmp 7)],none⟩,⟨some 9,.bin .eql .no (.tmp 6) (.tmp 8),none⟩,⟨some 4,.mov (.tmp 9),none⟩]) (.ret))) }

/-- posthorn/fields.lower -/
def F_fields_lower : ACFn := { nt := 29,results := [.tmp 2],body := (.seq (.region [⟨some 2,.mov (.const (.str [])),none⟩]) (.seq (.region [⟨some 6,.mov (.tmp 0),none⟩,⟨some 7,.cS2B true (.tmp 6),none⟩,⟨some 3,.mov (.tmp 7),none⟩]) (.seq (.seq (.region [⟨some 8,.mov (.tmp 3),none⟩,
 ⟨some 9,.len false (.tmp 8),none⟩,⟨some 10,.mov (.const (.int .i64 0)),none⟩]) (.block 0 (.loop (.seq (.region [⟨some 11,.bin .lss .no (.tmp 10) (.tmp 9),none⟩]) (.seq (.cond (.tmp 11) (.skip) (.exit 0)) (.seq (.block 1 (.seq (.region [⟨some 12,.mov (.tmp 10),none⟩,
 ⟨some 13,.iaddr 1 (.tmp 8) (.tmp 10),none⟩,⟨some 14,.load false 1 (.tmp 13),none⟩,⟨some 4,.mov (.tmp 12),none⟩,⟨some 5,.mov (.tmp 14),none⟩]) (.seq (.region [⟨some 15,.mov (.tmp 5),none⟩,⟨some 16,.bin .geq .no (.tmp 15) (.const (.b8 65)),none⟩,
 ⟨some 17,.mov (.tmp 16),none⟩,⟨some 18,.mov (.tmp 5),some (17,true)⟩,⟨some 19,.bin .leq .no (.tmp 18) (.const (.b8 90)),some (17,true)⟩,⟨some 20,.pick (.tmp 17) (.tmp 19) (.const (.bool false)),none⟩]) (.cond (.tmp 20) (.region [⟨some 21,.mov (.tmp 3),none⟩,
 ⟨some 22,.mov (.tmp 4),none⟩,⟨some 23,.mov (.tmp 5),none⟩,⟨some 24,.bin .add .no (.tmp 23) (.const (.b8 32)),none⟩,⟨some 25,.iaddr 1 (.tmp 21) (.tmp 22),none⟩,⟨none,.store 1 (.tmp 25) (.tmp 24),none⟩]) (.skip))))) (.region [⟨some 26,.bin .add .no (.tmp 10) (.const (.int .i64 1)),none⟩,
 ⟨some 10,.mov (.tmp 26),none⟩]))))))) (.seq (.region [⟨some 27,.mov (.tmp 3),none⟩,⟨some 28,.cB2S true (.tmp 27),none⟩,⟨some 2,.mov (.tmp 28),none⟩]) (.ret))))) }

/-- posthorn/fields.trim -/
def F_fields_trim : ACFn := { nt := 43,results := [.tmp 2],body := (.seq (.region [⟨some 2,.mov (.const (.str [])),none⟩]) (.seq (.block 0 (.loop (.seq (.seq (.region [⟨some 3,.mov (.tmp 0),none⟩,⟨some 4,.len true (.tmp 3),none⟩,
 ⟨some 5,.bin .gtr .no (.tmp 4) (.const (.int .i64 0)),none⟩,⟨some 6,.mov (.tmp 5),none⟩,⟨some 7,.mov (.tmp 0),some (6,true)⟩,⟨some 8,.idxS (.tmp 7) (.const (.int .i64 0)),some (6,true)⟩,⟨some 9,.bin .eql .no (.tmp 8) (.const (.b8 32)),some (6,true)⟩,
 ⟨some 10,.mov (.tmp 9),some (6,true)⟩,⟨some 11,.mov (.tmp 0),some (10,false)⟩,⟨some 12,.idxS (.tmp 11) (.const (.int .i64 0)),some (10,false)⟩,⟨some 13,.bin .eql .no (.tmp 12) (.const (.b8 9)),some (10,false)⟩,
 ⟨some 14,.pick (.tmp 10) (.const (.bool true)) (.tmp 13),some (6,true)⟩,⟨some 15,.pick (.tmp 6) (.tmp 14) (.const (.bool false)),none⟩]) (.cond (.tmp 15) (.skip) (.exit 0))) (.block 1 (.region [⟨some 16,.mov (.tmp 0),none⟩,
 ⟨some 17,.slc 0 (.tmp 16) (some (.const (.int .i64 1))) none none,none⟩,⟨some 0,.mov (.tmp 17),none⟩]))))) (.seq (.block 2 (.loop (.seq (.seq (.region [⟨some 18,.mov (.tmp 0),none⟩,⟨some 19,.len true (.tmp 18),none⟩,
 ⟨some 20,.bin .gtr .no (.tmp 19) (.const (.int .i64 0)),none⟩,⟨some 21,.mov (.tmp 20),none⟩,⟨some 22,.mov (.tmp 0),some (21,true)⟩,⟨some 23,.mov (.tmp 0),some (21,true)⟩,⟨some 24,.len true (.tmp 23),some (21,true)⟩,
 ⟨some 25,.bin .sub .no (.tmp 24) (.const (.int .i64 1)),some (21,true)⟩,⟨some 26,.idxS (.tmp 22) (.tmp 25),some (21,true)⟩,⟨some 27,.bin .eql .no (.tmp 26) (.const (.b8 32)),some (21,true)⟩,⟨some 28,.mov (.tmp 27),some (21,true)⟩,
 ⟨some 29,.mov (.tmp 0),some (28,false)⟩,⟨some 30,.mov (.tmp 0),some (28,false)⟩,⟨some 31,.len true (.tmp 30),some (28,false)⟩,⟨some 32,.bin .sub .no (.tmp 31) (.const (.int .i64 1)),some (28,false)⟩,⟨some 33,.idxS (.tmp 29) (.tmp 32),some (28,false)⟩,
 ⟨some 34,.bin .eql .no (.tmp 33) (.const (.b8 9)),some (28,false)⟩,⟨some 35,.pick (.tmp 28) (.const (.bool true)) (.tmp 34),some (21,true)⟩,⟨some 36,.pick (.tmp 21) (.tmp 35) (.const (.bool false)),none⟩]) (.cond (.tmp 36) (.skip) (.exit 2))) (.block 3 (.region [⟨some 37,.mov (.tmp 0),none⟩,
 ⟨some 38,.mov (.tmp 0),none⟩,⟨some 39,.len true (.tmp 38),none⟩,⟨some 40,.bin .sub .no (.tmp 39) (.const (.int .i64 1)),none⟩,⟨some 41,.slc 0 (.tmp 37) none (some (.tmp 40)) none,none⟩,⟨some 0,.mov (.tmp 41),none⟩]))))) (.seq (.region [⟨some 42,.mov (.tmp 0),none⟩,
 ⟨some 2,.mov (.tmp 42),none⟩]) (.ret))))) }

/-- posthorn/posthornref06.Trim -/
def F_posthornref06_Trim : ACFn := { nt := 34,results := [.tmp 2],body := (.seq (.region [⟨some 2,.mov (.const (.str [])),none⟩]) (.seq (.region [⟨some 5,.mov (.tmp 0),none⟩,⟨some 6,.len true (.tmp 5),none⟩,⟨some 3,.mov (.const (.int .i64 0)),none⟩,
 ⟨some 4,.mov (.tmp 6),none⟩]) (.seq (.block 0 (.loop (.seq (.seq (.region [⟨some 7,.mov (.tmp 3),none⟩,⟨some 8,.mov (.tmp 4),none⟩,⟨some 9,.bin .lss .no (.tmp 7) (.tmp 8),none⟩,⟨some 10,.mov (.tmp 9),none⟩,
 ⟨some 11,.mov (.tmp 0),some (10,true)⟩,⟨some 12,.mov (.tmp 3),some (10,true)⟩,⟨some 13,.idxS (.tmp 11) (.tmp 12),some (10,true)⟩,⟨some 14,.call (.fn 173) [(.tmp 13)],some (10,true)⟩,⟨some 15,.pick (.tmp 10) (.tmp 14) (.const (.bool false)),none⟩]) (.cond (.tmp 15) (.skip) (.exit 0))) (.block 1 (.region [⟨some 16,.mov (.tmp 3),none⟩,
 ⟨some 17,.bin .add .no (.tmp 16) (.const (.int .i64 1)),none⟩,⟨some 3,.mov (.tmp 17),none⟩]))))) (.seq (.block 2 (.loop (.seq (.seq (.region [⟨some 18,.mov (.tmp 4),none⟩,⟨some 19,.mov (.tmp 3),none⟩,⟨some 20,.bin .gtr .no (.tmp 18) (.tmp 19),none⟩,
 ⟨some 21,.mov (.tmp 20),none⟩,⟨some 22,.mov (.tmp 0),some (21,true)⟩,⟨some 23,.mov (.tmp 4),some (21,true)⟩,⟨some 24,.bin .sub .no (.tmp 23) (.const (.int .i64 1)),some (21,true)⟩,⟨some 25,.idxS (.tmp 22) (.tmp 24),some (21,true)⟩,
 ⟨some 26,.call (.fn 173) [(.tmp 25)],some (21,true)⟩,⟨some 27,.pick (.tmp 21) (.tmp 26) (.const (.bool false)),none⟩]) (.cond (.tmp 27) (.skip) (.exit 2))) (.block 3 (.region [⟨some 28,.mov (.tmp 4),none⟩,
 ⟨some 29,.bin .sub .no (.tmp 28) (.const (.int .i64 1)),none⟩,⟨some 4,.mov (.tmp 29),none⟩]))))) (.seq (.region [⟨some 30,.mov (.tmp 0),none⟩,⟨some 31,.mov (.tmp 3),none⟩,⟨some 32,.mov (.tmp 4),none⟩,⟨some 33,.slc 0 (.tmp 30) (some (.tmp 31)) (some (.tmp 32)) none,none⟩,
 ⟨some 2,.mov (.tmp 33),none⟩]) (.ret)))))) }

/-- posthorn/posthornref06.blank -/
def F_posthornref06_blank : ACFn := { nt := 9,results := [.tmp 2],body := (.seq (.region [⟨some 2,.mov (.const (.bool false)),none⟩]) (.seq (.region [⟨some 3,.mov (.tmp 0),none⟩,⟨some 4,.bin .eql .no (.tmp 3) (.const (.b8 32)),none⟩,⟨some 5,.mov (.tmp 4),none⟩,
 ⟨some 6,.mov (.tmp 0),some (5,false)⟩,⟨some 7,.bin .eql .no (.tmp 6) (.const (.b8 9)),some (5,false)⟩,⟨some 8,.pick (.tmp 5) (.const (.bool true)) (.tmp 7),none⟩,⟨some 2,.mov (.tmp 8),none⟩]) (.ret))) }

end Go.Ab

/-
  The abstract code of functions, printed by program (abgen.py, abput2.py).
-/
namespace Go.Ab

/-- posthorn/posthornref04.Parts -/
def F_posthornref04_Parts : ACFn := { nt := 35,results := [.tmp 4],body := (.seq (.region [⟨some 4,.mov (.const (.nils)),none⟩]) (.seq (.region [⟨some 5,.mov (.const (.nils)),none⟩]) (.seq (.region [⟨some 6,.mov (.const (.int .i64 0)),none⟩]) (.seq (.seq (.region [⟨some 7,.mov (.const (.int .i64 0)),none⟩]) (.block 0 (.loop (.seq (.seq (.region [⟨some 8,.mov (.tmp 7),none⟩,
 ⟨some 9,.mov (.tmp 0),none⟩,⟨some 10,.len true (.tmp 9),none⟩,⟨some 11,.bin .leq .no (.tmp 8) (.tmp 10),none⟩]) (.cond (.tmp 11) (.skip) (.exit 0))) (.seq (.block 1 (.seq (.region [⟨some 14,.mov (.tmp 7),none⟩,
 ⟨some 15,.mov (.tmp 0),none⟩,⟨some 16,.len true (.tmp 15),none⟩,⟨some 17,.bin .eql .no (.tmp 14) (.tmp 16),none⟩,⟨some 18,.mov (.tmp 17),none⟩,⟨some 19,.mov (.tmp 0),some (18,false)⟩,⟨some 20,.mov (.tmp 7),some (18,false)⟩,
 ⟨some 21,.idxS (.tmp 19) (.tmp 20),some (18,false)⟩,⟨some 22,.mov (.tmp 1),some (18,false)⟩,⟨some 23,.bin .eql .no (.tmp 21) (.tmp 22),some (18,false)⟩,⟨some 24,.pick (.tmp 18) (.const (.bool true)) (.tmp 23),none⟩]) (.cond (.tmp 24) (.seq (.region [⟨some 25,.mov (.tmp 5),none⟩,
 ⟨some 26,.mov (.tmp 0),none⟩,⟨some 27,.mov (.tmp 6),none⟩,⟨some 28,.mov (.tmp 7),none⟩,⟨some 29,.slc 0 (.tmp 26) (some (.tmp 27)) (some (.tmp 28)) none,none⟩,⟨some 30,.lit 1 (.str []) 1 [(0,(.tmp 29))],none⟩,
 ⟨some 31,.app false 1 (.tmp 25) (.tmp 30),none⟩,⟨some 5,.mov (.tmp 31),none⟩]) (.region [⟨some 32,.mov (.tmp 7),none⟩,⟨some 33,.bin .add .no (.tmp 32) (.const (.int .i64 1)),none⟩,⟨some 6,.mov (.tmp 33),none⟩])) (.skip)))) (.region [⟨some 12,.mov (.tmp 7),none⟩,
 ⟨some 13,.bin .add .no (.tmp 12) (.const (.int .i64 1)),none⟩,⟨some 7,.mov (.tmp 13),none⟩])))))) (.seq (.region [⟨some 34,.mov (.tmp 5),none⟩,⟨some 4,.mov (.tmp 34),none⟩]) (.ret)))))) }

end Go.Ab

/-
  The abstract code of functions, printed by program (abgen.py, abput2.py).
-/
namespace Go.Ab

/-- posthorn/addr.Right -/
def F_addr_Right : ACFn := { nt := 28,results := [.tmp 2],body := (.seq (.region [⟨some 1,.box (.tmp 0),none⟩,⟨some 2,.mov (.const (.bool false)),none⟩]) (.seq (.region [⟨some 3,.faddr 1 (.tmp 1),none⟩,⟨some 4,.load false 1 (.tmp 3),none⟩,
 ⟨some 5,.len true (.tmp 4),none⟩,⟨some 6,.bin .leq .no (.tmp 5) (.const (.int .i64 64)),none⟩,⟨some 7,.mov (.tmp 6),none⟩,⟨some 8,.faddr 1 (.tmp 1),some (7,true)⟩,⟨some 9,.load false 1 (.tmp 8),some (7,true)⟩,
 ⟨some 10,.call (.fn 124) [(.tmp 9),(.const (.str [46])),(.fn 125)],some (7,true)⟩,⟨some 11,.pick (.tmp 7) (.tmp 10) (.const (.bool false)),none⟩,⟨some 12,.mov (.tmp 11),none⟩,⟨some 13,.faddr 2 (.tmp 1),some (12,true)⟩,
 ⟨some 14,.load false 1 (.tmp 13),some (12,true)⟩,⟨some 15,.len true (.tmp 14),some (12,true)⟩,⟨some 16,.bin .leq .no (.tmp 15) (.const (.int .i64 253)),some (12,true)⟩,⟨some 17,.pick (.tmp 12) (.tmp 16) (.const (.bool false)),none⟩,
 ⟨some 18,.mov (.tmp 17),none⟩,⟨some 19,.faddr 2 (.tmp 1),some (18,true)⟩,⟨some 20,.load false 1 (.tmp 19),some (18,true)⟩,⟨some 21,.call (.fn 124) [(.tmp 20),(.const (.str [46])),(.fn 126)],some (18,true)⟩,
 ⟨some 22,.pick (.tmp 18) (.tmp 21) (.const (.bool false)),none⟩,⟨some 23,.mov (.tmp 22),none⟩,⟨some 24,.faddr 0 (.tmp 1),some (23,true)⟩,⟨some 25,.load false 1 (.tmp 24),some (23,true)⟩,⟨some 26,.call (.fn 127) [(.tmp 25)],some (23,true)⟩,
 ⟨some 27,.pick (.tmp 23) (.tmp 26) (.const (.bool false)),none⟩,⟨some 2,.mov (.tmp 27),none⟩]) (.ret))) }

/-- posthorn/addr.Plain -/
def F_addr_Plain : ACFn := { nt := 22,results := [.cell 2 true 3,.tmp 3],body := (.seq (.region [⟨some 2,.alloc [.str [],.str [],.str []],none⟩,⟨some 3,.mov (.const (.int .i64 0)),none⟩]) (.seq (.region [⟨some 9,.mov (.tmp 0),none⟩,
 ⟨some 10,.call (.fn 128) [(.tmp 9),(.const (.str [64]))],none⟩,⟨some 8,.mov (.tmp 10),none⟩,⟨some 11,.ext 0 (.tmp 8),none⟩,⟨some 12,.ext 1 (.tmp 8),none⟩,⟨some 13,.ext 2 (.tmp 8),none⟩,⟨some 4,.mov (.tmp 11),none⟩,
 ⟨some 5,.mov (.tmp 12),none⟩,⟨some 6,.mov (.tmp 13),none⟩]) (.seq (.region [⟨some 14,.mov (.tmp 4),none⟩,⟨some 15,.mov (.tmp 5),none⟩,⟨some 16,.build [.str [],.str [],.str []] [(1,1,(.tmp 14)),(2,1,(.tmp 15))],none⟩,
 ⟨some 7,.alloc [.str [],.str [],.str []],none⟩,⟨none,.store 3 (.tmp 7) (.tmp 16),none⟩]) (.seq (.seq (.region [⟨some 17,.load true 3 (.tmp 7),none⟩,⟨some 18,.call (.fn 111) [(.tmp 17)],none⟩,⟨some 19,.un .not (.tmp 18),none⟩]) (.cond (.tmp 19) (.seq (.region [⟨some 20,.build [.str [],.str [],.str []] [],none⟩,
 ⟨none,.store 3 (.tmp 2) (.tmp 20),none⟩,⟨some 3,.mov (.const (.int .i64 60)),none⟩]) (.ret)) (.skip))) (.seq (.region [⟨some 21,.load true 3 (.tmp 7),none⟩,⟨none,.store 3 (.tmp 2) (.tmp 21),none⟩,⟨some 3,.mov (.const (.int .i64 0)),none⟩]) (.ret)))))) }

/-- posthorn/addr.parts -/
def F_addr_parts : ACFn := { nt := 22,results := [.tmp 6],body := (.seq (.region [⟨some 6,.mov (.const (.bool false)),none⟩]) (.seq (.seq (.region [⟨some 9,.mov (.tmp 0),none⟩,⟨some 10,.mov (.tmp 1),none⟩,⟨some 11,.call (.fn 133) [(.tmp 9),(.tmp 10)],none⟩,
 ⟨some 12,.len false (.tmp 11),none⟩,⟨some 13,.mov (.const (.int .i64 0)),none⟩]) (.block 0 (.loop (.seq (.region [⟨some 14,.bin .lss .no (.tmp 13) (.tmp 12),none⟩]) (.seq (.cond (.tmp 14) (.skip) (.exit 0)) (.seq (.block 1 (.seq (.region [⟨some 15,.iaddr 1 (.tmp 11) (.tmp 13),none⟩,
 ⟨some 16,.load false 1 (.tmp 15),none⟩,⟨some 8,.mov (.tmp 16),none⟩]) (.seq (.region [⟨some 17,.mov (.tmp 2),none⟩,⟨some 18,.mov (.tmp 8),none⟩,⟨some 19,.call (.tmp 17) [(.tmp 18)],none⟩,⟨some 20,.un .not (.tmp 19),none⟩]) (.cond (.tmp 20) (.seq (.region [⟨some 6,.mov (.const (.bool false)),none⟩]) (.ret)) (.skip))))) (.region [⟨some 21,.bin .add .no (.tmp 13) (.const (.int .i64 1)),none⟩,
 ⟨some 13,.mov (.tmp 21),none⟩]))))))) (.seq (.region [⟨some 6,.mov (.const (.bool true)),none⟩]) (.ret)))) }

/-- posthorn/addr.isAtom -/
def F_addr_isAtom : ACFn := { nt := 24,results := [.tmp 2],body := (.seq (.region [⟨some 2,.mov (.const (.bool false)),none⟩]) (.seq (.seq (.region [⟨some 4,.mov (.tmp 0),none⟩,⟨some 5,.len true (.tmp 4),none⟩,⟨some 6,.mov (.const (.int .i64 0)),none⟩]) (.block 0 (.loop (.seq (.region [⟨some 7,.bin .lss .no (.tmp 6) (.tmp 5),none⟩]) (.seq (.cond (.tmp 7) (.skip) (.exit 0)) (.seq (.block 1 (.seq (.region [⟨some 8,.mov (.tmp 6),none⟩,
 ⟨some 3,.mov (.tmp 8),none⟩]) (.seq (.region [⟨some 9,.mov (.tmp 0),none⟩,⟨some 10,.mov (.tmp 3),none⟩,⟨some 11,.idxS (.tmp 9) (.tmp 10),none⟩,⟨some 12,.call (.fn 134) [(.tmp 11)],none⟩,⟨some 13,.un .not (.tmp 12),none⟩,
 ⟨some 14,.mov (.tmp 13),none⟩,⟨some 15,.mov (.tmp 0),some (14,true)⟩,⟨some 16,.mov (.tmp 3),some (14,true)⟩,⟨some 17,.idxS (.tmp 15) (.tmp 16),some (14,true)⟩,⟨some 18,.call (.fn 78) [(.const (.str [33,35,36,37,38,39,42,43,45,47,61,63,94,95,123,124,125,126,96])),(.tmp 17)],some (14,true)⟩,
 ⟨some 19,.bin .lss .no (.tmp 18) (.const (.int .i64 0)),some (14,true)⟩,⟨some 20,.pick (.tmp 14) (.tmp 19) (.const (.bool false)),none⟩]) (.cond (.tmp 20) (.seq (.region [⟨some 2,.mov (.const (.bool false)),none⟩]) (.ret)) (.skip))))) (.region [⟨some 21,.bin .add .no (.tmp 6) (.const (.int .i64 1)),none⟩,
 ⟨some 6,.mov (.tmp 21),none⟩]))))))) (.seq (.region [⟨some 22,.mov (.tmp 0),none⟩,⟨some 23,.bin .neq .no (.tmp 22) (.const (.str [])),none⟩,⟨some 2,.mov (.tmp 23),none⟩]) (.ret)))) }

/-- posthorn/addr.isLabel -/
def F_addr_isLabel : ACFn := { nt := 41,results := [.tmp 2],body := (.seq (.region [⟨some 2,.mov (.const (.bool false)),none⟩]) (.seq (.seq (.region [⟨some 4,.mov (.tmp 0),none⟩,⟨some 5,.len true (.tmp 4),none⟩,⟨some 6,.mov (.const (.int .i64 0)),none⟩]) (.block 0 (.loop (.seq (.region [⟨some 7,.bin .lss .no (.tmp 6) (.tmp 5),none⟩]) (.seq (.cond (.tmp 7) (.skip) (.exit 0)) (.seq (.block 1 (.seq (.region [⟨some 8,.mov (.tmp 6),none⟩,
 ⟨some 3,.mov (.tmp 8),none⟩]) (.seq (.region [⟨some 9,.mov (.tmp 0),none⟩,⟨some 10,.mov (.tmp 3),none⟩,⟨some 11,.idxS (.tmp 9) (.tmp 10),none⟩,⟨some 12,.call (.fn 134) [(.tmp 11)],none⟩,⟨some 13,.un .not (.tmp 12),none⟩,
 ⟨some 14,.mov (.tmp 13),none⟩,⟨some 15,.mov (.tmp 0),some (14,true)⟩,⟨some 16,.mov (.tmp 3),some (14,true)⟩,⟨some 17,.idxS (.tmp 15) (.tmp 16),some (14,true)⟩,⟨some 18,.bin .neq .no (.tmp 17) (.const (.b8 45)),some (14,true)⟩,
 ⟨some 19,.pick (.tmp 14) (.tmp 18) (.const (.bool false)),none⟩]) (.cond (.tmp 19) (.seq (.region [⟨some 2,.mov (.const (.bool false)),none⟩]) (.ret)) (.skip))))) (.region [⟨some 20,.bin .add .no (.tmp 6) (.const (.int .i64 1)),none⟩,
 ⟨some 6,.mov (.tmp 20),none⟩]))))))) (.seq (.region [⟨some 21,.mov (.tmp 0),none⟩,⟨some 22,.bin .neq .no (.tmp 21) (.const (.str [])),none⟩,⟨some 23,.mov (.tmp 22),none⟩,⟨some 24,.mov (.tmp 0),some (23,true)⟩,
 ⟨some 25,.len true (.tmp 24),some (23,true)⟩,⟨some 26,.bin .leq .no (.tmp 25) (.const (.int .i64 63)),some (23,true)⟩,⟨some 27,.pick (.tmp 23) (.tmp 26) (.const (.bool false)),none⟩,⟨some 28,.mov (.tmp 27),none⟩,
 ⟨some 29,.mov (.tmp 0),some (28,true)⟩,⟨some 30,.idxS (.tmp 29) (.const (.int .i64 0)),some (28,true)⟩,⟨some 31,.bin .neq .no (.tmp 30) (.const (.b8 45)),some (28,true)⟩,⟨some 32,.pick (.tmp 28) (.tmp 31) (.const (.bool false)),none⟩,
 ⟨some 33,.mov (.tmp 32),none⟩,⟨some 34,.mov (.tmp 0),some (33,true)⟩,⟨some 35,.mov (.tmp 0),some (33,true)⟩,⟨some 36,.len true (.tmp 35),some (33,true)⟩,⟨some 37,.bin .sub .no (.tmp 36) (.const (.int .i64 1)),some (33,true)⟩,
 ⟨some 38,.idxS (.tmp 34) (.tmp 37),some (33,true)⟩,⟨some 39,.bin .neq .no (.tmp 38) (.const (.b8 45)),some (33,true)⟩,⟨some 40,.pick (.tmp 33) (.tmp 39) (.const (.bool false)),none⟩,⟨some 2,.mov (.tmp 40),none⟩]) (.ret)))) }

/-- posthorn/addr.isName -/
def F_addr_isName : ACFn := { nt := 23,results := [.tmp 2],body := (.seq (.region [⟨some 2,.mov (.const (.bool false)),none⟩]) (.seq (.seq (.region [⟨some 4,.mov (.tmp 0),none⟩,⟨some 5,.len true (.tmp 4),none⟩,⟨some 6,.mov (.const (.int .i64 0)),none⟩]) (.block 0 (.loop (.seq (.region [⟨some 7,.bin .lss .no (.tmp 6) (.tmp 5),none⟩]) (.seq (.cond (.tmp 7) (.skip) (.exit 0)) (.seq (.block 1 (.seq (.region [⟨some 8,.mov (.tmp 6),none⟩,
 ⟨some 3,.mov (.tmp 8),none⟩]) (.seq (.region [⟨some 9,.mov (.tmp 0),none⟩,⟨some 10,.mov (.tmp 3),none⟩,⟨some 11,.idxS (.tmp 9) (.tmp 10),none⟩,⟨some 12,.bin .lss .no (.tmp 11) (.const (.b8 32)),none⟩,⟨some 13,.mov (.tmp 12),none⟩,
 ⟨some 14,.mov (.tmp 0),some (13,false)⟩,⟨some 15,.mov (.tmp 3),some (13,false)⟩,⟨some 16,.idxS (.tmp 14) (.tmp 15),some (13,false)⟩,⟨some 17,.bin .gtr .no (.tmp 16) (.const (.b8 126)),some (13,false)⟩,
 ⟨some 18,.pick (.tmp 13) (.const (.bool true)) (.tmp 17),none⟩]) (.cond (.tmp 18) (.seq (.region [⟨some 2,.mov (.const (.bool false)),none⟩]) (.ret)) (.skip))))) (.region [⟨some 19,.bin .add .no (.tmp 6) (.const (.int .i64 1)),none⟩,
 ⟨some 6,.mov (.tmp 19),none⟩]))))))) (.seq (.region [⟨some 20,.mov (.tmp 0),none⟩,⟨some 21,.len true (.tmp 20),none⟩,⟨some 22,.bin .leq .no (.tmp 21) (.const (.int .i64 128)),none⟩,⟨some 2,.mov (.tmp 22),none⟩]) (.ret)))) }

/-- posthorn/addr.alnum -/
def F_addr_alnum : ACFn := { nt := 24,results := [.tmp 2],body := (.seq (.region [⟨some 2,.mov (.const (.bool false)),none⟩]) (.seq (.block 0 (.seq (.block 3 (.block 2 (.block 1 (.seq (.seq (.seq (.region [⟨some 4,.mov (.tmp 0),none⟩,
 ⟨some 5,.bin .geq .no (.tmp 4) (.const (.b8 97)),none⟩,⟨some 6,.mov (.tmp 5),none⟩,⟨some 7,.mov (.tmp 0),some (6,true)⟩,⟨some 8,.bin .leq .no (.tmp 7) (.const (.b8 122)),some (6,true)⟩,⟨some 9,.pick (.tmp 6) (.tmp 8) (.const (.bool false)),none⟩,
 ⟨some 3,.mov (.tmp 9),none⟩]) (.cond (.tmp 3) (.exit 1) (.skip))) (.seq (.seq (.region [⟨some 11,.mov (.tmp 0),none⟩,⟨some 12,.bin .geq .no (.tmp 11) (.const (.b8 65)),none⟩,⟨some 13,.mov (.tmp 12),none⟩,
 ⟨some 14,.mov (.tmp 0),some (13,true)⟩,⟨some 15,.bin .leq .no (.tmp 14) (.const (.b8 90)),some (13,true)⟩,⟨some 16,.pick (.tmp 13) (.tmp 15) (.const (.bool false)),none⟩,⟨some 10,.mov (.tmp 16),none⟩]) (.cond (.tmp 10) (.exit 2) (.skip))) (.seq (.region [⟨some 18,.mov (.tmp 0),none⟩,
 ⟨some 19,.bin .geq .no (.tmp 18) (.const (.b8 48)),none⟩,⟨some 20,.mov (.tmp 19),none⟩,⟨some 21,.mov (.tmp 0),some (20,true)⟩,⟨some 22,.bin .leq .no (.tmp 21) (.const (.b8 57)),some (20,true)⟩,⟨some 23,.pick (.tmp 20) (.tmp 22) (.const (.bool false)),none⟩,
 ⟨some 17,.mov (.tmp 23),none⟩]) (.cond (.tmp 17) (.exit 3) (.skip))))) (.exit 0))))) (.seq (.seq (.region [⟨some 2,.mov (.const (.bool true)),none⟩]) (.ret)) (.exit 0)))) (.seq (.region [⟨some 2,.mov (.const (.bool false)),none⟩]) (.ret)))) }

/-- posthorn/when.Right -/
def F_when_Right : ACFn := { nt := 9,results := [.tmp 2],body := (.seq (.region [⟨some 2,.mov (.const (.bool false)),none⟩]) (.seq (.region [⟨some 3,.mov (.tmp 0),none⟩,⟨some 4,.bin .geq .no (.tmp 3) (.const (.int .i64 0)),none⟩,
 ⟨some 5,.mov (.tmp 4),none⟩,⟨some 6,.mov (.tmp 0),some (5,true)⟩,⟨some 7,.bin .leq .no (.tmp 6) (.const (.int .i64 253402300799)),some (5,true)⟩,⟨some 8,.pick (.tmp 5) (.tmp 7) (.const (.bool false)),none⟩,
 ⟨some 2,.mov (.tmp 8),none⟩]) (.ret))) }

/-- posthorn/posthornref12.Time -/
def F_posthornref12_Time : ACFn := { nt := 9,results := [.tmp 2],body := (.seq (.region [⟨some 2,.mov (.const (.bool false)),none⟩]) (.seq (.region [⟨some 3,.mov (.tmp 0),none⟩,⟨some 4,.bin .geq .no (.tmp 3) (.const (.int .i64 0)),none⟩,
 ⟨some 5,.mov (.tmp 4),none⟩,⟨some 6,.mov (.tmp 0),some (5,true)⟩,⟨some 7,.bin .lss .no (.tmp 6) (.const (.int .i64 253402300800)),some (5,true)⟩,⟨some 8,.pick (.tmp 5) (.tmp 7) (.const (.bool false)),none⟩,
 ⟨some 2,.mov (.tmp 8),none⟩]) (.ret))) }

/-- posthorn/posthornref07.Atom -/
def F_posthornref07_Atom : ACFn := { nt := 27,results := [.tmp 2],body := (.seq (.region [⟨some 2,.mov (.const (.bool false)),none⟩]) (.seq (.seq (.region [⟨some 3,.mov (.const (.int .i64 0)),none⟩]) (.block 0 (.loop (.seq (.seq (.region [⟨some 4,.mov (.tmp 3),none⟩,
 ⟨some 5,.mov (.tmp 0),none⟩,⟨some 6,.len true (.tmp 5),none⟩,⟨some 7,.bin .lss .no (.tmp 4) (.tmp 6),none⟩]) (.cond (.tmp 7) (.skip) (.exit 0))) (.seq (.block 1 (.seq (.region [⟨some 10,.mov (.tmp 0),none⟩,
 ⟨some 11,.mov (.tmp 3),none⟩,⟨some 12,.idxS (.tmp 10) (.tmp 11),none⟩,⟨some 13,.call (.fn 220) [(.tmp 12)],none⟩,⟨some 14,.un .not (.tmp 13),none⟩,⟨some 15,.mov (.tmp 14),none⟩,⟨some 16,.mov (.tmp 0),some (15,true)⟩,
 ⟨some 17,.mov (.tmp 3),some (15,true)⟩,⟨some 18,.mov (.tmp 3),some (15,true)⟩,⟨some 19,.bin .add .no (.tmp 18) (.const (.int .i64 1)),some (15,true)⟩,⟨some 20,.slc 0 (.tmp 16) (some (.tmp 17)) (some (.tmp 19)) none,some (15,true)⟩,
 ⟨some 21,.call (.fn 56) [(.const (.str [33,35,36,37,38,39,42,43,45,47,61,63,94,95,123,124,125,126,96])),(.tmp 20)],some (15,true)⟩,⟨some 22,.un .not (.tmp 21),some (15,true)⟩,⟨some 23,.pick (.tmp 15) (.tmp 22) (.const (.bool false)),none⟩]) (.cond (.tmp 23) (.seq (.region [⟨some 2,.mov (.const (.bool false)),none⟩]) (.ret)) (.skip)))) (.region [⟨some 8,.mov (.tmp 3),none⟩,
 ⟨some 9,.bin .add .no (.tmp 8) (.const (.int .i64 1)),none⟩,⟨some 3,.mov (.tmp 9),none⟩])))))) (.seq (.region [⟨some 24,.mov (.tmp 0),none⟩,⟨some 25,.len true (.tmp 24),none⟩,⟨some 26,.bin .gtr .no (.tmp 25) (.const (.int .i64 0)),none⟩,
 ⟨some 2,.mov (.tmp 26),none⟩]) (.ret)))) }

/-- posthorn/posthornref07.Letter -/
def F_posthornref07_Letter : ACFn := { nt := 25,results := [.tmp 2],body := (.seq (.region [⟨some 2,.mov (.const (.bool false)),none⟩]) (.seq (.region [⟨some 3,.mov (.tmp 0),none⟩,⟨some 4,.bin .geq .no (.tmp 3) (.const (.b8 48)),none⟩,⟨some 5,.mov (.tmp 4),none⟩,
 ⟨some 6,.mov (.tmp 0),some (5,true)⟩,⟨some 7,.bin .leq .no (.tmp 6) (.const (.b8 57)),some (5,true)⟩,⟨some 8,.pick (.tmp 5) (.tmp 7) (.const (.bool false)),none⟩,⟨some 9,.mov (.tmp 8),none⟩,⟨some 10,.mov (.tmp 0),some (9,false)⟩,
 ⟨some 11,.bin .geq .no (.tmp 10) (.const (.b8 65)),some (9,false)⟩,⟨some 12,.mov (.tmp 11),some (9,false)⟩,⟨some 13,.mov (.tmp 0),some (12,true)⟩,⟨some 14,.bin .leq .no (.tmp 13) (.const (.b8 90)),some (12,true)⟩,
 ⟨some 15,.pick (.tmp 12) (.tmp 14) (.const (.bool false)),some (9,false)⟩,⟨some 16,.pick (.tmp 9) (.const (.bool true)) (.tmp 15),none⟩,⟨some 17,.mov (.tmp 16),none⟩,⟨some 18,.mov (.tmp 0),some (17,false)⟩,
 ⟨some 19,.bin .geq .no (.tmp 18) (.const (.b8 97)),some (17,false)⟩,⟨some 20,.mov (.tmp 19),some (17,false)⟩,⟨some 21,.mov (.tmp 0),some (20,true)⟩,⟨some 22,.bin .leq .no (.tmp 21) (.const (.b8 122)),some (20,true)⟩,
 ⟨some 23,.pick (.tmp 20) (.tmp 22) (.const (.bool false)),some (17,false)⟩,⟨some 24,.pick (.tmp 17) (.const (.bool true)) (.tmp 23),none⟩,⟨some 2,.mov (.tmp 24),none⟩]) (.ret))) }

/-- posthorn/date.Print -/
def F_date_Print : ACFn := { nt := 101,results := [.tmp 4,.tmp 5],body := (.seq (.region [⟨some 4,.mov (.const (.str [])),none⟩,⟨some 5,.mov (.const (.int .i64 0)),none⟩]) (.seq (.seq (.region [⟨some 16,.mov (.tmp 0),none⟩,⟨some 17,.call (.fn 199) [(.tmp 16)],none⟩,
 ⟨some 18,.un .not (.tmp 17),none⟩,⟨some 19,.mov (.tmp 18),none⟩,⟨some 20,.mov (.tmp 1),some (19,false)⟩,⟨some 21,.call (.fn 274) [(.tmp 20)],some (19,false)⟩,⟨some 22,.un .not (.tmp 21),some (19,false)⟩,
 ⟨some 23,.pick (.tmp 19) (.const (.bool true)) (.tmp 22),none⟩,⟨some 24,.mov (.tmp 23),none⟩,⟨some 25,.mov (.tmp 0),some (24,false)⟩,⟨some 26,.mov (.tmp 1),some (24,false)⟩,⟨some 27,.bin .add .no (.tmp 25) (.tmp 26),some (24,false)⟩,
 ⟨some 28,.call (.fn 199) [(.tmp 27)],some (24,false)⟩,⟨some 29,.un .not (.tmp 28),some (24,false)⟩,⟨some 30,.pick (.tmp 24) (.const (.bool true)) (.tmp 29),none⟩]) (.cond (.tmp 30) (.seq (.region [⟨some 4,.mov (.const (.str [])),none⟩,
 ⟨some 5,.mov (.const (.int .i64 110)),none⟩]) (.ret)) (.skip))) (.seq (.region [⟨some 31,.mov (.tmp 0),none⟩,⟨some 32,.mov (.tmp 1),none⟩,⟨some 33,.bin .add .no (.tmp 31) (.tmp 32),none⟩,⟨some 6,.mov (.tmp 33),none⟩]) (.seq (.region [⟨some 35,.mov (.tmp 6),none⟩,
 ⟨some 36,.bin .quo .no (.tmp 35) (.const (.int .i64 86400)),none⟩,⟨some 37,.call (.fn 275) [(.tmp 36)],none⟩,⟨some 34,.mov (.tmp 37),none⟩,⟨some 38,.ext 0 (.tmp 34),none⟩,⟨some 39,.ext 1 (.tmp 34),none⟩,
 ⟨some 40,.ext 2 (.tmp 34),none⟩,⟨some 41,.ext 3 (.tmp 34),none⟩,⟨some 7,.mov (.tmp 38),none⟩,⟨some 8,.mov (.tmp 39),none⟩,⟨some 9,.mov (.tmp 40),none⟩,⟨some 10,.mov (.tmp 41),none⟩]) (.seq (.region [⟨some 43,.mov (.tmp 6),none⟩,
 ⟨some 44,.bin .quo .no (.tmp 43) (.const (.int .i64 86400)),none⟩,⟨some 45,.call (.fn 258) [(.tmp 44)],none⟩,⟨some 42,.mov (.tmp 45),none⟩,⟨some 46,.ext 0 (.tmp 42),none⟩,⟨some 47,.ext 1 (.tmp 42),none⟩,
 ⟨some 11,.mov (.tmp 46),none⟩,⟨some 12,.mov (.tmp 47),none⟩]) (.seq (.region [⟨some 48,.mov (.tmp 6),none⟩,⟨some 49,.bin .rem .no (.tmp 48) (.const (.int .i64 86400)),none⟩,⟨some 13,.mov (.tmp 49),none⟩]) (.seq (.region [⟨some 14,.mov (.const (.str [43])),none⟩]) (.seq (.seq (.region [⟨some 50,.mov (.tmp 1),none⟩,
 ⟨some 51,.bin .lss .no (.tmp 50) (.const (.int .i64 0)),none⟩]) (.cond (.tmp 51) (.region [⟨some 52,.mov (.tmp 1),none⟩,⟨some 53,.un .neg (.tmp 52),none⟩,⟨some 14,.mov (.const (.str [45])),none⟩,⟨some 1,.mov (.tmp 53),none⟩]) (.skip))) (.seq (.region [⟨some 54,.mov (.tmp 13),none⟩,
 ⟨some 55,.bin .quo .no (.tmp 54) (.const (.int .i64 3600)),none⟩,⟨some 56,.call (.fn 276) [(.tmp 55)],none⟩,⟨some 57,.bin .add .no (.tmp 56) (.const (.str [58])),none⟩,⟨some 58,.mov (.tmp 13),none⟩,⟨some 59,.bin .quo .no (.tmp 58) (.const (.int .i64 60)),none⟩,
 ⟨some 60,.bin .rem .no (.tmp 59) (.const (.int .i64 60)),none⟩,⟨some 61,.call (.fn 276) [(.tmp 60)],none⟩,⟨some 62,.bin .add .no (.tmp 57) (.tmp 61),none⟩,⟨some 63,.bin .add .no (.tmp 62) (.const (.str [58])),none⟩,
 ⟨some 64,.mov (.tmp 13),none⟩,⟨some 65,.bin .rem .no (.tmp 64) (.const (.int .i64 60)),none⟩,⟨some 66,.call (.fn 276) [(.tmp 65)],none⟩,⟨some 67,.bin .add .no (.tmp 63) (.tmp 66),none⟩,⟨some 15,.mov (.tmp 67),none⟩]) (.seq (.region [⟨some 68,.mov (.tmp 11),none⟩,
 ⟨some 69,.call (.fn 277) [(.tmp 68)],none⟩,⟨some 70,.bin .add .no (.tmp 69) (.const (.str [44,32])),none⟩,⟨some 71,.mov (.tmp 9),none⟩,⟨some 72,.call (.fn 276) [(.tmp 71)],none⟩,⟨some 73,.bin .add .no (.tmp 70) (.tmp 72),none⟩,
 ⟨some 74,.bin .add .no (.tmp 73) (.const (.str [32])),none⟩,⟨some 75,.mov (.tmp 8),none⟩,⟨some 76,.call (.fn 278) [(.tmp 75)],none⟩,⟨some 77,.bin .add .no (.tmp 74) (.tmp 76),none⟩,⟨some 78,.bin .add .no (.tmp 77) (.const (.str [32])),none⟩,
 ⟨some 79,.mov (.tmp 7),none⟩,⟨some 80,.bin .quo .no (.tmp 79) (.const (.int .i64 100)),none⟩,⟨some 81,.call (.fn 276) [(.tmp 80)],none⟩,⟨some 82,.bin .add .no (.tmp 78) (.tmp 81),none⟩,⟨some 83,.mov (.tmp 7),none⟩,
 ⟨some 84,.call (.fn 276) [(.tmp 83)],none⟩,⟨some 85,.bin .add .no (.tmp 82) (.tmp 84),none⟩,⟨some 86,.bin .add .no (.tmp 85) (.const (.str [32])),none⟩,⟨some 87,.mov (.tmp 15),none⟩,⟨some 88,.bin .add .no (.tmp 86) (.tmp 87),none⟩,
 ⟨some 89,.bin .add .no (.tmp 88) (.const (.str [32])),none⟩,⟨some 90,.mov (.tmp 14),none⟩,⟨some 91,.bin .add .no (.tmp 89) (.tmp 90),none⟩,⟨some 92,.mov (.tmp 1),none⟩,⟨some 93,.bin .quo .no (.tmp 92) (.const (.int .i64 3600)),none⟩,
 ⟨some 94,.call (.fn 276) [(.tmp 93)],none⟩,⟨some 95,.bin .add .no (.tmp 91) (.tmp 94),none⟩,⟨some 96,.mov (.tmp 1),none⟩,⟨some 97,.bin .quo .no (.tmp 96) (.const (.int .i64 60)),none⟩,⟨some 98,.bin .rem .no (.tmp 97) (.const (.int .i64 60)),none⟩,
 ⟨some 99,.call (.fn 276) [(.tmp 98)],none⟩,⟨some 100,.bin .add .no (.tmp 95) (.tmp 99),none⟩,⟨some 4,.mov (.tmp 100),none⟩,⟨some 5,.mov (.const (.int .i64 0)),none⟩]) (.ret))))))))))) }

/-- posthorn/posthornref20.Print -/
def F_posthornref20_Print : ACFn := { nt := 111,results := [.tmp 4,.tmp 5],body := (.seq (.region [⟨some 4,.mov (.const (.str [])),none⟩,⟨some 5,.mov (.const (.int .i64 0)),none⟩]) (.seq (.seq (.region [⟨some 16,.mov (.tmp 0),none⟩,⟨some 17,.call (.fn 209) [(.tmp 16)],none⟩,
 ⟨some 18,.un .not (.tmp 17),none⟩,⟨some 19,.mov (.tmp 18),none⟩,⟨some 20,.mov (.tmp 1),some (19,false)⟩,⟨some 21,.call (.fn 279) [(.tmp 20)],some (19,false)⟩,⟨some 22,.un .not (.tmp 21),some (19,false)⟩,
 ⟨some 23,.pick (.tmp 19) (.const (.bool true)) (.tmp 22),none⟩,⟨some 24,.mov (.tmp 23),none⟩,⟨some 25,.mov (.tmp 0),some (24,false)⟩,⟨some 26,.mov (.tmp 1),some (24,false)⟩,⟨some 27,.bin .add .no (.tmp 25) (.tmp 26),some (24,false)⟩,
 ⟨some 28,.call (.fn 209) [(.tmp 27)],some (24,false)⟩,⟨some 29,.un .not (.tmp 28),some (24,false)⟩,⟨some 30,.pick (.tmp 24) (.const (.bool true)) (.tmp 29),none⟩]) (.cond (.tmp 30) (.seq (.region [⟨some 4,.mov (.const (.str [])),none⟩,
 ⟨some 5,.mov (.const (.int .i64 110)),none⟩]) (.ret)) (.skip))) (.seq (.region [⟨some 31,.mov (.tmp 0),none⟩,⟨some 32,.mov (.tmp 1),none⟩,⟨some 33,.bin .add .no (.tmp 31) (.tmp 32),none⟩,⟨some 34,.bin .quo .no (.tmp 33) (.const (.int .i64 86400)),none⟩,
 ⟨some 35,.mov (.tmp 0),none⟩,⟨some 36,.mov (.tmp 1),none⟩,⟨some 37,.bin .add .no (.tmp 35) (.tmp 36),none⟩,⟨some 38,.bin .rem .no (.tmp 37) (.const (.int .i64 86400)),none⟩,⟨some 6,.mov (.tmp 34),none⟩,
 ⟨some 7,.mov (.tmp 38),none⟩]) (.seq (.region [⟨some 40,.mov (.tmp 6),none⟩,⟨some 41,.call (.fn 280) [(.tmp 40)],none⟩,⟨some 39,.mov (.tmp 41),none⟩,⟨some 42,.ext 0 (.tmp 39),none⟩,⟨some 43,.ext 1 (.tmp 39),none⟩,
 ⟨some 44,.ext 2 (.tmp 39),none⟩,⟨some 45,.ext 3 (.tmp 39),none⟩,⟨some 8,.mov (.tmp 42),none⟩,⟨some 9,.mov (.tmp 43),none⟩,⟨some 10,.mov (.tmp 44),none⟩,⟨some 11,.mov (.tmp 45),none⟩]) (.seq (.region [⟨some 47,.mov (.tmp 6),none⟩,
 ⟨some 48,.call (.fn 259) [(.tmp 47)],none⟩,⟨some 46,.mov (.tmp 48),none⟩,⟨some 49,.ext 0 (.tmp 46),none⟩,⟨some 50,.ext 1 (.tmp 46),none⟩,⟨some 12,.mov (.tmp 49),none⟩,⟨some 13,.mov (.tmp 50),none⟩]) (.seq (.region [⟨some 51,.mov (.tmp 12),none⟩,
 ⟨some 52,.call (.fn 281) [(.tmp 51)],none⟩,⟨some 53,.bin .add .no (.tmp 52) (.const (.str [44,32])),none⟩,⟨some 54,.mov (.tmp 10),none⟩,⟨some 55,.call (.fn 282) [(.tmp 54),(.const (.int .i64 2))],none⟩,
 ⟨some 56,.bin .add .no (.tmp 53) (.tmp 55),none⟩,⟨some 57,.bin .add .no (.tmp 56) (.const (.str [32])),none⟩,⟨some 58,.mov (.tmp 9),none⟩,⟨some 59,.call (.fn 283) [(.tmp 58)],none⟩,⟨some 60,.bin .add .no (.tmp 57) (.tmp 59),none⟩,
 ⟨some 61,.bin .add .no (.tmp 60) (.const (.str [32])),none⟩,⟨some 62,.mov (.tmp 8),none⟩,⟨some 63,.call (.fn 282) [(.tmp 62),(.const (.int .i64 4))],none⟩,⟨some 64,.bin .add .no (.tmp 61) (.tmp 63),none⟩,
 ⟨some 14,.mov (.tmp 64),none⟩]) (.seq (.region [⟨some 65,.mov (.tmp 14),none⟩,⟨some 66,.bin .add .no (.tmp 65) (.const (.str [32])),none⟩,⟨some 67,.mov (.tmp 7),none⟩,⟨some 68,.bin .quo .no (.tmp 67) (.const (.int .i64 3600)),none⟩,
 ⟨some 69,.call (.fn 282) [(.tmp 68),(.const (.int .i64 2))],none⟩,⟨some 70,.bin .add .no (.tmp 66) (.tmp 69),none⟩,⟨some 71,.bin .add .no (.tmp 70) (.const (.str [58])),none⟩,⟨some 72,.mov (.tmp 7),none⟩,
 ⟨some 73,.bin .rem .no (.tmp 72) (.const (.int .i64 3600)),none⟩,⟨some 74,.bin .quo .no (.tmp 73) (.const (.int .i64 60)),none⟩,⟨some 75,.call (.fn 282) [(.tmp 74),(.const (.int .i64 2))],none⟩,⟨some 76,.bin .add .no (.tmp 71) (.tmp 75),none⟩,
 ⟨some 77,.bin .add .no (.tmp 76) (.const (.str [58])),none⟩,⟨some 78,.mov (.tmp 7),none⟩,⟨some 79,.bin .rem .no (.tmp 78) (.const (.int .i64 60)),none⟩,⟨some 80,.call (.fn 282) [(.tmp 79),(.const (.int .i64 2))],none⟩,
 ⟨some 81,.bin .add .no (.tmp 77) (.tmp 80),none⟩,⟨some 14,.mov (.tmp 81),none⟩]) (.seq (.region [⟨some 82,.mov (.tmp 1),none⟩,⟨some 15,.mov (.tmp 82),none⟩]) (.seq (.seq (.region [⟨some 83,.mov (.tmp 15),none⟩,
 ⟨some 84,.bin .lss .no (.tmp 83) (.const (.int .i64 0)),none⟩]) (.cond (.tmp 84) (.seq (.region [⟨some 85,.mov (.tmp 14),none⟩,⟨some 86,.bin .add .no (.tmp 85) (.const (.str [32,45])),none⟩,⟨some 87,.mov (.tmp 15),none⟩,
 ⟨some 88,.un .neg (.tmp 87),none⟩,⟨some 89,.bin .quo .no (.tmp 88) (.const (.int .i64 3600)),none⟩,⟨some 90,.call (.fn 282) [(.tmp 89),(.const (.int .i64 2))],none⟩,⟨some 91,.bin .add .no (.tmp 86) (.tmp 90),none⟩,
 ⟨some 92,.mov (.tmp 15),none⟩,⟨some 93,.un .neg (.tmp 92),none⟩,⟨some 94,.bin .rem .no (.tmp 93) (.const (.int .i64 3600)),none⟩,⟨some 95,.bin .quo .no (.tmp 94) (.const (.int .i64 60)),none⟩,⟨some 96,.call (.fn 282) [(.tmp 95),(.const (.int .i64 2))],none⟩,
 ⟨some 97,.bin .add .no (.tmp 91) (.tmp 96),none⟩,⟨some 98,.mov (.tmp 11),none⟩,⟨some 4,.mov (.tmp 97),none⟩,⟨some 5,.mov (.tmp 98),none⟩]) (.ret)) (.skip))) (.seq (.region [⟨some 99,.mov (.tmp 14),none⟩,
 ⟨some 100,.bin .add .no (.tmp 99) (.const (.str [32,43])),none⟩,⟨some 101,.mov (.tmp 15),none⟩,⟨some 102,.bin .quo .no (.tmp 101) (.const (.int .i64 3600)),none⟩,⟨some 103,.call (.fn 282) [(.tmp 102),(.const (.int .i64 2))],none⟩,
 ⟨some 104,.bin .add .no (.tmp 100) (.tmp 103),none⟩,⟨some 105,.mov (.tmp 15),none⟩,⟨some 106,.bin .rem .no (.tmp 105) (.const (.int .i64 3600)),none⟩,⟨some 107,.bin .quo .no (.tmp 106) (.const (.int .i64 60)),none⟩,
 ⟨some 108,.call (.fn 282) [(.tmp 107),(.const (.int .i64 2))],none⟩,⟨some 109,.bin .add .no (.tmp 104) (.tmp 108),none⟩,⟨some 110,.mov (.tmp 11),none⟩,⟨some 4,.mov (.tmp 109),none⟩,⟨some 5,.mov (.tmp 110),none⟩]) (.ret))))))))))) }

/-- posthorn/date.Weekday -/
def F_date_Weekday : ACFn := { nt := 13,results := [.tmp 2,.tmp 3],body := (.seq (.region [⟨some 2,.mov (.const (.int .i64 0)),none⟩,⟨some 3,.mov (.const (.int .i64 0)),none⟩]) (.seq (.seq (.region [⟨some 4,.mov (.tmp 0),none⟩,⟨some 5,.bin .lss .no (.tmp 4) (.const (.int .i64 0)),none⟩,
 ⟨some 6,.mov (.tmp 5),none⟩,⟨some 7,.mov (.tmp 0),some (6,false)⟩,⟨some 8,.bin .gtr .no (.tmp 7) (.const (.int .i64 2932896)),some (6,false)⟩,⟨some 9,.pick (.tmp 6) (.const (.bool true)) (.tmp 8),none⟩]) (.cond (.tmp 9) (.seq (.region [⟨some 2,.mov (.const (.int .i64 0)),none⟩,
 ⟨some 3,.mov (.const (.int .i64 110)),none⟩]) (.ret)) (.skip))) (.seq (.region [⟨some 10,.mov (.tmp 0),none⟩,⟨some 11,.bin .add .no (.tmp 10) (.const (.int .i64 3)),none⟩,⟨some 12,.bin .rem .no (.tmp 11) (.const (.int .i64 7)),none⟩,
 ⟨some 2,.mov (.tmp 12),none⟩,⟨some 3,.mov (.const (.int .i64 0)),none⟩]) (.ret)))) }

/-- posthorn/posthornref20.Weekday -/
def F_posthornref20_Weekday : ACFn := { nt := 19,results := [.tmp 2,.tmp 3],body := (.seq (.region [⟨some 2,.mov (.const (.int .i64 0)),none⟩,⟨some 3,.mov (.const (.int .i64 0)),none⟩]) (.seq (.seq (.region [⟨some 5,.mov (.tmp 0),none⟩,⟨some 6,.bin .lss .no (.tmp 5) (.const (.int .i64 0)),none⟩,
 ⟨some 7,.mov (.tmp 6),none⟩,⟨some 8,.mov (.tmp 0),some (7,false)⟩,⟨some 9,.bin .gtr .no (.tmp 8) (.const (.int .i64 2932896)),some (7,false)⟩,⟨some 10,.pick (.tmp 7) (.const (.bool true)) (.tmp 9),none⟩]) (.cond (.tmp 10) (.seq (.region [⟨some 2,.mov (.const (.int .i64 0)),none⟩,
 ⟨some 3,.mov (.const (.int .i64 110)),none⟩]) (.ret)) (.skip))) (.seq (.region [⟨some 11,.mov (.tmp 0),none⟩,⟨some 12,.bin .rem .no (.tmp 11) (.const (.int .i64 7)),none⟩,⟨some 4,.mov (.tmp 12),none⟩]) (.seq (.seq (.region [⟨some 13,.mov (.tmp 4),none⟩,
 ⟨some 14,.bin .lss .no (.tmp 13) (.const (.int .i64 4)),none⟩]) (.cond (.tmp 14) (.seq (.region [⟨some 15,.mov (.tmp 4),none⟩,⟨some 16,.bin .add .no (.tmp 15) (.const (.int .i64 3)),none⟩,⟨some 2,.mov (.tmp 16),none⟩,
 ⟨some 3,.mov (.const (.int .i64 0)),none⟩]) (.ret)) (.skip))) (.seq (.region [⟨some 17,.mov (.tmp 4),none⟩,⟨some 18,.bin .sub .no (.tmp 17) (.const (.int .i64 4)),none⟩,⟨some 2,.mov (.tmp 18),none⟩,⟨some 3,.mov (.const (.int .i64 0)),none⟩]) (.ret)))))) }

/-- posthorn/posthornlaw20.alive -/
def F_posthornlaw20_alive : ACFn := { nt := 57,results := [.tmp 0],body := (.seq (.region [⟨some 0,.mov (.const (.bool false)),none⟩]) (.seq (.region [⟨some 11,.call (.fn 256) [(.const (.int .i64 0)),(.const (.int .i64 3600))],none⟩,⟨some 10,.mov (.tmp 11),none⟩,
 ⟨some 12,.ext 0 (.tmp 10),none⟩,⟨some 13,.ext 1 (.tmp 10),none⟩,⟨some 1,.mov (.tmp 12),none⟩,⟨some 2,.mov (.tmp 13),none⟩]) (.seq (.region [⟨some 15,.call (.fn 262) [(.const (.str [116,104,117,32,44,32,49,32,74,65,78,32,55,48,32,48,49,58,48,48,32,40,120,41,32,43,48,49,48,48]))],none⟩,
 ⟨some 14,.mov (.tmp 15),none⟩,⟨some 16,.ext 0 (.tmp 14),none⟩,⟨some 17,.ext 1 (.tmp 14),none⟩,⟨some 18,.ext 2 (.tmp 14),none⟩,⟨some 3,.mov (.tmp 16),none⟩,⟨some 4,.mov (.tmp 17),none⟩,⟨some 5,.mov (.tmp 18),none⟩]) (.seq (.region [⟨some 20,.call (.fn 265) [(.const (.int .i64 33)),(.const (.int .i64 1)),(.const (.str [120]))],none⟩,
 ⟨some 19,.mov (.tmp 20),none⟩,⟨some 21,.ext 0 (.tmp 19),none⟩,⟨some 22,.ext 1 (.tmp 19),none⟩,⟨some 6,.mov (.tmp 21),none⟩,⟨some 7,.mov (.tmp 22),none⟩]) (.seq (.region [⟨some 24,.call (.fn 267) [(.const (.str [60,97,64,98,62,32,99]))],none⟩,
 ⟨some 23,.mov (.tmp 24),none⟩,⟨some 25,.ext 0 (.tmp 23),none⟩,⟨some 26,.ext 1 (.tmp 23),none⟩,⟨some 8,.mov (.tmp 25),none⟩,⟨some 9,.mov (.tmp 26),none⟩]) (.seq (.region [⟨some 27,.mov (.tmp 1),none⟩,⟨some 28,.bin .eql .no (.tmp 27) (.const (.str [84,104,117,44,32,48,49,32,74,97,110,32,49,57,55,48,32,48,49,58,48,48,58,48,48,32,43,48,49,48,48])),none⟩,
 ⟨some 29,.mov (.tmp 28),none⟩,⟨some 30,.mov (.tmp 2),some (29,true)⟩,⟨some 31,.bin .eql .no (.tmp 30) (.const (.int .i64 0)),some (29,true)⟩,⟨some 32,.pick (.tmp 29) (.tmp 31) (.const (.bool false)),none⟩,
 ⟨some 33,.mov (.tmp 32),none⟩,⟨some 34,.mov (.tmp 3),some (33,true)⟩,⟨some 35,.bin .eql .no (.tmp 34) (.const (.int .i64 0)),some (33,true)⟩,⟨some 36,.pick (.tmp 33) (.tmp 35) (.const (.bool false)),none⟩,
 ⟨some 37,.mov (.tmp 36),none⟩,⟨some 38,.mov (.tmp 4),some (37,true)⟩,⟨some 39,.bin .eql .no (.tmp 38) (.const (.int .i64 3600)),some (37,true)⟩,⟨some 40,.pick (.tmp 37) (.tmp 39) (.const (.bool false)),none⟩,
 ⟨some 41,.mov (.tmp 40),none⟩,⟨some 42,.mov (.tmp 5),some (41,true)⟩,⟨some 43,.bin .eql .no (.tmp 42) (.const (.int .i64 0)),some (41,true)⟩,⟨some 44,.pick (.tmp 41) (.tmp 43) (.const (.bool false)),none⟩,
 ⟨some 45,.mov (.tmp 44),none⟩,⟨some 46,.mov (.tmp 6),some (45,true)⟩,⟨some 47,.bin .eql .no (.tmp 46) (.const (.str [60,49,49,46,49,64,120,62])),some (45,true)⟩,⟨some 48,.pick (.tmp 45) (.tmp 47) (.const (.bool false)),none⟩,
 ⟨some 49,.mov (.tmp 48),none⟩,⟨some 50,.mov (.tmp 7),some (49,true)⟩,⟨some 51,.bin .eql .no (.tmp 50) (.const (.int .i64 0)),some (49,true)⟩,⟨some 52,.pick (.tmp 49) (.tmp 51) (.const (.bool false)),none⟩,
 ⟨some 53,.mov (.tmp 52),none⟩,⟨some 54,.mov (.tmp 9),some (53,true)⟩,⟨some 55,.bin .eql .no (.tmp 54) (.const (.int .i64 3)),some (53,true)⟩,⟨some 56,.pick (.tmp 53) (.tmp 55) (.const (.bool false)),none⟩,
 ⟨some 0,.mov (.tmp 56),none⟩]) (.ret))))))) }

/-- posthorn/posthornlaw20.DatePrints -/
def F_posthornlaw20_DatePrints : ACFn := { nt := 58,results := [.tmp 6],body := (.seq (.region [⟨some 6,.mov (.const (.bool false)),none⟩]) (.seq (.region [⟨some 16,.mov (.tmp 0),none⟩,⟨some 17,.mov (.tmp 1),none⟩,⟨some 18,.call (.fn 256) [(.tmp 16),(.tmp 17)],none⟩,
 ⟨some 15,.mov (.tmp 18),none⟩,⟨some 19,.ext 0 (.tmp 15),none⟩,⟨some 20,.ext 1 (.tmp 15),none⟩,⟨some 7,.mov (.tmp 19),none⟩,⟨some 8,.mov (.tmp 20),none⟩]) (.seq (.region [⟨some 22,.mov (.tmp 0),none⟩,⟨some 23,.mov (.tmp 1),none⟩,
 ⟨some 24,.call (.fn 257) [(.tmp 22),(.tmp 23)],none⟩,⟨some 21,.mov (.tmp 24),none⟩,⟨some 25,.ext 0 (.tmp 21),none⟩,⟨some 26,.ext 1 (.tmp 21),none⟩,⟨some 9,.mov (.tmp 25),none⟩,⟨some 10,.mov (.tmp 26),none⟩]) (.seq (.region [⟨some 28,.mov (.tmp 2),none⟩,
 ⟨some 29,.call (.fn 258) [(.tmp 28)],none⟩,⟨some 27,.mov (.tmp 29),none⟩,⟨some 30,.ext 0 (.tmp 27),none⟩,⟨some 31,.ext 1 (.tmp 27),none⟩,⟨some 11,.mov (.tmp 30),none⟩,⟨some 12,.mov (.tmp 31),none⟩]) (.seq (.region [⟨some 33,.mov (.tmp 2),none⟩,
 ⟨some 34,.call (.fn 259) [(.tmp 33)],none⟩,⟨some 32,.mov (.tmp 34),none⟩,⟨some 35,.ext 0 (.tmp 32),none⟩,⟨some 36,.ext 1 (.tmp 32),none⟩,⟨some 13,.mov (.tmp 35),none⟩,⟨some 14,.mov (.tmp 36),none⟩]) (.seq (.region [⟨some 37,.call (.fn 260) [],none⟩,
 ⟨some 38,.mov (.tmp 37),none⟩,⟨some 39,.mov (.tmp 7),some (38,true)⟩,⟨some 40,.mov (.tmp 9),some (38,true)⟩,⟨some 41,.bin .eql .no (.tmp 39) (.tmp 40),some (38,true)⟩,⟨some 42,.pick (.tmp 38) (.tmp 41) (.const (.bool false)),none⟩,
 ⟨some 43,.mov (.tmp 42),none⟩,⟨some 44,.mov (.tmp 8),some (43,true)⟩,⟨some 45,.mov (.tmp 10),some (43,true)⟩,⟨some 46,.bin .eql .no (.tmp 44) (.tmp 45),some (43,true)⟩,⟨some 47,.pick (.tmp 43) (.tmp 46) (.const (.bool false)),none⟩,
 ⟨some 48,.mov (.tmp 47),none⟩,⟨some 49,.mov (.tmp 11),some (48,true)⟩,⟨some 50,.mov (.tmp 13),some (48,true)⟩,⟨some 51,.bin .eql .no (.tmp 49) (.tmp 50),some (48,true)⟩,⟨some 52,.pick (.tmp 48) (.tmp 51) (.const (.bool false)),none⟩,
 ⟨some 53,.mov (.tmp 52),none⟩,⟨some 54,.mov (.tmp 12),some (53,true)⟩,⟨some 55,.mov (.tmp 14),some (53,true)⟩,⟨some 56,.bin .eql .no (.tmp 54) (.tmp 55),some (53,true)⟩,⟨some 57,.pick (.tmp 53) (.tmp 56) (.const (.bool false)),none⟩,
 ⟨some 6,.mov (.tmp 57),none⟩]) (.ret))))))) }

/-- posthorn/date.Parse -/
def F_date_Parse : ACFn := { nt := 114,results := [.tmp 2,.tmp 3,.tmp 4],body := (.seq (.region [⟨some 2,.mov (.const (.int .i64 0)),none⟩,⟨some 3,.mov (.const (.int .i64 0)),none⟩,⟨some 4,.mov (.const (.int .i64 0)),none⟩]) (.seq (.region [⟨some 5,.alloc [.nils],none⟩]) (.seq (.seq (.region [⟨some 20,.mov (.tmp 0),none⟩,
 ⟨some 21,.call (.fn 284) [(.tmp 20)],none⟩,⟨some 22,.call (.fn 285) [(.tmp 21)],none⟩]) (.block 0 (.rangeFunc (.tmp 22) [23] (.region [⟨some 6,.mov (.tmp 23),none⟩]) (.block 1 (.region [⟨some 24,.load false 1 (.tmp 5),none⟩,
 ⟨some 25,.mov (.tmp 6),none⟩,⟨some 26,.lit 1 (.str []) 1 [(0,(.tmp 25))],none⟩,⟨some 27,.app false 1 (.tmp 24) (.tmp 26),none⟩,⟨none,.store 1 (.tmp 5) (.tmp 27),none⟩]))))) (.seq (.region [⟨some 29,.load false 1 (.tmp 5),none⟩,
 ⟨some 30,.call (.fn 286) [(.tmp 29)],none⟩,⟨some 28,.mov (.tmp 30),none⟩,⟨some 31,.ext 0 (.tmp 28),none⟩,⟨some 32,.ext 1 (.tmp 28),none⟩,⟨some 7,.mov (.tmp 31),none⟩,⟨none,.store 1 (.tmp 5) (.tmp 32),none⟩]) (.seq (.seq (.region [⟨some 33,.mov (.tmp 7),none⟩,
 ⟨some 34,.bin .eql .no (.tmp 33) (.const (.int .i64 (-2))),none⟩,⟨some 35,.mov (.tmp 34),none⟩,⟨some 36,.load false 1 (.tmp 5),some (35,false)⟩,⟨some 37,.len false (.tmp 36),some (35,false)⟩,⟨some 38,.bin .lss .no (.tmp 37) (.const (.int .i64 4)),some (35,false)⟩,
 ⟨some 39,.pick (.tmp 35) (.const (.bool true)) (.tmp 38),none⟩,⟨some 40,.mov (.tmp 39),none⟩,⟨some 41,.load false 1 (.tmp 5),some (40,false)⟩,⟨some 42,.len false (.tmp 41),some (40,false)⟩,⟨some 43,.bin .gtr .no (.tmp 42) (.const (.int .i64 5)),some (40,false)⟩,
 ⟨some 44,.pick (.tmp 40) (.const (.bool true)) (.tmp 43),none⟩]) (.cond (.tmp 44) (.seq (.region [⟨some 2,.mov (.const (.int .i64 0)),none⟩,⟨some 3,.mov (.const (.int .i64 0)),none⟩,⟨some 4,.mov (.const (.int .i64 110)),none⟩]) (.ret)) (.skip))) (.seq (.region [⟨some 45,.load false 1 (.tmp 5),none⟩,
 ⟨some 46,.iaddr 1 (.tmp 45) (.const (.int .i64 0)),none⟩,⟨some 47,.loadc false 1 (.tmp 46),none⟩,⟨some 48,.callk (.fn 287) [(.tmp 47),(.const (.int .i64 1)),(.const (.int .i64 2))],none⟩,⟨some 49,.load false 1 (.tmp 5),none⟩,
 ⟨some 50,.iaddr 1 (.tmp 49) (.const (.int .i64 1)),none⟩,⟨some 51,.loadc false 1 (.tmp 50),none⟩,⟨some 52,.callk (.fn 288) [(.tmp 51),(.const (.int .i64 13)),(.fn 278)],none⟩,⟨some 53,.load false 1 (.tmp 5),none⟩,
 ⟨some 54,.iaddr 1 (.tmp 53) (.const (.int .i64 2)),none⟩,⟨some 55,.loadc false 1 (.tmp 54),none⟩,⟨some 56,.callk (.fn 289) [(.tmp 55)],none⟩,⟨some 57,.load false 1 (.tmp 5),none⟩,⟨some 58,.iaddr 1 (.tmp 57) (.const (.int .i64 3)),none⟩,
 ⟨some 59,.loadc false 1 (.tmp 58),none⟩,⟨some 60,.callk (.fn 290) [(.tmp 59)],none⟩,⟨some 8,.mov (.tmp 48),none⟩,⟨some 9,.mov (.tmp 52),none⟩,⟨some 10,.mov (.tmp 56),none⟩,⟨some 11,.mov (.tmp 60),none⟩]) (.seq (.region [⟨some 12,.mov (.const (.str [])),none⟩]) (.seq (.seq (.region [⟨some 61,.load false 1 (.tmp 5),none⟩,
 ⟨some 62,.len false (.tmp 61),none⟩,⟨some 63,.bin .eql .no (.tmp 62) (.const (.int .i64 5)),none⟩]) (.cond (.tmp 63) (.region [⟨some 64,.load false 1 (.tmp 5),none⟩,⟨some 65,.iaddr 1 (.tmp 64) (.const (.int .i64 4)),none⟩,
 ⟨some 66,.loadc false 1 (.tmp 65),none⟩,⟨some 12,.mov (.tmp 66),none⟩]) (.skip))) (.seq (.region [⟨some 68,.mov (.tmp 12),none⟩,⟨some 69,.call (.fn 291) [(.tmp 68)],none⟩,⟨some 67,.mov (.tmp 69),none⟩,
 ⟨some 70,.ext 0 (.tmp 67),none⟩,⟨some 71,.ext 1 (.tmp 67),none⟩,⟨some 13,.mov (.tmp 70),none⟩,⟨some 14,.mov (.tmp 71),none⟩]) (.seq (.region [⟨some 73,.mov (.tmp 10),none⟩,⟨some 74,.mov (.tmp 9),none⟩,
 ⟨some 75,.mov (.tmp 8),none⟩,⟨some 76,.call (.fn 292) [(.tmp 73),(.tmp 74),(.tmp 75)],none⟩,⟨some 72,.mov (.tmp 76),none⟩,⟨some 77,.ext 0 (.tmp 72),none⟩,⟨some 78,.ext 1 (.tmp 72),none⟩,⟨some 15,.mov (.tmp 77),none⟩,
 ⟨some 16,.mov (.tmp 78),none⟩]) (.seq (.region [⟨some 79,.mov (.tmp 15),none⟩,⟨some 80,.bin .mul .no (.tmp 79) (.const (.int .i64 86400)),none⟩,⟨some 81,.mov (.tmp 11),none⟩,⟨some 82,.bin .add .no (.tmp 80) (.tmp 81),none⟩,
 ⟨some 83,.mov (.tmp 13),none⟩,⟨some 84,.bin .sub .no (.tmp 82) (.tmp 83),none⟩,⟨some 17,.mov (.tmp 84),none⟩]) (.seq (.seq (.region [⟨some 85,.mov (.tmp 16),none⟩,⟨some 86,.bin .neq .no (.tmp 85) (.const (.int .i64 0)),none⟩,
 ⟨some 87,.mov (.tmp 86),none⟩,⟨some 88,.mov (.tmp 11),some (87,false)⟩,⟨some 89,.bin .lss .no (.tmp 88) (.const (.int .i64 0)),some (87,false)⟩,⟨some 90,.pick (.tmp 87) (.const (.bool true)) (.tmp 89),none⟩,
 ⟨some 91,.mov (.tmp 90),none⟩,⟨some 92,.mov (.tmp 14),some (91,false)⟩,⟨some 93,.un .not (.tmp 92),some (91,false)⟩,⟨some 94,.pick (.tmp 91) (.const (.bool true)) (.tmp 93),none⟩,⟨some 95,.mov (.tmp 94),none⟩,
 ⟨some 96,.mov (.tmp 17),some (95,false)⟩,⟨some 97,.call (.fn 199) [(.tmp 96)],some (95,false)⟩,⟨some 98,.un .not (.tmp 97),some (95,false)⟩,⟨some 99,.pick (.tmp 95) (.const (.bool true)) (.tmp 98),none⟩]) (.cond (.tmp 99) (.seq (.region [⟨some 2,.mov (.const (.int .i64 0)),none⟩,
 ⟨some 3,.mov (.const (.int .i64 0)),none⟩,⟨some 4,.mov (.const (.int .i64 110)),none⟩]) (.ret)) (.skip))) (.seq (.seq (.region [⟨some 101,.mov (.tmp 15),none⟩,⟨some 102,.call (.fn 258) [(.tmp 101)],none⟩,
 ⟨some 100,.mov (.tmp 102),none⟩,⟨some 103,.ext 0 (.tmp 100),none⟩,⟨some 104,.ext 1 (.tmp 100),none⟩,⟨some 18,.mov (.tmp 103),none⟩,⟨some 19,.mov (.tmp 104),none⟩]) (.seq (.region [⟨some 105,.mov (.tmp 7),none⟩,
 ⟨some 106,.bin .geq .no (.tmp 105) (.const (.int .i64 0)),none⟩,⟨some 107,.mov (.tmp 106),none⟩,⟨some 108,.mov (.tmp 18),some (107,true)⟩,⟨some 109,.mov (.tmp 7),some (107,true)⟩,⟨some 110,.bin .neq .no (.tmp 108) (.tmp 109),some (107,true)⟩,
 ⟨some 111,.pick (.tmp 107) (.tmp 110) (.const (.bool false)),none⟩]) (.cond (.tmp 111) (.seq (.region [⟨some 2,.mov (.const (.int .i64 0)),none⟩,⟨some 3,.mov (.const (.int .i64 0)),none⟩,⟨some 4,.mov (.const (.int .i64 110)),none⟩]) (.ret)) (.skip)))) (.seq (.region [⟨some 112,.mov (.tmp 17),none⟩,
 ⟨some 113,.mov (.tmp 13),none⟩,⟨some 2,.mov (.tmp 112),none⟩,⟨some 3,.mov (.tmp 113),none⟩,⟨some 4,.mov (.const (.int .i64 0)),none⟩]) (.ret))))))))))))))) }

/-- posthorn/posthornref20.Parse -/
def F_posthornref20_Parse : ACFn := { nt := 126,results := [.tmp 2,.tmp 3,.tmp 4],body := (.seq (.region [⟨some 2,.mov (.const (.int .i64 0)),none⟩,⟨some 3,.mov (.const (.int .i64 0)),none⟩,⟨some 4,.mov (.const (.int .i64 0)),none⟩]) (.seq (.region [⟨some 20,.mov (.tmp 0),none⟩,
 ⟨some 21,.call (.fn 293) [(.tmp 20)],none⟩,⟨some 19,.mov (.tmp 21),none⟩,⟨some 22,.ext 0 (.tmp 19),none⟩,⟨some 23,.ext 1 (.tmp 19),none⟩,⟨some 5,.mov (.tmp 22),none⟩,⟨some 6,.mov (.tmp 23),none⟩]) (.seq (.region [⟨some 25,.mov (.tmp 5),none⟩,
 ⟨some 26,.call (.fn 294) [(.tmp 25)],none⟩,⟨some 27,.call (.fn 295) [(.tmp 26)],none⟩,⟨some 24,.mov (.tmp 27),none⟩,⟨some 28,.ext 0 (.tmp 24),none⟩,⟨some 29,.ext 1 (.tmp 24),none⟩,⟨some 30,.ext 2 (.tmp 24),none⟩,
 ⟨some 7,.mov (.tmp 28),none⟩,⟨some 8,.mov (.tmp 29),none⟩,⟨some 9,.mov (.tmp 30),none⟩]) (.seq (.seq (.region [⟨some 31,.mov (.tmp 6),none⟩,⟨some 32,.un .not (.tmp 31),none⟩,⟨some 33,.mov (.tmp 32),none⟩,
 ⟨some 34,.mov (.tmp 9),some (33,false)⟩,⟨some 35,.un .not (.tmp 34),some (33,false)⟩,⟨some 36,.pick (.tmp 33) (.const (.bool true)) (.tmp 35),none⟩,⟨some 37,.mov (.tmp 36),none⟩,⟨some 38,.mov (.tmp 7),some (37,false)⟩,
 ⟨some 39,.len false (.tmp 38),some (37,false)⟩,⟨some 40,.bin .lss .no (.tmp 39) (.const (.int .i64 4)),some (37,false)⟩,⟨some 41,.pick (.tmp 37) (.const (.bool true)) (.tmp 40),none⟩,⟨some 42,.mov (.tmp 41),none⟩,
 ⟨some 43,.mov (.tmp 7),some (42,false)⟩,⟨some 44,.len false (.tmp 43),some (42,false)⟩,⟨some 45,.bin .gtr .no (.tmp 44) (.const (.int .i64 5)),some (42,false)⟩,⟨some 46,.pick (.tmp 42) (.const (.bool true)) (.tmp 45),none⟩]) (.cond (.tmp 46) (.seq (.region [⟨some 2,.mov (.const (.int .i64 0)),none⟩,
 ⟨some 3,.mov (.const (.int .i64 0)),none⟩,⟨some 4,.mov (.const (.int .i64 110)),none⟩]) (.ret)) (.skip))) (.seq (.seq (.region [⟨some 47,.mov (.tmp 7),none⟩,⟨some 48,.len false (.tmp 47),none⟩,⟨some 49,.bin .eql .no (.tmp 48) (.const (.int .i64 4)),none⟩]) (.cond (.tmp 49) (.region [⟨some 50,.mov (.tmp 7),none⟩,
 ⟨some 51,.lit 1 (.str []) 1 [(0,(.const (.str [71,77,84])))],none⟩,⟨some 52,.app false 1 (.tmp 50) (.tmp 51),none⟩,⟨some 7,.mov (.tmp 52),none⟩]) (.skip))) (.seq (.region [⟨some 53,.mov (.tmp 7),none⟩,
 ⟨some 54,.iaddr 1 (.tmp 53) (.const (.int .i64 0)),none⟩,⟨some 55,.loadc false 1 (.tmp 54),none⟩,⟨some 56,.mov (.tmp 7),none⟩,⟨some 57,.iaddr 1 (.tmp 56) (.const (.int .i64 0)),none⟩,⟨some 58,.loadc false 1 (.tmp 57),none⟩,
 ⟨some 59,.len true (.tmp 58),none⟩,⟨some 60,.call (.fn 296) [(.tmp 55),(.tmp 59)],none⟩,⟨some 10,.mov (.tmp 60),none⟩]) (.seq (.seq (.region [⟨some 61,.mov (.tmp 7),none⟩,⟨some 62,.iaddr 1 (.tmp 61) (.const (.int .i64 0)),none⟩,
 ⟨some 63,.loadc false 1 (.tmp 62),none⟩,⟨some 64,.len true (.tmp 63),none⟩,⟨some 65,.bin .gtr .no (.tmp 64) (.const (.int .i64 2)),none⟩]) (.cond (.tmp 65) (.region [⟨some 10,.mov (.const (.int .i64 (-1))),none⟩]) (.skip))) (.seq (.region [⟨some 67,.mov (.tmp 7),none⟩,
 ⟨some 68,.iaddr 1 (.tmp 67) (.const (.int .i64 2)),none⟩,⟨some 69,.loadc false 1 (.tmp 68),none⟩,⟨some 70,.call (.fn 297) [(.tmp 69)],none⟩,⟨some 71,.mov (.tmp 7),none⟩,⟨some 72,.iaddr 1 (.tmp 71) (.const (.int .i64 1)),none⟩,
 ⟨some 73,.loadc false 1 (.tmp 72),none⟩,⟨some 74,.call (.fn 298) [(.tmp 73)],none⟩,⟨some 75,.mov (.tmp 10),none⟩,⟨some 76,.call (.fn 299) [(.tmp 70),(.tmp 74),(.tmp 75)],none⟩,⟨some 66,.mov (.tmp 76),none⟩,
 ⟨some 77,.ext 0 (.tmp 66),none⟩,⟨some 78,.ext 1 (.tmp 66),none⟩,⟨some 11,.mov (.tmp 77),none⟩,⟨some 12,.mov (.tmp 78),none⟩]) (.seq (.region [⟨some 79,.mov (.tmp 7),none⟩,⟨some 80,.iaddr 1 (.tmp 79) (.const (.int .i64 3)),none⟩,
 ⟨some 81,.loadc false 1 (.tmp 80),none⟩,⟨some 82,.call (.fn 300) [(.tmp 81)],none⟩,⟨some 13,.mov (.tmp 82),none⟩]) (.seq (.region [⟨some 84,.mov (.tmp 7),none⟩,⟨some 85,.iaddr 1 (.tmp 84) (.const (.int .i64 4)),none⟩,
 ⟨some 86,.loadc false 1 (.tmp 85),none⟩,⟨some 87,.call (.fn 301) [(.tmp 86)],none⟩,⟨some 83,.mov (.tmp 87),none⟩,⟨some 88,.ext 0 (.tmp 83),none⟩,⟨some 89,.ext 1 (.tmp 83),none⟩,⟨some 14,.mov (.tmp 88),none⟩,
 ⟨some 15,.mov (.tmp 89),none⟩]) (.seq (.region [⟨some 90,.mov (.tmp 11),none⟩,⟨some 91,.bin .mul .no (.const (.int .i64 86400)) (.tmp 90),none⟩,⟨some 92,.mov (.tmp 13),none⟩,⟨some 93,.bin .add .no (.tmp 91) (.tmp 92),none⟩,
 ⟨some 94,.mov (.tmp 14),none⟩,⟨some 95,.bin .sub .no (.tmp 93) (.tmp 94),none⟩,⟨some 16,.mov (.tmp 95),none⟩]) (.seq (.seq (.region [⟨some 96,.mov (.tmp 12),none⟩,⟨some 97,.bin .neq .no (.tmp 96) (.const (.int .i64 0)),none⟩,
 ⟨some 98,.mov (.tmp 97),none⟩,⟨some 99,.mov (.tmp 13),some (98,false)⟩,⟨some 100,.bin .lss .no (.tmp 99) (.const (.int .i64 0)),some (98,false)⟩,⟨some 101,.pick (.tmp 98) (.const (.bool true)) (.tmp 100),none⟩,
 ⟨some 102,.mov (.tmp 101),none⟩,⟨some 103,.mov (.tmp 15),some (102,false)⟩,⟨some 104,.un .not (.tmp 103),some (102,false)⟩,⟨some 105,.pick (.tmp 102) (.const (.bool true)) (.tmp 104),none⟩,⟨some 106,.mov (.tmp 105),none⟩,
 ⟨some 107,.mov (.tmp 16),some (106,false)⟩,⟨some 108,.call (.fn 209) [(.tmp 107)],some (106,false)⟩,⟨some 109,.un .not (.tmp 108),some (106,false)⟩,⟨some 110,.pick (.tmp 106) (.const (.bool true)) (.tmp 109),none⟩]) (.cond (.tmp 110) (.seq (.region [⟨some 2,.mov (.const (.int .i64 0)),none⟩,
 ⟨some 3,.mov (.const (.int .i64 0)),none⟩,⟨some 4,.mov (.const (.int .i64 110)),none⟩]) (.ret)) (.skip))) (.seq (.region [⟨some 112,.mov (.tmp 11),none⟩,⟨some 113,.call (.fn 259) [(.tmp 112)],none⟩,⟨some 111,.mov (.tmp 113),none⟩,
 ⟨some 114,.ext 0 (.tmp 111),none⟩,⟨some 115,.ext 1 (.tmp 111),none⟩,⟨some 17,.mov (.tmp 114),none⟩,⟨some 18,.mov (.tmp 115),none⟩]) (.seq (.seq (.region [⟨some 116,.mov (.tmp 8),none⟩,⟨some 117,.bin .geq .no (.tmp 116) (.const (.int .i64 0)),none⟩,
 ⟨some 118,.mov (.tmp 117),none⟩,⟨some 119,.mov (.tmp 8),some (118,true)⟩,⟨some 120,.mov (.tmp 17),some (118,true)⟩,⟨some 121,.bin .neq .no (.tmp 119) (.tmp 120),some (118,true)⟩,⟨some 122,.pick (.tmp 118) (.tmp 121) (.const (.bool false)),none⟩]) (.cond (.tmp 122) (.seq (.region [⟨some 2,.mov (.const (.int .i64 0)),none⟩,
 ⟨some 3,.mov (.const (.int .i64 0)),none⟩,⟨some 4,.mov (.const (.int .i64 110)),none⟩]) (.ret)) (.skip))) (.seq (.region [⟨some 123,.mov (.tmp 16),none⟩,⟨some 124,.mov (.tmp 14),none⟩,⟨some 125,.mov (.tmp 12),none⟩,
 ⟨some 2,.mov (.tmp 123),none⟩,⟨some 3,.mov (.tmp 124),none⟩,⟨some 4,.mov (.tmp 125),none⟩]) (.ret)))))))))))))))) }

/-- posthorn/posthornlaw20.DateParses -/
def F_posthornlaw20_DateParses : ACFn := { nt := 41,results := [.tmp 2],body := (.seq (.region [⟨some 2,.mov (.const (.bool false)),none⟩]) (.seq (.seq (.region [⟨some 9,.mov (.tmp 0),none⟩,⟨some 10,.len true (.tmp 9),none⟩,⟨some 11,.bin .gtr .no (.tmp 10) (.const (.int .i64 500)),none⟩]) (.cond (.tmp 11) (.seq (.region [⟨some 12,.call (.fn 260) [],none⟩,
 ⟨some 2,.mov (.tmp 12),none⟩]) (.ret)) (.skip))) (.seq (.region [⟨some 14,.mov (.tmp 0),none⟩,⟨some 15,.call (.fn 262) [(.tmp 14)],none⟩,⟨some 13,.mov (.tmp 15),none⟩,⟨some 16,.ext 0 (.tmp 13),none⟩,⟨some 17,.ext 1 (.tmp 13),none⟩,
 ⟨some 18,.ext 2 (.tmp 13),none⟩,⟨some 3,.mov (.tmp 16),none⟩,⟨some 4,.mov (.tmp 17),none⟩,⟨some 5,.mov (.tmp 18),none⟩]) (.seq (.region [⟨some 20,.mov (.tmp 0),none⟩,⟨some 21,.call (.fn 263) [(.tmp 20)],none⟩,
 ⟨some 19,.mov (.tmp 21),none⟩,⟨some 22,.ext 0 (.tmp 19),none⟩,⟨some 23,.ext 1 (.tmp 19),none⟩,⟨some 24,.ext 2 (.tmp 19),none⟩,⟨some 6,.mov (.tmp 22),none⟩,⟨some 7,.mov (.tmp 23),none⟩,⟨some 8,.mov (.tmp 24),none⟩]) (.seq (.region [⟨some 25,.call (.fn 260) [],none⟩,
 ⟨some 26,.mov (.tmp 25),none⟩,⟨some 27,.mov (.tmp 3),some (26,true)⟩,⟨some 28,.mov (.tmp 6),some (26,true)⟩,⟨some 29,.bin .eql .no (.tmp 27) (.tmp 28),some (26,true)⟩,⟨some 30,.pick (.tmp 26) (.tmp 29) (.const (.bool false)),none⟩,
 ⟨some 31,.mov (.tmp 30),none⟩,⟨some 32,.mov (.tmp 4),some (31,true)⟩,⟨some 33,.mov (.tmp 7),some (31,true)⟩,⟨some 34,.bin .eql .no (.tmp 32) (.tmp 33),some (31,true)⟩,⟨some 35,.pick (.tmp 31) (.tmp 34) (.const (.bool false)),none⟩,
 ⟨some 36,.mov (.tmp 35),none⟩,⟨some 37,.mov (.tmp 5),some (36,true)⟩,⟨some 38,.mov (.tmp 8),some (36,true)⟩,⟨some 39,.bin .eql .no (.tmp 37) (.tmp 38),some (36,true)⟩,⟨some 40,.pick (.tmp 36) (.tmp 39) (.const (.bool false)),none⟩,
 ⟨some 2,.mov (.tmp 40),none⟩]) (.ret)))))) }

/-- posthorn/date.ID -/
def F_date_ID : ACFn := { nt := 33,results := [.tmp 6,.tmp 7],body := (.seq (.region [⟨some 6,.mov (.const (.str [])),none⟩,⟨some 7,.mov (.const (.int .i64 0)),none⟩]) (.seq (.seq (.region [⟨some 8,.mov (.tmp 0),none⟩,⟨some 9,.call (.fn 199) [(.tmp 8)],none⟩,
 ⟨some 10,.un .not (.tmp 9),none⟩,⟨some 11,.mov (.tmp 10),none⟩,⟨some 12,.mov (.tmp 1),some (11,false)⟩,⟨some 13,.bin .lss .no (.tmp 12) (.const (.int .i64 0)),some (11,false)⟩,⟨some 14,.pick (.tmp 11) (.const (.bool true)) (.tmp 13),none⟩,
 ⟨some 15,.mov (.tmp 14),none⟩,⟨some 16,.mov (.tmp 2),some (15,false)⟩,⟨some 17,.call (.fn 302) [(.tmp 16)],some (15,false)⟩,⟨some 18,.un .not (.tmp 17),some (15,false)⟩,⟨some 19,.pick (.tmp 15) (.const (.bool true)) (.tmp 18),none⟩]) (.cond (.tmp 19) (.seq (.region [⟨some 6,.mov (.const (.str [])),none⟩,
 ⟨some 7,.mov (.const (.int .i64 1)),none⟩]) (.ret)) (.skip))) (.seq (.region [⟨some 20,.mov (.tmp 0),none⟩,⟨some 21,.cInt .u64 (.tmp 20),none⟩,⟨some 22,.call (.fn 303) [(.tmp 21)],none⟩,⟨some 23,.bin .add .no (.const (.str [60])) (.tmp 22),none⟩,
 ⟨some 24,.bin .add .no (.tmp 23) (.const (.str [46])),none⟩,⟨some 25,.mov (.tmp 1),none⟩,⟨some 26,.cInt .u64 (.tmp 25),none⟩,⟨some 27,.call (.fn 303) [(.tmp 26)],none⟩,⟨some 28,.bin .add .no (.tmp 24) (.tmp 27),none⟩,
 ⟨some 29,.bin .add .no (.tmp 28) (.const (.str [64])),none⟩,⟨some 30,.mov (.tmp 2),none⟩,⟨some 31,.bin .add .no (.tmp 29) (.tmp 30),none⟩,⟨some 32,.bin .add .no (.tmp 31) (.const (.str [62])),none⟩,⟨some 6,.mov (.tmp 32),none⟩,
 ⟨some 7,.mov (.const (.int .i64 0)),none⟩]) (.ret)))) }

/-- posthorn/date.IDs -/
def F_date_IDs : ACFn := { nt := 60,results := [.tmp 2,.tmp 3],body := (.seq (.region [⟨some 2,.mov (.const (.nils)),none⟩,⟨some 3,.mov (.const (.int .i64 0)),none⟩]) (.seq (.region [⟨some 4,.mov (.const (.nils)),none⟩]) (.seq (.block 0 (.loop (.seq (.seq (.region [⟨some 12,.mov (.tmp 0),none⟩,
 ⟨some 13,.bin .neq .no (.tmp 12) (.const (.str [])),none⟩]) (.cond (.tmp 13) (.skip) (.exit 0))) (.block 1 (.seq (.seq (.region [⟨some 14,.mov (.tmp 0),none⟩,⟨some 15,.idxS (.tmp 14) (.const (.int .i64 0)),none⟩,
 ⟨some 16,.bin .eql .no (.tmp 15) (.const (.b8 32)),none⟩,⟨some 17,.mov (.tmp 16),none⟩,⟨some 18,.mov (.tmp 0),some (17,false)⟩,⟨some 19,.idxS (.tmp 18) (.const (.int .i64 0)),some (17,false)⟩,⟨some 20,.bin .eql .no (.tmp 19) (.const (.b8 9)),some (17,false)⟩,
 ⟨some 21,.pick (.tmp 17) (.const (.bool true)) (.tmp 20),none⟩]) (.cond (.tmp 21) (.seq (.region [⟨some 22,.mov (.tmp 0),none⟩,⟨some 23,.slc 0 (.tmp 22) (some (.const (.int .i64 1))) none none,none⟩,⟨some 0,.mov (.tmp 23),none⟩]) (.exit 1)) (.skip))) (.seq (.region [⟨some 25,.mov (.tmp 0),none⟩,
 ⟨some 26,.call (.fn 128) [(.tmp 25),(.const (.str [62]))],none⟩,⟨some 24,.mov (.tmp 26),none⟩,⟨some 27,.ext 0 (.tmp 24),none⟩,⟨some 28,.ext 1 (.tmp 24),none⟩,⟨some 29,.ext 2 (.tmp 24),none⟩,⟨some 5,.mov (.tmp 27),none⟩,
 ⟨some 6,.mov (.tmp 28),none⟩,⟨some 7,.mov (.tmp 29),none⟩]) (.seq (.region [⟨some 31,.mov (.tmp 5),none⟩,⟨some 32,.call (.fn 305) [(.tmp 31),(.const (.str [60]))],none⟩,⟨some 30,.mov (.tmp 32),none⟩,⟨some 33,.ext 0 (.tmp 30),none⟩,
 ⟨some 34,.ext 1 (.tmp 30),none⟩,⟨some 8,.mov (.tmp 33),none⟩,⟨some 9,.mov (.tmp 34),none⟩]) (.seq (.seq (.region [⟨some 36,.mov (.tmp 8),none⟩,⟨some 37,.call (.fn 115) [(.tmp 36)],none⟩,⟨some 35,.mov (.tmp 37),none⟩,
 ⟨some 38,.ext 0 (.tmp 35),none⟩,⟨some 39,.ext 1 (.tmp 35),none⟩,⟨some 10,.alloc [.str [],.str [],.str []],none⟩,⟨none,.store 3 (.tmp 10) (.tmp 38),none⟩,⟨some 11,.mov (.tmp 39),none⟩]) (.seq (.region [⟨some 40,.mov (.tmp 7),none⟩,
 ⟨some 41,.un .not (.tmp 40),none⟩,⟨some 42,.mov (.tmp 41),none⟩,⟨some 43,.mov (.tmp 9),some (42,false)⟩,⟨some 44,.un .not (.tmp 43),some (42,false)⟩,⟨some 45,.pick (.tmp 42) (.const (.bool true)) (.tmp 44),none⟩,
 ⟨some 46,.mov (.tmp 45),none⟩,⟨some 47,.mov (.tmp 11),some (46,false)⟩,⟨some 48,.bin .neq .no (.tmp 47) (.const (.int .i64 0)),some (46,false)⟩,⟨some 49,.pick (.tmp 46) (.const (.bool true)) (.tmp 48),none⟩]) (.cond (.tmp 49) (.seq (.region [⟨some 2,.mov (.const (.nils)),none⟩,
 ⟨some 3,.mov (.const (.int .i64 3)),none⟩]) (.ret)) (.skip)))) (.seq (.region [⟨some 50,.mov (.tmp 4),none⟩,⟨some 51,.mov (.tmp 5),none⟩,⟨some 52,.bin .add .no (.tmp 51) (.const (.str [62])),none⟩,⟨some 53,.lit 1 (.str []) 1 [(0,(.tmp 52))],none⟩,
 ⟨some 54,.app false 1 (.tmp 50) (.tmp 53),none⟩,⟨some 4,.mov (.tmp 54),none⟩]) (.region [⟨some 55,.mov (.tmp 6),none⟩,⟨some 0,.mov (.tmp 55),none⟩])))))))))) (.seq (.seq (.region [⟨some 56,.mov (.tmp 4),none⟩,
 ⟨some 57,.len false (.tmp 56),none⟩,⟨some 58,.bin .gtr .no (.tmp 57) (.const (.int .i64 64)),none⟩]) (.cond (.tmp 58) (.seq (.region [⟨some 2,.mov (.const (.nils)),none⟩,⟨some 3,.mov (.const (.int .i64 2)),none⟩]) (.ret)) (.skip))) (.seq (.region [⟨some 59,.mov (.tmp 4),none⟩,
 ⟨some 2,.mov (.tmp 59),none⟩,⟨some 3,.mov (.const (.int .i64 0)),none⟩]) (.ret)))))) }

/-- posthorn/posthornlaw20.DateBack -/
def F_posthornlaw20_DateBack : ACFn := { nt := 74,results := [.tmp 4],body := (.seq (.region [⟨some 4,.mov (.const (.bool false)),none⟩]) (.seq (.region [⟨some 14,.mov (.tmp 0),none⟩,⟨some 15,.mov (.tmp 1),none⟩,⟨some 16,.call (.fn 256) [(.tmp 14),(.tmp 15)],none⟩,
 ⟨some 13,.mov (.tmp 16),none⟩,⟨some 17,.ext 0 (.tmp 13),none⟩,⟨some 18,.ext 1 (.tmp 13),none⟩,⟨some 5,.mov (.tmp 17),none⟩,⟨some 6,.mov (.tmp 18),none⟩]) (.seq (.seq (.region [⟨some 19,.mov (.tmp 6),none⟩,
 ⟨some 20,.bin .neq .no (.tmp 19) (.const (.int .i64 0)),none⟩]) (.cond (.tmp 20) (.seq (.region [⟨some 21,.call (.fn 260) [],none⟩,⟨some 22,.mov (.tmp 21),none⟩,⟨some 23,.mov (.tmp 5),some (22,true)⟩,⟨some 24,.bin .eql .no (.tmp 23) (.const (.str [])),some (22,true)⟩,
 ⟨some 25,.pick (.tmp 22) (.tmp 24) (.const (.bool false)),none⟩,⟨some 4,.mov (.tmp 25),none⟩]) (.ret)) (.skip))) (.seq (.region [⟨some 27,.mov (.tmp 5),none⟩,⟨some 28,.call (.fn 262) [(.tmp 27)],none⟩,
 ⟨some 26,.mov (.tmp 28),none⟩,⟨some 29,.ext 0 (.tmp 26),none⟩,⟨some 30,.ext 1 (.tmp 26),none⟩,⟨some 31,.ext 2 (.tmp 26),none⟩,⟨some 7,.mov (.tmp 29),none⟩,⟨some 8,.mov (.tmp 30),none⟩,⟨some 9,.mov (.tmp 31),none⟩]) (.seq (.region [⟨some 33,.mov (.tmp 5),none⟩,
 ⟨some 34,.bin .add .no (.const (.str [32,9])) (.tmp 33),none⟩,⟨some 35,.bin .add .no (.tmp 34) (.const (.str [32,40,97,32,98,41,32])),none⟩,⟨some 36,.call (.fn 262) [(.tmp 35)],none⟩,⟨some 32,.mov (.tmp 36),none⟩,
 ⟨some 37,.ext 0 (.tmp 32),none⟩,⟨some 38,.ext 1 (.tmp 32),none⟩,⟨some 39,.ext 2 (.tmp 32),none⟩,⟨some 10,.mov (.tmp 37),none⟩,⟨some 11,.mov (.tmp 38),none⟩,⟨some 12,.mov (.tmp 39),none⟩]) (.seq (.region [⟨some 40,.call (.fn 260) [],none⟩,
 ⟨some 41,.mov (.tmp 40),none⟩,⟨some 42,.mov (.tmp 5),some (41,true)⟩,⟨some 43,.len true (.tmp 42),some (41,true)⟩,⟨some 44,.bin .eql .no (.tmp 43) (.const (.int .i64 31)),some (41,true)⟩,⟨some 45,.pick (.tmp 41) (.tmp 44) (.const (.bool false)),none⟩,
 ⟨some 46,.mov (.tmp 45),none⟩,⟨some 47,.mov (.tmp 9),some (46,true)⟩,⟨some 48,.bin .eql .no (.tmp 47) (.const (.int .i64 0)),some (46,true)⟩,⟨some 49,.pick (.tmp 46) (.tmp 48) (.const (.bool false)),none⟩,
 ⟨some 50,.mov (.tmp 49),none⟩,⟨some 51,.mov (.tmp 12),some (50,true)⟩,⟨some 52,.bin .eql .no (.tmp 51) (.const (.int .i64 0)),some (50,true)⟩,⟨some 53,.pick (.tmp 50) (.tmp 52) (.const (.bool false)),none⟩,
 ⟨some 54,.mov (.tmp 53),none⟩,⟨some 55,.mov (.tmp 7),some (54,true)⟩,⟨some 56,.mov (.tmp 0),some (54,true)⟩,⟨some 57,.bin .eql .no (.tmp 55) (.tmp 56),some (54,true)⟩,⟨some 58,.pick (.tmp 54) (.tmp 57) (.const (.bool false)),none⟩,
 ⟨some 59,.mov (.tmp 58),none⟩,⟨some 60,.mov (.tmp 10),some (59,true)⟩,⟨some 61,.mov (.tmp 0),some (59,true)⟩,⟨some 62,.bin .eql .no (.tmp 60) (.tmp 61),some (59,true)⟩,⟨some 63,.pick (.tmp 59) (.tmp 62) (.const (.bool false)),none⟩,
 ⟨some 64,.mov (.tmp 63),none⟩,⟨some 65,.mov (.tmp 8),some (64,true)⟩,⟨some 66,.mov (.tmp 1),some (64,true)⟩,⟨some 67,.bin .eql .no (.tmp 65) (.tmp 66),some (64,true)⟩,⟨some 68,.pick (.tmp 64) (.tmp 67) (.const (.bool false)),none⟩,
 ⟨some 69,.mov (.tmp 68),none⟩,⟨some 70,.mov (.tmp 11),some (69,true)⟩,⟨some 71,.mov (.tmp 1),some (69,true)⟩,⟨some 72,.bin .eql .no (.tmp 70) (.tmp 71),some (69,true)⟩,⟨some 73,.pick (.tmp 69) (.tmp 72) (.const (.bool false)),none⟩,
 ⟨some 4,.mov (.tmp 73),none⟩]) (.ret))))))) }

/-- posthorn/posthornlaw20.DateSame -/
def F_posthornlaw20_DateSame : ACFn := { nt := 76,results := [.tmp 6],body := (.seq (.region [⟨some 6,.mov (.const (.bool false)),none⟩]) (.seq (.region [⟨some 18,.mov (.tmp 0),none⟩,⟨some 19,.mov (.tmp 1),none⟩,⟨some 20,.call (.fn 256) [(.tmp 18),(.tmp 19)],none⟩,
 ⟨some 17,.mov (.tmp 20),none⟩,⟨some 21,.ext 0 (.tmp 17),none⟩,⟨some 22,.ext 1 (.tmp 17),none⟩,⟨some 7,.mov (.tmp 21),none⟩,⟨some 8,.mov (.tmp 22),none⟩]) (.seq (.region [⟨some 24,.mov (.tmp 0),none⟩,⟨some 25,.mov (.tmp 2),none⟩,
 ⟨some 26,.call (.fn 256) [(.tmp 24),(.tmp 25)],none⟩,⟨some 23,.mov (.tmp 26),none⟩,⟨some 27,.ext 0 (.tmp 23),none⟩,⟨some 28,.ext 1 (.tmp 23),none⟩,⟨some 9,.mov (.tmp 27),none⟩,⟨some 10,.mov (.tmp 28),none⟩]) (.seq (.seq (.region [⟨some 29,.mov (.tmp 8),none⟩,
 ⟨some 30,.bin .neq .no (.tmp 29) (.const (.int .i64 0)),none⟩,⟨some 31,.mov (.tmp 30),none⟩,⟨some 32,.mov (.tmp 10),some (31,false)⟩,⟨some 33,.bin .neq .no (.tmp 32) (.const (.int .i64 0)),some (31,false)⟩,
 ⟨some 34,.pick (.tmp 31) (.const (.bool true)) (.tmp 33),none⟩]) (.cond (.tmp 34) (.seq (.region [⟨some 35,.call (.fn 260) [],none⟩,⟨some 6,.mov (.tmp 35),none⟩]) (.ret)) (.skip))) (.seq (.region [⟨some 37,.mov (.tmp 7),none⟩,
 ⟨some 38,.call (.fn 262) [(.tmp 37)],none⟩,⟨some 36,.mov (.tmp 38),none⟩,⟨some 39,.ext 0 (.tmp 36),none⟩,⟨some 40,.ext 1 (.tmp 36),none⟩,⟨some 41,.ext 2 (.tmp 36),none⟩,⟨some 11,.mov (.tmp 39),none⟩,⟨some 12,.mov (.tmp 40),none⟩,
 ⟨some 13,.mov (.tmp 41),none⟩]) (.seq (.region [⟨some 43,.mov (.tmp 9),none⟩,⟨some 44,.call (.fn 262) [(.tmp 43)],none⟩,⟨some 42,.mov (.tmp 44),none⟩,⟨some 45,.ext 0 (.tmp 42),none⟩,⟨some 46,.ext 1 (.tmp 42),none⟩,
 ⟨some 47,.ext 2 (.tmp 42),none⟩,⟨some 14,.mov (.tmp 45),none⟩,⟨some 15,.mov (.tmp 46),none⟩,⟨some 16,.mov (.tmp 47),none⟩]) (.seq (.region [⟨some 48,.call (.fn 260) [],none⟩,⟨some 49,.mov (.tmp 48),none⟩,
 ⟨some 50,.mov (.tmp 13),some (49,true)⟩,⟨some 51,.bin .eql .no (.tmp 50) (.const (.int .i64 0)),some (49,true)⟩,⟨some 52,.pick (.tmp 49) (.tmp 51) (.const (.bool false)),none⟩,⟨some 53,.mov (.tmp 52),none⟩,
 ⟨some 54,.mov (.tmp 16),some (53,true)⟩,⟨some 55,.bin .eql .no (.tmp 54) (.const (.int .i64 0)),some (53,true)⟩,⟨some 56,.pick (.tmp 53) (.tmp 55) (.const (.bool false)),none⟩,⟨some 57,.mov (.tmp 56),none⟩,
 ⟨some 58,.mov (.tmp 11),some (57,true)⟩,⟨some 59,.mov (.tmp 14),some (57,true)⟩,⟨some 60,.bin .eql .no (.tmp 58) (.tmp 59),some (57,true)⟩,⟨some 61,.pick (.tmp 57) (.tmp 60) (.const (.bool false)),none⟩,
 ⟨some 62,.mov (.tmp 61),none⟩,⟨some 63,.mov (.tmp 11),some (62,true)⟩,⟨some 64,.mov (.tmp 0),some (62,true)⟩,⟨some 65,.bin .eql .no (.tmp 63) (.tmp 64),some (62,true)⟩,⟨some 66,.pick (.tmp 62) (.tmp 65) (.const (.bool false)),none⟩,
 ⟨some 67,.mov (.tmp 66),none⟩,⟨some 68,.mov (.tmp 7),some (67,true)⟩,⟨some 69,.mov (.tmp 9),some (67,true)⟩,⟨some 70,.bin .eql .no (.tmp 68) (.tmp 69),some (67,true)⟩,⟨some 71,.mov (.tmp 1),some (67,true)⟩,
 ⟨some 72,.mov (.tmp 2),some (67,true)⟩,⟨some 73,.bin .eql .no (.tmp 71) (.tmp 72),some (67,true)⟩,⟨some 74,.bin .eql .bool (.tmp 70) (.tmp 73),some (67,true)⟩,⟨some 75,.pick (.tmp 67) (.tmp 74) (.const (.bool false)),none⟩,
 ⟨some 6,.mov (.tmp 75),none⟩]) (.ret)))))))) }

/-- posthorn/posthornlaw20.DateUnlike -/
def F_posthornlaw20_DateUnlike : ACFn := { nt := 120,results := [.tmp 10],body := (.seq (.region [⟨some 10,.mov (.const (.bool false)),none⟩]) (.seq (.seq (.region [⟨some 19,.mov (.tmp 4),none⟩,⟨some 20,.len true (.tmp 19),none⟩,⟨some 21,.bin .gtr .no (.tmp 20) (.const (.int .i64 600)),none⟩]) (.cond (.tmp 21) (.seq (.region [⟨some 22,.call (.fn 260) [],none⟩,
 ⟨some 10,.mov (.tmp 22),none⟩]) (.ret)) (.skip))) (.seq (.region [⟨some 24,.mov (.tmp 0),none⟩,⟨some 25,.mov (.tmp 2),none⟩,⟨some 26,.mov (.tmp 4),none⟩,⟨some 27,.call (.fn 265) [(.tmp 24),(.tmp 25),(.tmp 26)],none⟩,
 ⟨some 23,.mov (.tmp 27),none⟩,⟨some 28,.ext 0 (.tmp 23),none⟩,⟨some 29,.ext 1 (.tmp 23),none⟩,⟨some 11,.mov (.tmp 28),none⟩,⟨some 12,.mov (.tmp 29),none⟩]) (.seq (.region [⟨some 31,.mov (.tmp 1),none⟩,
 ⟨some 32,.mov (.tmp 3),none⟩,⟨some 33,.mov (.tmp 4),none⟩,⟨some 34,.call (.fn 265) [(.tmp 31),(.tmp 32),(.tmp 33)],none⟩,⟨some 30,.mov (.tmp 34),none⟩,⟨some 35,.ext 0 (.tmp 30),none⟩,⟨some 36,.ext 1 (.tmp 30),none⟩,
 ⟨some 13,.mov (.tmp 35),none⟩,⟨some 14,.mov (.tmp 36),none⟩]) (.seq (.seq (.region [⟨some 37,.mov (.tmp 12),none⟩,⟨some 38,.bin .neq .no (.tmp 37) (.const (.int .i64 0)),none⟩,⟨some 39,.mov (.tmp 38),none⟩,
 ⟨some 40,.mov (.tmp 14),some (39,false)⟩,⟨some 41,.bin .neq .no (.tmp 40) (.const (.int .i64 0)),some (39,false)⟩,⟨some 42,.pick (.tmp 39) (.const (.bool true)) (.tmp 41),none⟩]) (.cond (.tmp 42) (.seq (.region [⟨some 43,.call (.fn 260) [],none⟩,
 ⟨some 10,.mov (.tmp 43),none⟩]) (.ret)) (.skip))) (.seq (.region [⟨some 45,.mov (.tmp 11),none⟩,⟨some 46,.mov (.tmp 13),none⟩,⟨some 47,.bin .add .no (.tmp 45) (.tmp 46),none⟩,⟨some 48,.call (.fn 267) [(.tmp 47)],none⟩,
 ⟨some 44,.mov (.tmp 48),none⟩,⟨some 49,.ext 0 (.tmp 44),none⟩,⟨some 50,.ext 1 (.tmp 44),none⟩,⟨some 15,.mov (.tmp 49),none⟩,⟨some 16,.mov (.tmp 50),none⟩]) (.seq (.region [⟨some 52,.mov (.tmp 11),none⟩,
 ⟨some 53,.bin .add .no (.const (.str [32])) (.tmp 52),none⟩,⟨some 54,.bin .add .no (.tmp 53) (.const (.str [9])),none⟩,⟨some 55,.mov (.tmp 13),none⟩,⟨some 56,.bin .add .no (.tmp 54) (.tmp 55),none⟩,⟨some 57,.bin .add .no (.tmp 56) (.const (.str [32])),none⟩,
 ⟨some 58,.call (.fn 267) [(.tmp 57)],none⟩,⟨some 51,.mov (.tmp 58),none⟩,⟨some 59,.ext 0 (.tmp 51),none⟩,⟨some 60,.ext 1 (.tmp 51),none⟩,⟨some 17,.mov (.tmp 59),none⟩,⟨some 18,.mov (.tmp 60),none⟩]) (.seq (.seq (.region [⟨some 61,.mov (.tmp 16),none⟩,
 ⟨some 62,.bin .neq .no (.tmp 61) (.const (.int .i64 0)),none⟩,⟨some 63,.mov (.tmp 62),none⟩,⟨some 64,.mov (.tmp 18),some (63,false)⟩,⟨some 65,.bin .neq .no (.tmp 64) (.const (.int .i64 0)),some (63,false)⟩,
 ⟨some 66,.pick (.tmp 63) (.const (.bool true)) (.tmp 65),none⟩,⟨some 67,.mov (.tmp 66),none⟩,⟨some 68,.mov (.tmp 15),some (67,false)⟩,⟨some 69,.len false (.tmp 68),some (67,false)⟩,⟨some 70,.bin .neq .no (.tmp 69) (.const (.int .i64 2)),some (67,false)⟩,
 ⟨some 71,.pick (.tmp 67) (.const (.bool true)) (.tmp 70),none⟩,⟨some 72,.mov (.tmp 71),none⟩,⟨some 73,.mov (.tmp 17),some (72,false)⟩,⟨some 74,.len false (.tmp 73),some (72,false)⟩,⟨some 75,.bin .neq .no (.tmp 74) (.const (.int .i64 2)),some (72,false)⟩,
 ⟨some 76,.pick (.tmp 72) (.const (.bool true)) (.tmp 75),none⟩]) (.cond (.tmp 76) (.seq (.region [⟨some 10,.mov (.const (.bool false)),none⟩]) (.ret)) (.skip))) (.seq (.region [⟨some 77,.call (.fn 260) [],none⟩,
 ⟨some 78,.mov (.tmp 77),none⟩,⟨some 79,.mov (.tmp 11),some (78,true)⟩,⟨some 80,.mov (.tmp 13),some (78,true)⟩,⟨some 81,.bin .eql .no (.tmp 79) (.tmp 80),some (78,true)⟩,⟨some 82,.mov (.tmp 0),some (78,true)⟩,
 ⟨some 83,.mov (.tmp 1),some (78,true)⟩,⟨some 84,.bin .eql .no (.tmp 82) (.tmp 83),some (78,true)⟩,⟨some 85,.mov (.tmp 84),some (78,true)⟩,⟨some 86,.mov (.tmp 2),some (85,true)⟩,⟨some 87,.mov (.tmp 3),some (85,true)⟩,
 ⟨some 88,.bin .eql .no (.tmp 86) (.tmp 87),some (85,true)⟩,⟨some 89,.pick (.tmp 85) (.tmp 88) (.const (.bool false)),some (78,true)⟩,⟨some 90,.bin .eql .bool (.tmp 81) (.tmp 89),some (78,true)⟩,⟨some 91,.pick (.tmp 78) (.tmp 90) (.const (.bool false)),none⟩,
 ⟨some 92,.mov (.tmp 91),none⟩,⟨some 93,.mov (.tmp 15),some (92,true)⟩,⟨some 94,.iaddr 1 (.tmp 93) (.const (.int .i64 0)),some (92,true)⟩,⟨some 95,.load false 1 (.tmp 94),some (92,true)⟩,⟨some 96,.mov (.tmp 11),some (92,true)⟩,
 ⟨some 97,.bin .eql .no (.tmp 95) (.tmp 96),some (92,true)⟩,⟨some 98,.pick (.tmp 92) (.tmp 97) (.const (.bool false)),none⟩,⟨some 99,.mov (.tmp 98),none⟩,⟨some 100,.mov (.tmp 15),some (99,true)⟩,⟨some 101,.iaddr 1 (.tmp 100) (.const (.int .i64 1)),some (99,true)⟩,
 ⟨some 102,.load false 1 (.tmp 101),some (99,true)⟩,⟨some 103,.mov (.tmp 13),some (99,true)⟩,⟨some 104,.bin .eql .no (.tmp 102) (.tmp 103),some (99,true)⟩,⟨some 105,.pick (.tmp 99) (.tmp 104) (.const (.bool false)),none⟩,
 ⟨some 106,.mov (.tmp 105),none⟩,⟨some 107,.mov (.tmp 17),some (106,true)⟩,⟨some 108,.iaddr 1 (.tmp 107) (.const (.int .i64 0)),some (106,true)⟩,⟨some 109,.load false 1 (.tmp 108),some (106,true)⟩,⟨some 110,.mov (.tmp 11),some (106,true)⟩,
 ⟨some 111,.bin .eql .no (.tmp 109) (.tmp 110),some (106,true)⟩,⟨some 112,.pick (.tmp 106) (.tmp 111) (.const (.bool false)),none⟩,⟨some 113,.mov (.tmp 112),none⟩,⟨some 114,.mov (.tmp 17),some (113,true)⟩,
 ⟨some 115,.iaddr 1 (.tmp 114) (.const (.int .i64 1)),some (113,true)⟩,⟨some 116,.load false 1 (.tmp 115),some (113,true)⟩,⟨some 117,.mov (.tmp 13),some (113,true)⟩,⟨some 118,.bin .eql .no (.tmp 116) (.tmp 117),some (113,true)⟩,
 ⟨some 119,.pick (.tmp 113) (.tmp 118) (.const (.bool false)),none⟩,⟨some 10,.mov (.tmp 119),none⟩]) (.ret)))))))))) }

/-- posthorn/posthornlaw20.DateWeeks -/
def F_posthornlaw20_DateWeeks : ACFn := { nt := 66,results := [.tmp 2],body := (.seq (.region [⟨some 2,.mov (.const (.bool false)),none⟩]) (.seq (.seq (.region [⟨some 9,.mov (.tmp 0),none⟩,⟨some 10,.bin .lss .no (.tmp 9) (.const (.int .i64 7)),none⟩,
 ⟨some 11,.mov (.tmp 10),none⟩,⟨some 12,.mov (.tmp 0),some (11,false)⟩,⟨some 13,.bin .gtr .no (.tmp 12) (.const (.int .i64 2932896)),some (11,false)⟩,⟨some 14,.pick (.tmp 11) (.const (.bool true)) (.tmp 13),none⟩]) (.cond (.tmp 14) (.seq (.region [⟨some 15,.call (.fn 260) [],none⟩,
 ⟨some 2,.mov (.tmp 15),none⟩]) (.ret)) (.skip))) (.seq (.region [⟨some 17,.mov (.tmp 0),none⟩,⟨some 18,.call (.fn 258) [(.tmp 17)],none⟩,⟨some 16,.mov (.tmp 18),none⟩,⟨some 19,.ext 0 (.tmp 16),none⟩,⟨some 20,.ext 1 (.tmp 16),none⟩,
 ⟨some 3,.mov (.tmp 19),none⟩,⟨some 4,.mov (.tmp 20),none⟩]) (.seq (.region [⟨some 22,.mov (.tmp 0),none⟩,⟨some 23,.bin .sub .no (.tmp 22) (.const (.int .i64 1)),none⟩,⟨some 24,.call (.fn 258) [(.tmp 23)],none⟩,
 ⟨some 21,.mov (.tmp 24),none⟩,⟨some 25,.ext 0 (.tmp 21),none⟩,⟨some 26,.ext 1 (.tmp 21),none⟩,⟨some 5,.mov (.tmp 25),none⟩,⟨some 6,.mov (.tmp 26),none⟩]) (.seq (.region [⟨some 28,.mov (.tmp 0),none⟩,⟨some 29,.bin .sub .no (.tmp 28) (.const (.int .i64 7)),none⟩,
 ⟨some 30,.call (.fn 258) [(.tmp 29)],none⟩,⟨some 27,.mov (.tmp 30),none⟩,⟨some 31,.ext 0 (.tmp 27),none⟩,⟨some 32,.ext 1 (.tmp 27),none⟩,⟨some 7,.mov (.tmp 31),none⟩,⟨some 8,.mov (.tmp 32),none⟩]) (.seq (.region [⟨some 33,.call (.fn 260) [],none⟩,
 ⟨some 34,.mov (.tmp 33),none⟩,⟨some 35,.mov (.tmp 4),some (34,true)⟩,⟨some 36,.bin .eql .no (.tmp 35) (.const (.int .i64 0)),some (34,true)⟩,⟨some 37,.pick (.tmp 34) (.tmp 36) (.const (.bool false)),none⟩,
 ⟨some 38,.mov (.tmp 37),none⟩,⟨some 39,.mov (.tmp 6),some (38,true)⟩,⟨some 40,.bin .eql .no (.tmp 39) (.const (.int .i64 0)),some (38,true)⟩,⟨some 41,.pick (.tmp 38) (.tmp 40) (.const (.bool false)),none⟩,
 ⟨some 42,.mov (.tmp 41),none⟩,⟨some 43,.mov (.tmp 8),some (42,true)⟩,⟨some 44,.bin .eql .no (.tmp 43) (.const (.int .i64 0)),some (42,true)⟩,⟨some 45,.pick (.tmp 42) (.tmp 44) (.const (.bool false)),none⟩,
 ⟨some 46,.mov (.tmp 45),none⟩,⟨some 47,.mov (.tmp 3),some (46,true)⟩,⟨some 48,.mov (.tmp 7),some (46,true)⟩,⟨some 49,.bin .eql .no (.tmp 47) (.tmp 48),some (46,true)⟩,⟨some 50,.pick (.tmp 46) (.tmp 49) (.const (.bool false)),none⟩,
 ⟨some 51,.mov (.tmp 50),none⟩,⟨some 52,.mov (.tmp 3),some (51,true)⟩,⟨some 53,.mov (.tmp 5),some (51,true)⟩,⟨some 54,.bin .add .no (.tmp 53) (.const (.int .i64 1)),some (51,true)⟩,⟨some 55,.bin .rem .no (.tmp 54) (.const (.int .i64 7)),some (51,true)⟩,
 ⟨some 56,.bin .eql .no (.tmp 52) (.tmp 55),some (51,true)⟩,⟨some 57,.pick (.tmp 51) (.tmp 56) (.const (.bool false)),none⟩,⟨some 58,.mov (.tmp 57),none⟩,⟨some 59,.mov (.tmp 3),some (58,true)⟩,⟨some 60,.bin .geq .no (.tmp 59) (.const (.int .i64 0)),some (58,true)⟩,
 ⟨some 61,.pick (.tmp 58) (.tmp 60) (.const (.bool false)),none⟩,⟨some 62,.mov (.tmp 61),none⟩,⟨some 63,.mov (.tmp 3),some (62,true)⟩,⟨some 64,.bin .lss .no (.tmp 63) (.const (.int .i64 7)),some (62,true)⟩,
 ⟨some 65,.pick (.tmp 62) (.tmp 64) (.const (.bool false)),none⟩,⟨some 2,.mov (.tmp 65),none⟩]) (.ret))))))) }

/-- posthorn/date.isShift -/
def F_date_isShift : ACFn := { nt := 14,results := [.tmp 2],body := (.seq (.region [⟨some 2,.mov (.const (.bool false)),none⟩]) (.seq (.region [⟨some 3,.mov (.tmp 0),none⟩,⟨some 4,.bin .geq .no (.tmp 3) (.const (.int .i64 (-86340))),none⟩,
 ⟨some 5,.mov (.tmp 4),none⟩,⟨some 6,.mov (.tmp 0),some (5,true)⟩,⟨some 7,.bin .leq .no (.tmp 6) (.const (.int .i64 86340)),some (5,true)⟩,⟨some 8,.pick (.tmp 5) (.tmp 7) (.const (.bool false)),none⟩,⟨some 9,.mov (.tmp 8),none⟩,
 ⟨some 10,.mov (.tmp 0),some (9,true)⟩,⟨some 11,.bin .rem .no (.tmp 10) (.const (.int .i64 60)),some (9,true)⟩,⟨some 12,.bin .eql .no (.tmp 11) (.const (.int .i64 0)),some (9,true)⟩,⟨some 13,.pick (.tmp 9) (.tmp 12) (.const (.bool false)),none⟩,
 ⟨some 2,.mov (.tmp 13),none⟩]) (.ret))) }

/-- posthorn/when.Civil -/
def F_when_Civil : ACFn := { nt := 49,results := [.tmp 2,.tmp 3,.tmp 4,.tmp 5],body := (.seq (.region [⟨some 2,.mov (.const (.int .i64 0)),none⟩,⟨some 3,.mov (.const (.int .i64 0)),none⟩,⟨some 4,.mov (.const (.int .i64 0)),none⟩,
 ⟨some 5,.mov (.const (.int .i64 0)),none⟩]) (.seq (.seq (.region [⟨some 9,.mov (.tmp 0),none⟩,⟨some 10,.bin .lss .no (.tmp 9) (.const (.int .i64 0)),none⟩,⟨some 11,.mov (.tmp 10),none⟩,⟨some 12,.mov (.tmp 0),some (11,false)⟩,
 ⟨some 13,.bin .gtr .no (.tmp 12) (.const (.int .i64 2932896)),some (11,false)⟩,⟨some 14,.pick (.tmp 11) (.const (.bool true)) (.tmp 13),none⟩]) (.cond (.tmp 14) (.seq (.region [⟨some 2,.mov (.const (.int .i64 0)),none⟩,
 ⟨some 3,.mov (.const (.int .i64 0)),none⟩,⟨some 4,.mov (.const (.int .i64 0)),none⟩,⟨some 5,.mov (.const (.int .i64 110)),none⟩]) (.ret)) (.skip))) (.seq (.region [⟨some 15,.mov (.tmp 0),none⟩,⟨some 16,.bin .quo .no (.tmp 15) (.const (.int .i64 366)),none⟩,
 ⟨some 17,.bin .add .no (.const (.int .i64 1970)) (.tmp 16),none⟩,⟨some 6,.mov (.tmp 17),none⟩]) (.seq (.block 0 (.loop (.seq (.seq (.region [⟨some 18,.mov (.tmp 6),none⟩,⟨some 19,.bin .lss .no (.tmp 18) (.const (.int .i64 9999)),none⟩,
 ⟨some 20,.mov (.tmp 19),none⟩,⟨some 21,.mov (.tmp 6),some (20,true)⟩,⟨some 22,.bin .add .no (.tmp 21) (.const (.int .i64 1)),some (20,true)⟩,⟨some 23,.call (.fn 306) [(.tmp 22)],some (20,true)⟩,⟨some 24,.mov (.tmp 0),some (20,true)⟩,
 ⟨some 25,.bin .leq .no (.tmp 23) (.tmp 24),some (20,true)⟩,⟨some 26,.pick (.tmp 20) (.tmp 25) (.const (.bool false)),none⟩]) (.cond (.tmp 26) (.skip) (.exit 0))) (.block 1 (.region [⟨some 27,.mov (.tmp 6),none⟩,
 ⟨some 28,.bin .add .no (.tmp 27) (.const (.int .i64 1)),none⟩,⟨some 6,.mov (.tmp 28),none⟩]))))) (.seq (.region [⟨some 29,.mov (.tmp 0),none⟩,⟨some 30,.mov (.tmp 6),none⟩,⟨some 31,.call (.fn 306) [(.tmp 30)],none⟩,
 ⟨some 32,.bin .sub .no (.tmp 29) (.tmp 31),none⟩,⟨some 7,.mov (.tmp 32),none⟩]) (.seq (.region [⟨some 8,.mov (.const (.int .i64 1)),none⟩]) (.seq (.block 2 (.loop (.seq (.seq (.region [⟨some 33,.mov (.tmp 7),none⟩,
 ⟨some 34,.mov (.tmp 6),none⟩,⟨some 35,.mov (.tmp 8),none⟩,⟨some 36,.call (.fn 307) [(.tmp 34),(.tmp 35)],none⟩,⟨some 37,.bin .geq .no (.tmp 33) (.tmp 36),none⟩]) (.cond (.tmp 37) (.skip) (.exit 2))) (.block 3 (.seq (.region [⟨some 38,.mov (.tmp 7),none⟩,
 ⟨some 39,.mov (.tmp 6),none⟩,⟨some 40,.mov (.tmp 8),none⟩,⟨some 41,.call (.fn 307) [(.tmp 39),(.tmp 40)],none⟩,⟨some 42,.bin .sub .no (.tmp 38) (.tmp 41),none⟩,⟨some 7,.mov (.tmp 42),none⟩]) (.region [⟨some 43,.mov (.tmp 8),none⟩,
 ⟨some 44,.bin .add .no (.tmp 43) (.const (.int .i64 1)),none⟩,⟨some 8,.mov (.tmp 44),none⟩])))))) (.seq (.region [⟨some 45,.mov (.tmp 6),none⟩,⟨some 46,.mov (.tmp 8),none⟩,⟨some 47,.mov (.tmp 7),none⟩,
 ⟨some 48,.bin .add .no (.tmp 47) (.const (.int .i64 1)),none⟩,⟨some 2,.mov (.tmp 45),none⟩,⟨some 3,.mov (.tmp 46),none⟩,⟨some 4,.mov (.tmp 48),none⟩,⟨some 5,.mov (.const (.int .i64 0)),none⟩]) (.ret))))))))) }

/-- posthorn/date.two -/
def F_date_two : ACFn := { nt := 14,results := [.tmp 2],body := (.seq (.region [⟨some 2,.mov (.const (.str [])),none⟩]) (.seq (.region [⟨some 3,.mov (.tmp 0),none⟩,⟨some 4,.bin .quo .no (.tmp 3) (.const (.int .i64 10)),none⟩,⟨some 5,.bin .rem .no (.tmp 4) (.const (.int .i64 10)),none⟩,
 ⟨some 6,.bin .add .no (.const (.int .i64 48)) (.tmp 5),none⟩,⟨some 7,.cInt .u8 (.tmp 6),none⟩,⟨some 8,.mov (.tmp 0),none⟩,⟨some 9,.bin .rem .no (.tmp 8) (.const (.int .i64 10)),none⟩,⟨some 10,.bin .add .no (.const (.int .i64 48)) (.tmp 9),none⟩,
 ⟨some 11,.cInt .u8 (.tmp 10),none⟩,⟨some 12,.lit8 2 [(0,(.tmp 7)),(1,(.tmp 11))],none⟩,⟨some 13,.cB2S false (.tmp 12),none⟩,⟨some 2,.mov (.tmp 13),none⟩]) (.ret))) }

/-- posthorn/date.dayName -/
def F_date_dayName : ACFn := { nt := 8,results := [.tmp 2],body := (.seq (.region [⟨some 2,.mov (.const (.str [])),none⟩]) (.seq (.region [⟨some 4,.build [.str [],.str [],.str [],.str [],.str [],.str [],.str []] [(0,1,(.const (.str [77,111,110]))),(1,1,(.const (.str [84,117,101]))),(2,1,(.const (.str [87,101,100]))),(3,1,(.const (.str [84,104,117]))),(4,1,(.const (.str [70,114,105]))),(5,1,(.const (.str [83,97,116]))),(6,1,(.const (.str [83,117,110])))],none⟩,
 ⟨some 3,.alloc [.str [],.str [],.str [],.str [],.str [],.str [],.str []],none⟩,⟨none,.store 7 (.tmp 3) (.tmp 4),none⟩]) (.seq (.region [⟨some 5,.mov (.tmp 0),none⟩,⟨some 6,.iaddrA 7 1 (.tmp 3) (.tmp 5),none⟩,
 ⟨some 7,.load false 1 (.tmp 6),none⟩,⟨some 2,.mov (.tmp 7),none⟩]) (.ret)))) }

/-- posthorn/date.monthName -/
def F_date_monthName : ACFn := { nt := 8,results := [.tmp 2],body := (.seq (.region [⟨some 2,.mov (.const (.str [])),none⟩]) (.seq (.region [⟨some 4,.build [.str [],.str [],.str [],.str [],.str [],.str [],.str [],.str [],.str [],.str [],.str [],.str [],.str []] [(0,1,(.const (.str []))),(1,1,(.const (.str [74,97,110]))),(2,1,(.const (.str [70,101,98]))),(3,1,(.const (.str [77,97,114]))),(4,1,(.const (.str [65,112,114]))),(5,1,(.const (.str [77,97,121]))),(6,1,(.const (.str [74,117,110]))),(7,1,(.const (.str [74,117,108]))),(8,1,(.const (.str [65,117,103]))),(9,1,(.const (.str [83,101,112]))),(10,1,(.const (.str [79,99,116]))),(11,1,(.const (.str [78,111,118]))),(12,1,(.const (.str [68,101,99])))],none⟩,
 ⟨some 3,.alloc [.str [],.str [],.str [],.str [],.str [],.str [],.str [],.str [],.str [],.str [],.str [],.str [],.str []],none⟩,⟨none,.store 13 (.tmp 3) (.tmp 4),none⟩]) (.seq (.region [⟨some 5,.mov (.tmp 0),none⟩,
 ⟨some 6,.iaddrA 13 1 (.tmp 3) (.tmp 5),none⟩,⟨some 7,.load false 1 (.tmp 6),none⟩,⟨some 2,.mov (.tmp 7),none⟩]) (.ret)))) }

/-- posthorn/posthornref20.shift -/
def F_posthornref20_shift : ACFn := { nt := 14,results := [.tmp 2],body := (.seq (.region [⟨some 2,.mov (.const (.bool false)),none⟩]) (.seq (.region [⟨some 3,.mov (.tmp 0),none⟩,⟨some 4,.bin .rem .no (.tmp 3) (.const (.int .i64 60)),none⟩,
 ⟨some 5,.bin .eql .no (.tmp 4) (.const (.int .i64 0)),none⟩,⟨some 6,.mov (.tmp 5),none⟩,⟨some 7,.mov (.tmp 0),some (6,true)⟩,⟨some 8,.bin .gtr .no (.tmp 7) (.const (.int .i64 (-86400))),some (6,true)⟩,
 ⟨some 9,.pick (.tmp 6) (.tmp 8) (.const (.bool false)),none⟩,⟨some 10,.mov (.tmp 9),none⟩,⟨some 11,.mov (.tmp 0),some (10,true)⟩,⟨some 12,.bin .lss .no (.tmp 11) (.const (.int .i64 86400)),some (10,true)⟩,
 ⟨some 13,.pick (.tmp 10) (.tmp 12) (.const (.bool false)),none⟩,⟨some 2,.mov (.tmp 13),none⟩]) (.ret))) }

/-- posthorn/posthornref12.Civil -/
def F_posthornref12_Civil : ACFn := { nt := 42,results := [.tmp 2,.tmp 3,.tmp 4,.tmp 5],body := (.seq (.region [⟨some 2,.mov (.const (.int .i64 0)),none⟩,⟨some 3,.mov (.const (.int .i64 0)),none⟩,⟨some 4,.mov (.const (.int .i64 0)),none⟩,
 ⟨some 5,.mov (.const (.int .i64 0)),none⟩]) (.seq (.seq (.region [⟨some 9,.mov (.tmp 0),none⟩,⟨some 10,.bin .lss .no (.tmp 9) (.const (.int .i64 0)),none⟩,⟨some 11,.mov (.tmp 10),none⟩,⟨some 12,.mov (.tmp 0),some (11,false)⟩,
 ⟨some 13,.bin .gtr .no (.tmp 12) (.const (.int .i64 2932896)),some (11,false)⟩,⟨some 14,.pick (.tmp 11) (.const (.bool true)) (.tmp 13),none⟩]) (.cond (.tmp 14) (.seq (.region [⟨some 2,.mov (.const (.int .i64 0)),none⟩,
 ⟨some 3,.mov (.const (.int .i64 0)),none⟩,⟨some 4,.mov (.const (.int .i64 0)),none⟩,⟨some 5,.mov (.const (.int .i64 110)),none⟩]) (.ret)) (.skip))) (.seq (.region [⟨some 15,.mov (.tmp 0),none⟩,⟨some 6,.mov (.tmp 15),none⟩]) (.seq (.region [⟨some 7,.mov (.const (.int .i64 1970)),none⟩,
 ⟨some 8,.mov (.const (.int .i64 1)),none⟩]) (.seq (.block 0 (.loop (.seq (.seq (.region [⟨some 16,.mov (.tmp 6),none⟩,⟨some 17,.mov (.tmp 7),none⟩,⟨some 18,.call (.fn 308) [(.tmp 17)],none⟩,⟨some 19,.bin .geq .no (.tmp 16) (.tmp 18),none⟩]) (.cond (.tmp 19) (.skip) (.exit 0))) (.block 1 (.seq (.region [⟨some 20,.mov (.tmp 6),none⟩,
 ⟨some 21,.mov (.tmp 7),none⟩,⟨some 22,.call (.fn 308) [(.tmp 21)],none⟩,⟨some 23,.bin .sub .no (.tmp 20) (.tmp 22),none⟩,⟨some 6,.mov (.tmp 23),none⟩]) (.region [⟨some 24,.mov (.tmp 7),none⟩,⟨some 25,.bin .add .no (.tmp 24) (.const (.int .i64 1)),none⟩,
 ⟨some 7,.mov (.tmp 25),none⟩])))))) (.seq (.block 2 (.loop (.seq (.seq (.region [⟨some 26,.mov (.tmp 6),none⟩,⟨some 27,.mov (.tmp 7),none⟩,⟨some 28,.mov (.tmp 8),none⟩,⟨some 29,.call (.fn 309) [(.tmp 27),(.tmp 28)],none⟩,
 ⟨some 30,.bin .geq .no (.tmp 26) (.tmp 29),none⟩]) (.cond (.tmp 30) (.skip) (.exit 2))) (.block 3 (.seq (.region [⟨some 31,.mov (.tmp 6),none⟩,⟨some 32,.mov (.tmp 7),none⟩,⟨some 33,.mov (.tmp 8),none⟩,
 ⟨some 34,.call (.fn 309) [(.tmp 32),(.tmp 33)],none⟩,⟨some 35,.bin .sub .no (.tmp 31) (.tmp 34),none⟩,⟨some 6,.mov (.tmp 35),none⟩]) (.region [⟨some 36,.mov (.tmp 8),none⟩,⟨some 37,.bin .add .no (.tmp 36) (.const (.int .i64 1)),none⟩,
 ⟨some 8,.mov (.tmp 37),none⟩])))))) (.seq (.region [⟨some 38,.mov (.tmp 7),none⟩,⟨some 39,.mov (.tmp 8),none⟩,⟨some 40,.mov (.tmp 6),none⟩,⟨some 41,.bin .add .no (.tmp 40) (.const (.int .i64 1)),none⟩,
 ⟨some 2,.mov (.tmp 38),none⟩,⟨some 3,.mov (.tmp 39),none⟩,⟨some 4,.mov (.tmp 41),none⟩,⟨some 5,.mov (.const (.int .i64 0)),none⟩]) (.ret)))))))) }

/-- posthorn/posthornref20.Day -/
def F_posthornref20_Day : ACFn := { nt := 9,results := [.tmp 2],body := (.seq (.region [⟨some 2,.mov (.const (.str [])),none⟩]) (.seq (.region [⟨some 3,.mov (.tmp 0),none⟩,⟨some 4,.bin .mul .no (.const (.int .i64 3)) (.tmp 3),none⟩,⟨some 5,.mov (.tmp 0),none⟩,
 ⟨some 6,.bin .mul .no (.const (.int .i64 3)) (.tmp 5),none⟩,⟨some 7,.bin .add .no (.tmp 6) (.const (.int .i64 3)),none⟩,⟨some 8,.slc 0 (.const (.str [77,111,110,84,117,101,87,101,100,84,104,117,70,114,105,83,97,116,83,117,110])) (some (.tmp 4)) (some (.tmp 7)) none,none⟩,
 ⟨some 2,.mov (.tmp 8),none⟩]) (.ret))) }

/-- posthorn/posthornref12.Digits -/
def F_posthornref12_Digits : ACFn := { nt := 23,results := [.tmp 4],body := (.seq (.region [⟨some 4,.mov (.const (.str [])),none⟩]) (.seq (.region [⟨some 5,.mov (.const (.str [])),none⟩]) (.seq (.seq (.region [⟨some 6,.mov (.const (.int .i64 0)),none⟩]) (.block 0 (.loop (.seq (.seq (.region [⟨some 7,.mov (.tmp 6),none⟩,
 ⟨some 8,.mov (.tmp 1),none⟩,⟨some 9,.bin .lss .no (.tmp 7) (.tmp 8),none⟩]) (.cond (.tmp 9) (.skip) (.exit 0))) (.seq (.block 1 (.seq (.region [⟨some 12,.mov (.tmp 0),none⟩,⟨some 13,.bin .rem .no (.tmp 12) (.const (.int .i64 10)),none⟩,
 ⟨some 14,.bin .add .no (.const (.int .i64 48)) (.tmp 13),none⟩,⟨some 15,.cInt .u8 (.tmp 14),none⟩,⟨some 16,.lit8 1 [(0,(.tmp 15))],none⟩,⟨some 17,.cB2S false (.tmp 16),none⟩,⟨some 18,.mov (.tmp 5),none⟩,
 ⟨some 19,.bin .add .no (.tmp 17) (.tmp 18),none⟩,⟨some 5,.mov (.tmp 19),none⟩]) (.region [⟨some 20,.mov (.tmp 0),none⟩,⟨some 21,.bin .quo .no (.tmp 20) (.const (.int .i64 10)),none⟩,⟨some 0,.mov (.tmp 21),none⟩]))) (.region [⟨some 10,.mov (.tmp 6),none⟩,
 ⟨some 11,.bin .add .no (.tmp 10) (.const (.int .i64 1)),none⟩,⟨some 6,.mov (.tmp 11),none⟩])))))) (.seq (.region [⟨some 22,.mov (.tmp 5),none⟩,⟨some 4,.mov (.tmp 22),none⟩]) (.ret))))) }

/-- posthorn/posthornref20.Month -/
def F_posthornref20_Month : ACFn := { nt := 9,results := [.tmp 2],body := (.seq (.region [⟨some 2,.mov (.const (.str [])),none⟩]) (.seq (.region [⟨some 3,.mov (.tmp 0),none⟩,⟨some 4,.bin .mul .no (.const (.int .i64 3)) (.tmp 3),none⟩,⟨some 5,.bin .sub .no (.tmp 4) (.const (.int .i64 3)),none⟩,
 ⟨some 6,.mov (.tmp 0),none⟩,⟨some 7,.bin .mul .no (.const (.int .i64 3)) (.tmp 6),none⟩,⟨some 8,.slc 0 (.const (.str [74,97,110,70,101,98,77,97,114,65,112,114,77,97,121,74,117,110,74,117,108,65,117,103,83,101,112,79,99,116,78,111,118,68,101,99])) (some (.tmp 5)) (some (.tmp 7)) none,none⟩,
 ⟨some 2,.mov (.tmp 8),none⟩]) (.ret))) }

/-- posthorn/date.bare -/
def F_date_bare : ACFn := { nt := 29,results := [.tmp 2],body := (.seq (.region [⟨some 2,.mov (.const (.str [])),none⟩]) (.seq (.region [⟨some 3,.alloc [.bslot,.nils],none⟩]) (.block 0 (.loop (.block 1 (.seq (.region [⟨some 8,.mov (.tmp 0),none⟩,
 ⟨some 9,.call (.fn 128) [(.tmp 8),(.const (.str [40]))],none⟩,⟨some 7,.mov (.tmp 9),none⟩,⟨some 10,.ext 0 (.tmp 7),none⟩,⟨some 11,.ext 1 (.tmp 7),none⟩,⟨some 12,.ext 2 (.tmp 7),none⟩,⟨some 4,.mov (.tmp 10),none⟩,
 ⟨some 5,.mov (.tmp 11),none⟩,⟨some 6,.mov (.tmp 12),none⟩]) (.seq (.region [⟨some 13,.mov (.tmp 4),none⟩,⟨some 14,.call (.fn 58) [(.tmp 3),(.tmp 13)],none⟩]) (.seq (.seq (.region [⟨some 15,.mov (.tmp 6),none⟩,
 ⟨some 16,.un .not (.tmp 15),none⟩]) (.cond (.tmp 16) (.seq (.region [⟨some 17,.call (.fn 59) [(.tmp 3)],none⟩,⟨some 2,.mov (.tmp 17),none⟩]) (.ret)) (.skip))) (.seq (.region [⟨some 19,.mov (.tmp 5),none⟩,
 ⟨some 20,.call (.fn 128) [(.tmp 19),(.const (.str [41]))],none⟩,⟨some 18,.mov (.tmp 20),none⟩,⟨some 21,.ext 0 (.tmp 18),none⟩,⟨some 22,.ext 1 (.tmp 18),none⟩,⟨some 23,.ext 2 (.tmp 18),none⟩,⟨some 0,.mov (.tmp 22),none⟩,
 ⟨some 6,.mov (.tmp 23),none⟩]) (.seq (.seq (.region [⟨some 24,.mov (.tmp 6),none⟩,⟨some 25,.un .not (.tmp 24),none⟩]) (.cond (.tmp 25) (.seq (.region [⟨some 26,.call (.fn 59) [(.tmp 3)],none⟩,⟨some 27,.bin .add .no (.tmp 26) (.const (.str [40])),none⟩,
 ⟨some 2,.mov (.tmp 27),none⟩]) (.ret)) (.skip))) (.region [⟨some 28,.call (.fn 57) [(.tmp 3),(.const (.b8 32))],none⟩]))))))))))) }

/-- posthorn/date.words -/
def F_date_words : ACFn := { nt := 4,results := [.tmp 2],body := (.seq (.region [⟨some 1,.box (.tmp 0),none⟩,⟨some 2,.mov (.const (.nilf)),none⟩]) (.seq (.region [⟨some 3,.mkfn 310 [(.tmp 1)],none⟩,⟨some 2,.mov (.tmp 3),none⟩]) (.ret))) }

/-- posthorn/date.weekday -/
def F_date_weekday : ACFn := { nt := 58,results := [.tmp 2,.tmp 3],body := (.seq (.region [⟨some 2,.mov (.const (.int .i64 0)),none⟩,⟨some 3,.mov (.const (.nils)),none⟩]) (.seq (.seq (.region [⟨some 8,.mov (.tmp 0),none⟩,⟨some 9,.len false (.tmp 8),none⟩,
 ⟨some 10,.bin .eql .no (.tmp 9) (.const (.int .i64 0)),none⟩]) (.cond (.tmp 10) (.seq (.region [⟨some 2,.mov (.const (.int .i64 (-2))),none⟩,⟨some 3,.mov (.const (.nils)),none⟩]) (.ret)) (.skip))) (.seq (.region [⟨some 12,.mov (.tmp 0),none⟩,
 ⟨some 13,.iaddr 1 (.tmp 12) (.const (.int .i64 0)),none⟩,⟨some 14,.load false 1 (.tmp 13),none⟩,⟨some 15,.call (.fn 128) [(.tmp 14),(.const (.str [44]))],none⟩,⟨some 11,.mov (.tmp 15),none⟩,⟨some 16,.ext 0 (.tmp 11),none⟩,
 ⟨some 17,.ext 1 (.tmp 11),none⟩,⟨some 18,.ext 2 (.tmp 11),none⟩,⟨some 4,.mov (.tmp 16),none⟩,⟨some 5,.mov (.tmp 17),none⟩,⟨some 6,.mov (.tmp 18),none⟩]) (.seq (.seq (.region [⟨some 19,.mov (.tmp 6),none⟩,
 ⟨some 20,.un .not (.tmp 19),none⟩,⟨some 21,.mov (.tmp 20),none⟩,⟨some 22,.mov (.tmp 0),some (21,true)⟩,⟨some 23,.len false (.tmp 22),some (21,true)⟩,⟨some 24,.bin .gtr .no (.tmp 23) (.const (.int .i64 1)),some (21,true)⟩,
 ⟨some 25,.pick (.tmp 21) (.tmp 24) (.const (.bool false)),none⟩,⟨some 26,.mov (.tmp 25),none⟩,⟨some 27,.mov (.tmp 0),some (26,true)⟩,⟨some 28,.iaddr 1 (.tmp 27) (.const (.int .i64 1)),some (26,true)⟩,⟨some 29,.load false 1 (.tmp 28),some (26,true)⟩,
 ⟨some 30,.call (.fn 72) [(.tmp 29),(.const (.str [44]))],some (26,true)⟩,⟨some 31,.pick (.tmp 26) (.tmp 30) (.const (.bool false)),none⟩]) (.cond (.tmp 31) (.seq (.region [⟨some 32,.mov (.tmp 0),none⟩,
 ⟨some 33,.iaddr 1 (.tmp 32) (.const (.int .i64 0)),none⟩,⟨some 34,.load false 1 (.tmp 33),none⟩,⟨some 35,.mov (.tmp 0),none⟩,⟨some 36,.iaddr 1 (.tmp 35) (.const (.int .i64 1)),none⟩,⟨some 37,.load false 1 (.tmp 36),none⟩,
 ⟨some 38,.slc 0 (.tmp 37) (some (.const (.int .i64 1))) none none,none⟩,⟨some 4,.mov (.tmp 34),none⟩,⟨some 5,.mov (.tmp 38),none⟩,⟨some 6,.mov (.const (.bool true)),none⟩]) (.region [⟨some 39,.mov (.tmp 0),none⟩,
 ⟨some 40,.slc 1 (.tmp 39) (some (.const (.int .i64 1))) none none,none⟩,⟨some 0,.mov (.tmp 40),none⟩])) (.skip))) (.seq (.seq (.region [⟨some 41,.mov (.tmp 6),none⟩,⟨some 42,.un .not (.tmp 41),none⟩]) (.cond (.tmp 42) (.seq (.region [⟨some 43,.mov (.tmp 0),none⟩,
 ⟨some 2,.mov (.const (.int .i64 (-1))),none⟩,⟨some 3,.mov (.tmp 43),none⟩]) (.ret)) (.skip))) (.seq (.region [⟨some 44,.mov (.tmp 4),none⟩,⟨some 45,.call (.fn 288) [(.tmp 44),(.const (.int .i64 7)),(.fn 277)],none⟩,
 ⟨some 7,.mov (.tmp 45),none⟩]) (.seq (.seq (.region [⟨some 46,.mov (.tmp 7),none⟩,⟨some 47,.bin .lss .no (.tmp 46) (.const (.int .i64 0)),none⟩]) (.cond (.tmp 47) (.seq (.region [⟨some 2,.mov (.const (.int .i64 (-2))),none⟩,
 ⟨some 3,.mov (.const (.nils)),none⟩]) (.ret)) (.skip))) (.seq (.region [⟨some 48,.mov (.tmp 0),none⟩,⟨some 49,.slc 1 (.tmp 48) (some (.const (.int .i64 1))) none none,none⟩,⟨some 0,.mov (.tmp 49),none⟩]) (.seq (.seq (.region [⟨some 50,.mov (.tmp 5),none⟩,
 ⟨some 51,.bin .neq .no (.tmp 50) (.const (.str [])),none⟩]) (.cond (.tmp 51) (.region [⟨some 52,.mov (.tmp 5),none⟩,⟨some 53,.lit 1 (.str []) 1 [(0,(.tmp 52))],none⟩,⟨some 54,.mov (.tmp 0),none⟩,⟨some 55,.app false 1 (.tmp 53) (.tmp 54),none⟩,
 ⟨some 0,.mov (.tmp 55),none⟩]) (.skip))) (.seq (.region [⟨some 56,.mov (.tmp 7),none⟩,⟨some 57,.mov (.tmp 0),none⟩,⟨some 2,.mov (.tmp 56),none⟩,⟨some 3,.mov (.tmp 57),none⟩]) (.ret))))))))))) }

/-- posthorn/date.digits -/
def F_date_digits : ACFn := { nt := 41,results := [.tmp 6],body := (.seq (.region [⟨some 6,.mov (.const (.int .i64 0)),none⟩]) (.seq (.region [⟨some 7,.mov (.const (.int .i64 0)),none⟩]) (.seq (.seq (.region [⟨some 9,.mov (.tmp 0),none⟩,
 ⟨some 10,.len true (.tmp 9),none⟩,⟨some 11,.mov (.const (.int .i64 0)),none⟩]) (.block 0 (.loop (.seq (.region [⟨some 12,.bin .lss .no (.tmp 11) (.tmp 10),none⟩]) (.seq (.cond (.tmp 12) (.skip) (.exit 0)) (.seq (.block 1 (.seq (.region [⟨some 13,.mov (.tmp 11),none⟩,
 ⟨some 8,.mov (.tmp 13),none⟩]) (.seq (.seq (.region [⟨some 14,.mov (.tmp 0),none⟩,⟨some 15,.mov (.tmp 8),none⟩,⟨some 16,.idxS (.tmp 14) (.tmp 15),none⟩,⟨some 17,.bin .lss .no (.tmp 16) (.const (.b8 48)),none⟩,
 ⟨some 18,.mov (.tmp 17),none⟩,⟨some 19,.mov (.tmp 0),some (18,false)⟩,⟨some 20,.mov (.tmp 8),some (18,false)⟩,⟨some 21,.idxS (.tmp 19) (.tmp 20),some (18,false)⟩,⟨some 22,.bin .gtr .no (.tmp 21) (.const (.b8 57)),some (18,false)⟩,
 ⟨some 23,.pick (.tmp 18) (.const (.bool true)) (.tmp 22),none⟩]) (.cond (.tmp 23) (.seq (.region [⟨some 6,.mov (.const (.int .i64 (-1))),none⟩]) (.ret)) (.skip))) (.seq (.region [⟨some 24,.mov (.tmp 7),none⟩,
 ⟨some 25,.bin .mul .no (.const (.int .i64 10)) (.tmp 24),none⟩,⟨some 26,.mov (.tmp 0),none⟩,⟨some 27,.mov (.tmp 8),none⟩,⟨some 28,.idxS (.tmp 26) (.tmp 27),none⟩,⟨some 29,.bin .sub .no (.tmp 28) (.const (.b8 48)),none⟩,
 ⟨some 30,.cInt .i64 (.tmp 29),none⟩,⟨some 31,.bin .add .no (.tmp 25) (.tmp 30),none⟩,⟨some 7,.mov (.tmp 31),none⟩]) (.seq (.region [⟨some 32,.mov (.tmp 8),none⟩,⟨some 33,.mov (.tmp 2),none⟩,⟨some 34,.bin .geq .no (.tmp 32) (.tmp 33),none⟩]) (.cond (.tmp 34) (.seq (.region [⟨some 6,.mov (.const (.int .i64 (-1))),none⟩]) (.ret)) (.skip))))))) (.region [⟨some 35,.bin .add .no (.tmp 11) (.const (.int .i64 1)),none⟩,
 ⟨some 11,.mov (.tmp 35),none⟩]))))))) (.seq (.seq (.region [⟨some 36,.mov (.tmp 0),none⟩,⟨some 37,.len true (.tmp 36),none⟩,⟨some 38,.mov (.tmp 1),none⟩,⟨some 39,.bin .lss .no (.tmp 37) (.tmp 38),none⟩]) (.cond (.tmp 39) (.seq (.region [⟨some 6,.mov (.const (.int .i64 (-1))),none⟩]) (.ret)) (.skip))) (.seq (.region [⟨some 40,.mov (.tmp 7),none⟩,
 ⟨some 6,.mov (.tmp 40),none⟩]) (.ret)))))) }

/-- posthorn/date.name -/
def F_date_name : ACFn := { nt := 25,results := [.tmp 6],body := (.seq (.region [⟨some 6,.mov (.const (.int .i64 0)),none⟩]) (.seq (.seq (.region [⟨some 8,.mov (.tmp 1),none⟩,⟨some 9,.mov (.const (.int .i64 0)),none⟩]) (.block 0 (.loop (.seq (.region [⟨some 10,.bin .lss .no (.tmp 9) (.tmp 8),none⟩]) (.seq (.cond (.tmp 10) (.skip) (.exit 0)) (.seq (.block 1 (.seq (.region [⟨some 11,.mov (.tmp 9),none⟩,
 ⟨some 7,.mov (.tmp 11),none⟩]) (.seq (.region [⟨some 12,.mov (.tmp 2),none⟩,⟨some 13,.mov (.tmp 7),none⟩,⟨some 14,.call (.tmp 12) [(.tmp 13)],none⟩,⟨some 15,.call (.fn 311) [(.tmp 14)],none⟩,⟨some 16,.mov (.tmp 0),none⟩,
 ⟨some 17,.call (.fn 311) [(.tmp 16)],none⟩,⟨some 18,.bin .eql .no (.tmp 15) (.tmp 17),none⟩,⟨some 19,.mov (.tmp 18),none⟩,⟨some 20,.mov (.tmp 0),some (19,true)⟩,⟨some 21,.bin .neq .no (.tmp 20) (.const (.str [])),some (19,true)⟩,
 ⟨some 22,.pick (.tmp 19) (.tmp 21) (.const (.bool false)),none⟩]) (.cond (.tmp 22) (.seq (.region [⟨some 23,.mov (.tmp 7),none⟩,⟨some 6,.mov (.tmp 23),none⟩]) (.ret)) (.skip))))) (.region [⟨some 24,.bin .add .no (.tmp 9) (.const (.int .i64 1)),none⟩,
 ⟨some 9,.mov (.tmp 24),none⟩]))))))) (.seq (.region [⟨some 6,.mov (.const (.int .i64 (-1))),none⟩]) (.ret)))) }

/-- posthorn/date.year -/
def F_date_year : ACFn := { nt := 21,results := [.tmp 2],body := (.seq (.region [⟨some 2,.mov (.const (.int .i64 0)),none⟩]) (.seq (.seq (.region [⟨some 4,.mov (.tmp 0),none⟩,⟨some 5,.len true (.tmp 4),none⟩,⟨some 6,.bin .eql .no (.tmp 5) (.const (.int .i64 4)),none⟩]) (.cond (.tmp 6) (.seq (.region [⟨some 7,.mov (.tmp 0),none⟩,
 ⟨some 8,.call (.fn 287) [(.tmp 7),(.const (.int .i64 4)),(.const (.int .i64 4))],none⟩,⟨some 2,.mov (.tmp 8),none⟩]) (.ret)) (.skip))) (.seq (.region [⟨some 9,.mov (.tmp 0),none⟩,⟨some 10,.call (.fn 287) [(.tmp 9),(.const (.int .i64 2)),(.const (.int .i64 2))],none⟩,
 ⟨some 3,.mov (.tmp 10),none⟩]) (.seq (.block 0 (.seq (.region [⟨some 12,.mov (.tmp 3),none⟩,⟨some 13,.bin .lss .no (.tmp 12) (.const (.int .i64 0)),none⟩,⟨some 11,.mov (.tmp 13),none⟩]) (.cond (.tmp 11) (.seq (.region [⟨some 2,.mov (.const (.int .i64 (-1))),none⟩]) (.ret)) (.seq (.region [⟨some 15,.mov (.tmp 3),none⟩,
 ⟨some 16,.bin .lss .no (.tmp 15) (.const (.int .i64 50)),none⟩,⟨some 14,.mov (.tmp 16),none⟩]) (.cond (.tmp 14) (.seq (.region [⟨some 17,.mov (.tmp 3),none⟩,⟨some 18,.bin .add .no (.const (.int .i64 2000)) (.tmp 17),none⟩,
 ⟨some 2,.mov (.tmp 18),none⟩]) (.ret)) (.skip)))))) (.seq (.region [⟨some 19,.mov (.tmp 3),none⟩,⟨some 20,.bin .add .no (.const (.int .i64 1900)) (.tmp 19),none⟩,⟨some 2,.mov (.tmp 20),none⟩]) (.ret)))))) }

/-- posthorn/date.clock -/
def F_date_clock : ACFn := { nt := 62,results := [.tmp 2],body := (.seq (.region [⟨some 2,.mov (.const (.int .i64 0)),none⟩]) (.seq (.region [⟨some 7,.mov (.tmp 0),none⟩,⟨some 8,.call (.fn 133) [(.tmp 7),(.const (.str [58]))],none⟩,
 ⟨some 3,.mov (.tmp 8),none⟩]) (.seq (.seq (.region [⟨some 9,.mov (.tmp 3),none⟩,⟨some 10,.len false (.tmp 9),none⟩,⟨some 11,.bin .lss .no (.tmp 10) (.const (.int .i64 2)),none⟩,⟨some 12,.mov (.tmp 11),none⟩,
 ⟨some 13,.mov (.tmp 3),some (12,false)⟩,⟨some 14,.len false (.tmp 13),some (12,false)⟩,⟨some 15,.bin .gtr .no (.tmp 14) (.const (.int .i64 3)),some (12,false)⟩,⟨some 16,.pick (.tmp 12) (.const (.bool true)) (.tmp 15),none⟩]) (.cond (.tmp 16) (.seq (.region [⟨some 2,.mov (.const (.int .i64 (-1))),none⟩]) (.ret)) (.skip))) (.seq (.region [⟨some 17,.mov (.tmp 3),none⟩,
 ⟨some 18,.iaddr 1 (.tmp 17) (.const (.int .i64 0)),none⟩,⟨some 19,.loadc false 1 (.tmp 18),none⟩,⟨some 20,.call (.fn 287) [(.tmp 19),(.const (.int .i64 2)),(.const (.int .i64 2))],none⟩,⟨some 21,.mov (.tmp 3),none⟩,
 ⟨some 22,.iaddr 1 (.tmp 21) (.const (.int .i64 1)),none⟩,⟨some 23,.loadc false 1 (.tmp 22),none⟩,⟨some 24,.call (.fn 287) [(.tmp 23),(.const (.int .i64 2)),(.const (.int .i64 2))],none⟩,⟨some 4,.mov (.tmp 20),none⟩,
 ⟨some 5,.mov (.tmp 24),none⟩,⟨some 6,.mov (.const (.int .i64 0)),none⟩]) (.seq (.seq (.region [⟨some 25,.mov (.tmp 3),none⟩,⟨some 26,.len false (.tmp 25),none⟩,⟨some 27,.bin .eql .no (.tmp 26) (.const (.int .i64 3)),none⟩]) (.cond (.tmp 27) (.region [⟨some 28,.mov (.tmp 3),none⟩,
 ⟨some 29,.iaddr 1 (.tmp 28) (.const (.int .i64 2)),none⟩,⟨some 30,.loadc false 1 (.tmp 29),none⟩,⟨some 31,.call (.fn 287) [(.tmp 30),(.const (.int .i64 2)),(.const (.int .i64 2))],none⟩,⟨some 6,.mov (.tmp 31),none⟩]) (.skip))) (.seq (.seq (.region [⟨some 32,.mov (.tmp 4),none⟩,
 ⟨some 33,.bin .lss .no (.tmp 32) (.const (.int .i64 0)),none⟩,⟨some 34,.mov (.tmp 33),none⟩,⟨some 35,.mov (.tmp 4),some (34,false)⟩,⟨some 36,.bin .gtr .no (.tmp 35) (.const (.int .i64 23)),some (34,false)⟩,
 ⟨some 37,.pick (.tmp 34) (.const (.bool true)) (.tmp 36),none⟩,⟨some 38,.mov (.tmp 37),none⟩,⟨some 39,.mov (.tmp 5),some (38,false)⟩,⟨some 40,.bin .lss .no (.tmp 39) (.const (.int .i64 0)),some (38,false)⟩,
 ⟨some 41,.pick (.tmp 38) (.const (.bool true)) (.tmp 40),none⟩,⟨some 42,.mov (.tmp 41),none⟩,⟨some 43,.mov (.tmp 5),some (42,false)⟩,⟨some 44,.bin .gtr .no (.tmp 43) (.const (.int .i64 59)),some (42,false)⟩,
 ⟨some 45,.pick (.tmp 42) (.const (.bool true)) (.tmp 44),none⟩,⟨some 46,.mov (.tmp 45),none⟩,⟨some 47,.mov (.tmp 6),some (46,false)⟩,⟨some 48,.bin .lss .no (.tmp 47) (.const (.int .i64 0)),some (46,false)⟩,
 ⟨some 49,.pick (.tmp 46) (.const (.bool true)) (.tmp 48),none⟩,⟨some 50,.mov (.tmp 49),none⟩,⟨some 51,.mov (.tmp 6),some (50,false)⟩,⟨some 52,.bin .gtr .no (.tmp 51) (.const (.int .i64 60)),some (50,false)⟩,
 ⟨some 53,.pick (.tmp 50) (.const (.bool true)) (.tmp 52),none⟩]) (.cond (.tmp 53) (.seq (.region [⟨some 2,.mov (.const (.int .i64 (-1))),none⟩]) (.ret)) (.skip))) (.seq (.region [⟨some 54,.mov (.tmp 4),none⟩,
 ⟨some 55,.bin .mul .no (.tmp 54) (.const (.int .i64 3600)),none⟩,⟨some 56,.mov (.tmp 5),none⟩,⟨some 57,.bin .mul .no (.tmp 56) (.const (.int .i64 60)),none⟩,⟨some 58,.bin .add .no (.tmp 55) (.tmp 57),none⟩,
 ⟨some 59,.mov (.tmp 6),none⟩,⟨some 60,.mnmx false [(.tmp 59),(.const (.int .i64 59))],none⟩,⟨some 61,.bin .add .no (.tmp 58) (.tmp 60),none⟩,⟨some 2,.mov (.tmp 61),none⟩]) (.ret)))))))) }

/-- posthorn/date.zone -/
def F_date_zone : ACFn := { nt := 64,results := [.tmp 2,.tmp 3],body := (.seq (.region [⟨some 2,.mov (.const (.int .i64 0)),none⟩,⟨some 3,.mov (.const (.bool false)),none⟩]) (.seq (.seq (.region [⟨some 7,.mov (.tmp 0),none⟩,⟨some 8,.call (.fn 311) [(.tmp 7)],none⟩]) (.block 0 (.seq (.seq (.region [⟨some 10,.bin .eql .no (.tmp 8) (.const (.str [117,116])),none⟩,
 ⟨some 9,.mov (.tmp 10),none⟩]) (.cond (.tmp 9) (.skip) (.seq (.region [⟨some 11,.bin .eql .no (.tmp 8) (.const (.str [103,109,116])),none⟩,⟨some 9,.mov (.tmp 11),none⟩]) (.cond (.tmp 9) (.skip) (.seq (.region [⟨some 12,.bin .eql .no (.tmp 8) (.const (.str [122])),none⟩,
 ⟨some 9,.mov (.tmp 12),none⟩]) (.cond (.tmp 9) (.skip) (.region [⟨some 13,.bin .eql .no (.tmp 8) (.const (.str [])),none⟩,⟨some 9,.mov (.tmp 13),none⟩]))))))) (.cond (.tmp 9) (.seq (.region [⟨some 2,.mov (.const (.int .i64 0)),none⟩,
 ⟨some 3,.mov (.const (.bool true)),none⟩]) (.ret)) (.seq (.region [⟨some 15,.bin .eql .no (.tmp 8) (.const (.str [101,100,116])),none⟩,⟨some 14,.mov (.tmp 15),none⟩]) (.cond (.tmp 14) (.seq (.region [⟨some 2,.mov (.const (.int .i64 (-14400))),none⟩,
 ⟨some 3,.mov (.const (.bool true)),none⟩]) (.ret)) (.seq (.seq (.region [⟨some 17,.bin .eql .no (.tmp 8) (.const (.str [101,115,116])),none⟩,⟨some 16,.mov (.tmp 17),none⟩]) (.cond (.tmp 16) (.skip) (.region [⟨some 18,.bin .eql .no (.tmp 8) (.const (.str [99,100,116])),none⟩,
 ⟨some 16,.mov (.tmp 18),none⟩]))) (.cond (.tmp 16) (.seq (.region [⟨some 2,.mov (.const (.int .i64 (-18000))),none⟩,⟨some 3,.mov (.const (.bool true)),none⟩]) (.ret)) (.seq (.seq (.region [⟨some 20,.bin .eql .no (.tmp 8) (.const (.str [99,115,116])),none⟩,
 ⟨some 19,.mov (.tmp 20),none⟩]) (.cond (.tmp 19) (.skip) (.region [⟨some 21,.bin .eql .no (.tmp 8) (.const (.str [109,100,116])),none⟩,⟨some 19,.mov (.tmp 21),none⟩]))) (.cond (.tmp 19) (.seq (.region [⟨some 2,.mov (.const (.int .i64 (-21600))),none⟩,
 ⟨some 3,.mov (.const (.bool true)),none⟩]) (.ret)) (.seq (.seq (.region [⟨some 23,.bin .eql .no (.tmp 8) (.const (.str [109,115,116])),none⟩,⟨some 22,.mov (.tmp 23),none⟩]) (.cond (.tmp 22) (.skip) (.region [⟨some 24,.bin .eql .no (.tmp 8) (.const (.str [112,100,116])),none⟩,
 ⟨some 22,.mov (.tmp 24),none⟩]))) (.cond (.tmp 22) (.seq (.region [⟨some 2,.mov (.const (.int .i64 (-25200))),none⟩,⟨some 3,.mov (.const (.bool true)),none⟩]) (.ret)) (.seq (.region [⟨some 26,.bin .eql .no (.tmp 8) (.const (.str [112,115,116])),none⟩,
 ⟨some 25,.mov (.tmp 26),none⟩]) (.cond (.tmp 25) (.seq (.region [⟨some 2,.mov (.const (.int .i64 (-28800))),none⟩,⟨some 3,.mov (.const (.bool true)),none⟩]) (.ret)) (.skip))))))))))))))) (.seq (.seq (.region [⟨some 27,.mov (.tmp 0),none⟩,
 ⟨some 28,.idxS (.tmp 27) (.const (.int .i64 0)),none⟩,⟨some 29,.bin .neq .no (.tmp 28) (.const (.b8 43)),none⟩,⟨some 30,.mov (.tmp 29),none⟩,⟨some 31,.mov (.tmp 0),some (30,true)⟩,⟨some 32,.idxS (.tmp 31) (.const (.int .i64 0)),some (30,true)⟩,
 ⟨some 33,.bin .neq .no (.tmp 32) (.const (.b8 45)),some (30,true)⟩,⟨some 34,.pick (.tmp 30) (.tmp 33) (.const (.bool false)),none⟩,⟨some 35,.mov (.tmp 34),none⟩,⟨some 36,.mov (.tmp 0),some (35,false)⟩,
 ⟨some 37,.slc 0 (.tmp 36) (some (.const (.int .i64 1))) none none,some (35,false)⟩,⟨some 38,.call (.fn 287) [(.tmp 37),(.const (.int .i64 4)),(.const (.int .i64 4))],some (35,false)⟩,⟨some 39,.bin .lss .no (.tmp 38) (.const (.int .i64 0)),some (35,false)⟩,
 ⟨some 40,.pick (.tmp 35) (.const (.bool true)) (.tmp 39),none⟩]) (.cond (.tmp 40) (.seq (.region [⟨some 2,.mov (.const (.int .i64 0)),none⟩,⟨some 3,.mov (.const (.bool false)),none⟩]) (.ret)) (.skip))) (.seq (.region [⟨some 41,.mov (.tmp 0),none⟩,
 ⟨some 42,.slc 0 (.tmp 41) (some (.const (.int .i64 1))) (some (.const (.int .i64 3))) none,none⟩,⟨some 43,.call (.fn 287) [(.tmp 42),(.const (.int .i64 2)),(.const (.int .i64 2))],none⟩,⟨some 44,.mov (.tmp 0),none⟩,
 ⟨some 45,.slc 0 (.tmp 44) (some (.const (.int .i64 3))) none none,none⟩,⟨some 46,.call (.fn 287) [(.tmp 45),(.const (.int .i64 2)),(.const (.int .i64 2))],none⟩,⟨some 4,.mov (.tmp 43),none⟩,⟨some 5,.mov (.tmp 46),none⟩]) (.seq (.region [⟨some 47,.mov (.tmp 4),none⟩,
 ⟨some 48,.bin .mul .no (.tmp 47) (.const (.int .i64 3600)),none⟩,⟨some 49,.mov (.tmp 5),none⟩,⟨some 50,.bin .mul .no (.tmp 49) (.const (.int .i64 60)),none⟩,⟨some 51,.bin .add .no (.tmp 48) (.tmp 50),none⟩,
 ⟨some 6,.mov (.tmp 51),none⟩]) (.seq (.seq (.region [⟨some 52,.mov (.tmp 0),none⟩,⟨some 53,.idxS (.tmp 52) (.const (.int .i64 0)),none⟩,⟨some 54,.bin .eql .no (.tmp 53) (.const (.b8 45)),none⟩]) (.cond (.tmp 54) (.region [⟨some 55,.mov (.tmp 6),none⟩,
 ⟨some 56,.un .neg (.tmp 55),none⟩,⟨some 6,.mov (.tmp 56),none⟩]) (.skip))) (.seq (.region [⟨some 57,.mov (.tmp 6),none⟩,⟨some 58,.mov (.tmp 4),none⟩,⟨some 59,.bin .lss .no (.tmp 58) (.const (.int .i64 24)),none⟩,
 ⟨some 60,.mov (.tmp 59),none⟩,⟨some 61,.mov (.tmp 5),some (60,true)⟩,⟨some 62,.bin .lss .no (.tmp 61) (.const (.int .i64 60)),some (60,true)⟩,⟨some 63,.pick (.tmp 60) (.tmp 62) (.const (.bool false)),none⟩,
 ⟨some 2,.mov (.tmp 57),none⟩,⟨some 3,.mov (.tmp 63),none⟩]) (.ret)))))))) }

/-- posthorn/when.Days -/
def F_when_Days : ACFn := { nt := 53,results := [.tmp 6,.tmp 7],body := (.seq (.region [⟨some 6,.mov (.const (.int .i64 0)),none⟩,⟨some 7,.mov (.const (.int .i64 0)),none⟩]) (.seq (.seq (.region [⟨some 10,.mov (.tmp 0),none⟩,⟨some 11,.bin .lss .no (.tmp 10) (.const (.int .i64 1970)),none⟩,
 ⟨some 12,.mov (.tmp 11),none⟩,⟨some 13,.mov (.tmp 0),some (12,false)⟩,⟨some 14,.bin .gtr .no (.tmp 13) (.const (.int .i64 9999)),some (12,false)⟩,⟨some 15,.pick (.tmp 12) (.const (.bool true)) (.tmp 14),none⟩,
 ⟨some 16,.mov (.tmp 15),none⟩,⟨some 17,.mov (.tmp 1),some (16,false)⟩,⟨some 18,.bin .lss .no (.tmp 17) (.const (.int .i64 1)),some (16,false)⟩,⟨some 19,.pick (.tmp 16) (.const (.bool true)) (.tmp 18),none⟩,
 ⟨some 20,.mov (.tmp 19),none⟩,⟨some 21,.mov (.tmp 1),some (20,false)⟩,⟨some 22,.bin .gtr .no (.tmp 21) (.const (.int .i64 12)),some (20,false)⟩,⟨some 23,.pick (.tmp 20) (.const (.bool true)) (.tmp 22),none⟩,
 ⟨some 24,.mov (.tmp 23),none⟩,⟨some 25,.mov (.tmp 2),some (24,false)⟩,⟨some 26,.bin .lss .no (.tmp 25) (.const (.int .i64 1)),some (24,false)⟩,⟨some 27,.pick (.tmp 24) (.const (.bool true)) (.tmp 26),none⟩,
 ⟨some 28,.mov (.tmp 27),none⟩,⟨some 29,.mov (.tmp 2),some (28,false)⟩,⟨some 30,.mov (.tmp 0),some (28,false)⟩,⟨some 31,.mov (.tmp 1),some (28,false)⟩,⟨some 32,.call (.fn 307) [(.tmp 30),(.tmp 31)],some (28,false)⟩,
 ⟨some 33,.bin .gtr .no (.tmp 29) (.tmp 32),some (28,false)⟩,⟨some 34,.pick (.tmp 28) (.const (.bool true)) (.tmp 33),none⟩]) (.cond (.tmp 34) (.seq (.region [⟨some 6,.mov (.const (.int .i64 0)),none⟩,⟨some 7,.mov (.const (.int .i64 110)),none⟩]) (.ret)) (.skip))) (.seq (.region [⟨some 35,.mov (.tmp 0),none⟩,
 ⟨some 36,.call (.fn 306) [(.tmp 35)],none⟩,⟨some 37,.mov (.tmp 2),none⟩,⟨some 38,.bin .add .no (.tmp 36) (.tmp 37),none⟩,⟨some 39,.bin .sub .no (.tmp 38) (.const (.int .i64 1)),none⟩,⟨some 8,.mov (.tmp 39),none⟩]) (.seq (.seq (.region [⟨some 40,.mov (.tmp 1),none⟩,
 ⟨some 41,.mov (.const (.int .i64 0)),none⟩]) (.block 0 (.loop (.seq (.region [⟨some 42,.bin .lss .no (.tmp 41) (.tmp 40),none⟩]) (.seq (.cond (.tmp 42) (.skip) (.exit 0)) (.seq (.block 1 (.seq (.region [⟨some 43,.mov (.tmp 41),none⟩,
 ⟨some 9,.mov (.tmp 43),none⟩]) (.seq (.region [⟨some 44,.mov (.tmp 9),none⟩,⟨some 45,.bin .gtr .no (.tmp 44) (.const (.int .i64 0)),none⟩]) (.cond (.tmp 45) (.region [⟨some 46,.mov (.tmp 8),none⟩,⟨some 47,.mov (.tmp 0),none⟩,
 ⟨some 48,.mov (.tmp 9),none⟩,⟨some 49,.call (.fn 307) [(.tmp 47),(.tmp 48)],none⟩,⟨some 50,.bin .add .no (.tmp 46) (.tmp 49),none⟩,⟨some 8,.mov (.tmp 50),none⟩]) (.skip))))) (.region [⟨some 51,.bin .add .no (.tmp 41) (.const (.int .i64 1)),none⟩,
 ⟨some 41,.mov (.tmp 51),none⟩]))))))) (.seq (.region [⟨some 52,.mov (.tmp 8),none⟩,⟨some 6,.mov (.tmp 52),none⟩,⟨some 7,.mov (.const (.int .i64 0)),none⟩]) (.ret)))))) }

/-- posthorn/posthornref20.clean -/
def F_posthornref20_clean : ACFn := { nt := 45,results := [.tmp 2,.tmp 3],body := (.seq (.region [⟨some 2,.mov (.const (.str [])),none⟩,⟨some 3,.mov (.const (.bool false)),none⟩]) (.seq (.region [⟨some 4,.mov (.const (.nils)),none⟩]) (.seq (.region [⟨some 5,.mov (.const (.bool false)),none⟩]) (.seq (.seq (.region [⟨some 6,.mov (.const (.int .i64 0)),none⟩]) (.block 0 (.loop (.seq (.seq (.region [⟨some 7,.mov (.tmp 6),none⟩,
 ⟨some 8,.mov (.tmp 0),none⟩,⟨some 9,.len true (.tmp 8),none⟩,⟨some 10,.bin .lss .no (.tmp 7) (.tmp 9),none⟩]) (.cond (.tmp 10) (.skip) (.exit 0))) (.seq (.block 1 (.block 2 (.seq (.region [⟨some 20,.mov (.tmp 5),none⟩,
 ⟨some 19,.mov (.tmp 20),none⟩]) (.cond (.tmp 19) (.region [⟨some 21,.mov (.tmp 0),none⟩,⟨some 22,.mov (.tmp 6),none⟩,⟨some 23,.idxS (.tmp 21) (.tmp 22),none⟩,⟨some 24,.bin .neq .no (.tmp 23) (.const (.b8 41)),none⟩,
 ⟨some 5,.mov (.tmp 24),none⟩]) (.seq (.region [⟨some 26,.mov (.tmp 0),none⟩,⟨some 27,.mov (.tmp 6),none⟩,⟨some 28,.idxS (.tmp 26) (.tmp 27),none⟩,⟨some 29,.bin .eql .no (.tmp 28) (.const (.b8 40)),none⟩,
 ⟨some 25,.mov (.tmp 29),none⟩]) (.cond (.tmp 25) (.seq (.region [⟨some 5,.mov (.const (.bool true)),none⟩]) (.region [⟨some 30,.mov (.tmp 4),none⟩,⟨some 31,.lit8 1 [(0,(.const (.b8 32)))],none⟩,⟨some 32,.app true 1 (.tmp 30) (.tmp 31),none⟩,
 ⟨some 4,.mov (.tmp 32),none⟩])) (.seq (.region [⟨some 34,.mov (.tmp 0),none⟩,⟨some 35,.mov (.tmp 6),none⟩,⟨some 36,.idxS (.tmp 34) (.tmp 35),none⟩,⟨some 37,.bin .eql .no (.tmp 36) (.const (.b8 9)),none⟩,
 ⟨some 33,.mov (.tmp 37),none⟩]) (.cond (.tmp 33) (.region [⟨some 38,.mov (.tmp 4),none⟩,⟨some 39,.lit8 1 [(0,(.const (.b8 32)))],none⟩,⟨some 40,.app true 1 (.tmp 38) (.tmp 39),none⟩,⟨some 4,.mov (.tmp 40),none⟩]) (.region [⟨some 13,.mov (.tmp 4),none⟩,
 ⟨some 14,.mov (.tmp 0),none⟩,⟨some 15,.mov (.tmp 6),none⟩,⟨some 16,.idxS (.tmp 14) (.tmp 15),none⟩,⟨some 17,.lit8 1 [(0,(.tmp 16))],none⟩,⟨some 18,.app true 1 (.tmp 13) (.tmp 17),none⟩,⟨some 4,.mov (.tmp 18),none⟩]))))))))) (.region [⟨some 11,.mov (.tmp 6),none⟩,
 ⟨some 12,.bin .add .no (.tmp 11) (.const (.int .i64 1)),none⟩,⟨some 6,.mov (.tmp 12),none⟩])))))) (.seq (.region [⟨some 41,.mov (.tmp 4),none⟩,⟨some 42,.cB2S false (.tmp 41),none⟩,⟨some 43,.mov (.tmp 5),none⟩,
 ⟨some 44,.un .not (.tmp 43),none⟩,⟨some 2,.mov (.tmp 42),none⟩,⟨some 3,.mov (.tmp 44),none⟩]) (.ret)))))) }

/-- posthorn/posthornref20.words -/
def F_posthornref20_words : ACFn := { nt := 27,results := [.tmp 2],body := (.seq (.region [⟨some 2,.mov (.const (.nils)),none⟩]) (.seq (.region [⟨some 6,.mov (.tmp 0),none⟩,⟨some 7,.call (.fn 215) [(.tmp 6),(.const (.b8 32))],none⟩,⟨some 3,.mov (.tmp 7),none⟩]) (.seq (.region [⟨some 4,.mov (.const (.nils)),none⟩]) (.seq (.seq (.region [⟨some 5,.mov (.const (.int .i64 0)),none⟩]) (.block 0 (.loop (.seq (.seq (.region [⟨some 8,.mov (.tmp 5),none⟩,
 ⟨some 9,.mov (.tmp 3),none⟩,⟨some 10,.len false (.tmp 9),none⟩,⟨some 11,.bin .lss .no (.tmp 8) (.tmp 10),none⟩]) (.cond (.tmp 11) (.skip) (.exit 0))) (.seq (.block 1 (.seq (.region [⟨some 14,.mov (.tmp 3),none⟩,
 ⟨some 15,.mov (.tmp 5),none⟩,⟨some 16,.iaddr 1 (.tmp 14) (.tmp 15),none⟩,⟨some 17,.load false 1 (.tmp 16),none⟩,⟨some 18,.bin .neq .no (.tmp 17) (.const (.str [])),none⟩]) (.cond (.tmp 18) (.region [⟨some 19,.mov (.tmp 4),none⟩,
 ⟨some 20,.mov (.tmp 3),none⟩,⟨some 21,.mov (.tmp 5),none⟩,⟨some 22,.iaddr 1 (.tmp 20) (.tmp 21),none⟩,⟨some 23,.load false 1 (.tmp 22),none⟩,⟨some 24,.lit 1 (.str []) 1 [(0,(.tmp 23))],none⟩,⟨some 25,.app false 1 (.tmp 19) (.tmp 24),none⟩,
 ⟨some 4,.mov (.tmp 25),none⟩]) (.skip)))) (.region [⟨some 12,.mov (.tmp 5),none⟩,⟨some 13,.bin .add .no (.tmp 12) (.const (.int .i64 1)),none⟩,⟨some 5,.mov (.tmp 13),none⟩])))))) (.seq (.region [⟨some 26,.mov (.tmp 4),none⟩,
 ⟨some 2,.mov (.tmp 26),none⟩]) (.ret)))))) }

/-- posthorn/posthornref20.named -/
def F_posthornref20_named : ACFn := { nt := 71,results := [.tmp 2,.tmp 3,.tmp 4],body := (.seq (.region [⟨some 2,.mov (.const (.nils)),none⟩,⟨some 3,.mov (.const (.int .i64 0)),none⟩,⟨some 4,.mov (.const (.bool false)),none⟩]) (.seq (.seq (.region [⟨some 10,.mov (.tmp 0),none⟩,
 ⟨some 11,.len false (.tmp 10),none⟩,⟨some 12,.bin .eql .no (.tmp 11) (.const (.int .i64 0)),none⟩]) (.cond (.tmp 12) (.seq (.region [⟨some 2,.mov (.const (.nils)),none⟩,⟨some 3,.mov (.const (.int .i64 (-1))),none⟩,
 ⟨some 4,.mov (.const (.bool false)),none⟩]) (.ret)) (.skip))) (.seq (.region [⟨some 13,.mov (.tmp 0),none⟩,⟨some 14,.iaddr 1 (.tmp 13) (.const (.int .i64 0)),none⟩,⟨some 15,.load false 1 (.tmp 14),none⟩,
 ⟨some 5,.mov (.tmp 15),none⟩]) (.seq (.region [⟨some 6,.mov (.const (.int .i64 0)),none⟩]) (.seq (.block 0 (.loop (.seq (.seq (.region [⟨some 16,.mov (.tmp 6),none⟩,⟨some 17,.mov (.tmp 5),none⟩,⟨some 18,.len true (.tmp 17),none⟩,
 ⟨some 19,.bin .lss .no (.tmp 16) (.tmp 18),none⟩,⟨some 20,.mov (.tmp 19),none⟩,⟨some 21,.mov (.tmp 5),some (20,true)⟩,⟨some 22,.mov (.tmp 6),some (20,true)⟩,⟨some 23,.idxS (.tmp 21) (.tmp 22),some (20,true)⟩,
 ⟨some 24,.bin .neq .no (.tmp 23) (.const (.b8 44)),some (20,true)⟩,⟨some 25,.pick (.tmp 20) (.tmp 24) (.const (.bool false)),none⟩]) (.cond (.tmp 25) (.skip) (.exit 0))) (.block 1 (.region [⟨some 26,.mov (.tmp 6),none⟩,
 ⟨some 27,.bin .add .no (.tmp 26) (.const (.int .i64 1)),none⟩,⟨some 6,.mov (.tmp 27),none⟩]))))) (.seq (.region [⟨some 7,.mov (.const (.str [])),none⟩]) (.seq (.seq (.region [⟨some 28,.mov (.tmp 6),none⟩,
 ⟨some 29,.mov (.tmp 5),none⟩,⟨some 30,.len true (.tmp 29),none⟩,⟨some 31,.bin .eql .no (.tmp 28) (.tmp 30),none⟩]) (.cond (.tmp 31) (.seq (.seq (.region [⟨some 32,.mov (.tmp 0),none⟩,⟨some 33,.len false (.tmp 32),none⟩,
 ⟨some 34,.bin .eql .no (.tmp 33) (.const (.int .i64 1)),none⟩,⟨some 35,.mov (.tmp 34),none⟩,⟨some 36,.mov (.tmp 0),some (35,false)⟩,⟨some 37,.iaddr 1 (.tmp 36) (.const (.int .i64 1)),some (35,false)⟩,⟨some 38,.load false 1 (.tmp 37),some (35,false)⟩,
 ⟨some 39,.idxS (.tmp 38) (.const (.int .i64 0)),some (35,false)⟩,⟨some 40,.bin .neq .no (.tmp 39) (.const (.b8 44)),some (35,false)⟩,⟨some 41,.pick (.tmp 35) (.const (.bool true)) (.tmp 40),none⟩]) (.cond (.tmp 41) (.seq (.region [⟨some 42,.mov (.tmp 0),none⟩,
 ⟨some 2,.mov (.tmp 42),none⟩,⟨some 3,.mov (.const (.int .i64 (-1))),none⟩,⟨some 4,.mov (.const (.bool true)),none⟩]) (.ret)) (.skip))) (.seq (.region [⟨some 43,.mov (.tmp 0),none⟩,⟨some 44,.iaddr 1 (.tmp 43) (.const (.int .i64 1)),none⟩,
 ⟨some 45,.load false 1 (.tmp 44),none⟩,⟨some 46,.slc 0 (.tmp 45) (some (.const (.int .i64 1))) none none,none⟩,⟨some 7,.mov (.tmp 46),none⟩]) (.region [⟨some 47,.mov (.tmp 0),none⟩,⟨some 48,.slc 1 (.tmp 47) (some (.const (.int .i64 2))) none none,none⟩,
 ⟨some 0,.mov (.tmp 48),none⟩]))) (.seq (.region [⟨some 49,.mov (.tmp 5),none⟩,⟨some 50,.mov (.tmp 6),none⟩,⟨some 51,.bin .add .no (.tmp 50) (.const (.int .i64 1)),none⟩,⟨some 52,.slc 0 (.tmp 49) (some (.tmp 51)) none none,none⟩,
 ⟨some 7,.mov (.tmp 52),none⟩]) (.region [⟨some 53,.mov (.tmp 0),none⟩,⟨some 54,.slc 1 (.tmp 53) (some (.const (.int .i64 1))) none none,none⟩,⟨some 0,.mov (.tmp 54),none⟩])))) (.seq (.region [⟨some 8,.mov (.const (.nils)),none⟩]) (.seq (.seq (.region [⟨some 55,.mov (.tmp 7),none⟩,
 ⟨some 56,.bin .neq .no (.tmp 55) (.const (.str [])),none⟩]) (.cond (.tmp 56) (.region [⟨some 57,.mov (.tmp 8),none⟩,⟨some 58,.mov (.tmp 7),none⟩,⟨some 59,.lit 1 (.str []) 1 [(0,(.tmp 58))],none⟩,⟨some 60,.app false 1 (.tmp 57) (.tmp 59),none⟩,
 ⟨some 8,.mov (.tmp 60),none⟩]) (.skip))) (.seq (.region [⟨some 61,.mov (.tmp 5),none⟩,⟨some 62,.mov (.tmp 6),none⟩,⟨some 63,.slc 0 (.tmp 61) none (some (.tmp 62)) none,none⟩,⟨some 64,.call (.fn 312) [(.tmp 63)],none⟩,
 ⟨some 9,.mov (.tmp 64),none⟩]) (.seq (.region [⟨some 65,.mov (.tmp 8),none⟩,⟨some 66,.mov (.tmp 0),none⟩,⟨some 67,.app false 1 (.tmp 65) (.tmp 66),none⟩,⟨some 68,.mov (.tmp 9),none⟩,⟨some 69,.mov (.tmp 9),none⟩,
 ⟨some 70,.bin .geq .no (.tmp 69) (.const (.int .i64 0)),none⟩,⟨some 2,.mov (.tmp 67),none⟩,⟨some 3,.mov (.tmp 68),none⟩,⟨some 4,.mov (.tmp 70),none⟩]) (.ret)))))))))))) }

/-- posthorn/posthornref20.number -/
def F_posthornref20_number : ACFn := { nt := 11,results := [.tmp 4],body := (.seq (.region [⟨some 4,.mov (.const (.int .i64 0)),none⟩]) (.seq (.seq (.region [⟨some 5,.mov (.tmp 0),none⟩,⟨some 6,.len true (.tmp 5),none⟩,⟨some 7,.mov (.tmp 1),none⟩,
 ⟨some 8,.bin .neq .no (.tmp 6) (.tmp 7),none⟩]) (.cond (.tmp 8) (.seq (.region [⟨some 4,.mov (.const (.int .i64 (-1))),none⟩]) (.ret)) (.skip))) (.seq (.region [⟨some 9,.mov (.tmp 0),none⟩,⟨some 10,.call (.fn 313) [(.tmp 9)],none⟩,
 ⟨some 4,.mov (.tmp 10),none⟩]) (.ret)))) }

/-- posthorn/posthornref20.yearOf -/
def F_posthornref20_yearOf : ACFn := { nt := 23,results := [.tmp 2],body := (.seq (.region [⟨some 2,.mov (.const (.int .i64 0)),none⟩]) (.seq (.seq (.region [⟨some 4,.mov (.tmp 0),none⟩,⟨some 5,.len true (.tmp 4),none⟩,⟨some 6,.bin .eql .no (.tmp 5) (.const (.int .i64 4)),none⟩]) (.cond (.tmp 6) (.seq (.region [⟨some 7,.mov (.tmp 0),none⟩,
 ⟨some 8,.call (.fn 296) [(.tmp 7),(.const (.int .i64 4))],none⟩,⟨some 2,.mov (.tmp 8),none⟩]) (.ret)) (.skip))) (.seq (.region [⟨some 9,.mov (.tmp 0),none⟩,⟨some 10,.call (.fn 296) [(.tmp 9),(.const (.int .i64 2))],none⟩,
 ⟨some 3,.mov (.tmp 10),none⟩]) (.seq (.seq (.region [⟨some 11,.mov (.tmp 3),none⟩,⟨some 12,.bin .geq .no (.tmp 11) (.const (.int .i64 0)),none⟩,⟨some 13,.mov (.tmp 12),none⟩,⟨some 14,.mov (.tmp 3),some (13,true)⟩,
 ⟨some 15,.bin .lss .no (.tmp 14) (.const (.int .i64 50)),some (13,true)⟩,⟨some 16,.pick (.tmp 13) (.tmp 15) (.const (.bool false)),none⟩]) (.cond (.tmp 16) (.seq (.region [⟨some 17,.mov (.tmp 3),none⟩,
 ⟨some 18,.bin .add .no (.tmp 17) (.const (.int .i64 2000)),none⟩,⟨some 2,.mov (.tmp 18),none⟩]) (.ret)) (.skip))) (.seq (.seq (.region [⟨some 19,.mov (.tmp 3),none⟩,⟨some 20,.bin .geq .no (.tmp 19) (.const (.int .i64 50)),none⟩]) (.cond (.tmp 20) (.seq (.region [⟨some 21,.mov (.tmp 3),none⟩,
 ⟨some 22,.bin .add .no (.tmp 21) (.const (.int .i64 1900)),none⟩,⟨some 2,.mov (.tmp 22),none⟩]) (.ret)) (.skip))) (.seq (.region [⟨some 2,.mov (.const (.int .i64 (-1))),none⟩]) (.ret))))))) }

/-- posthorn/posthornref20.monthOf -/
def F_posthornref20_monthOf : ACFn := { nt := 15,results := [.tmp 2],body := (.seq (.region [⟨some 2,.mov (.const (.int .i64 0)),none⟩]) (.seq (.seq (.region [⟨some 3,.mov (.const (.int .i64 1)),none⟩]) (.block 0 (.loop (.seq (.seq (.region [⟨some 4,.mov (.tmp 3),none⟩,
 ⟨some 5,.bin .leq .no (.tmp 4) (.const (.int .i64 12)),none⟩]) (.cond (.tmp 5) (.skip) (.exit 0))) (.seq (.block 1 (.seq (.region [⟨some 8,.mov (.tmp 3),none⟩,⟨some 9,.call (.fn 283) [(.tmp 8)],none⟩,⟨some 10,.call (.fn 114) [(.tmp 9)],none⟩,
 ⟨some 11,.mov (.tmp 0),none⟩,⟨some 12,.call (.fn 114) [(.tmp 11)],none⟩,⟨some 13,.bin .eql .no (.tmp 10) (.tmp 12),none⟩]) (.cond (.tmp 13) (.seq (.region [⟨some 14,.mov (.tmp 3),none⟩,⟨some 2,.mov (.tmp 14),none⟩]) (.ret)) (.skip)))) (.region [⟨some 6,.mov (.tmp 3),none⟩,
 ⟨some 7,.bin .add .no (.tmp 6) (.const (.int .i64 1)),none⟩,⟨some 3,.mov (.tmp 7),none⟩])))))) (.seq (.region [⟨some 2,.mov (.const (.int .i64 (-1))),none⟩]) (.ret)))) }

/-- posthorn/posthornref12.Days -/
def F_posthornref12_Days : ACFn := { nt := 59,results := [.tmp 6,.tmp 7],body := (.seq (.region [⟨some 6,.mov (.const (.int .i64 0)),none⟩,⟨some 7,.mov (.const (.int .i64 0)),none⟩]) (.seq (.seq (.region [⟨some 11,.mov (.tmp 0),none⟩,⟨some 12,.bin .lss .no (.tmp 11) (.const (.int .i64 1970)),none⟩,
 ⟨some 13,.mov (.tmp 12),none⟩,⟨some 14,.mov (.tmp 0),some (13,false)⟩,⟨some 15,.bin .gtr .no (.tmp 14) (.const (.int .i64 9999)),some (13,false)⟩,⟨some 16,.pick (.tmp 13) (.const (.bool true)) (.tmp 15),none⟩,
 ⟨some 17,.mov (.tmp 16),none⟩,⟨some 18,.mov (.tmp 1),some (17,false)⟩,⟨some 19,.bin .lss .no (.tmp 18) (.const (.int .i64 1)),some (17,false)⟩,⟨some 20,.pick (.tmp 17) (.const (.bool true)) (.tmp 19),none⟩,
 ⟨some 21,.mov (.tmp 20),none⟩,⟨some 22,.mov (.tmp 1),some (21,false)⟩,⟨some 23,.bin .gtr .no (.tmp 22) (.const (.int .i64 12)),some (21,false)⟩,⟨some 24,.pick (.tmp 21) (.const (.bool true)) (.tmp 23),none⟩,
 ⟨some 25,.mov (.tmp 24),none⟩,⟨some 26,.mov (.tmp 2),some (25,false)⟩,⟨some 27,.bin .lss .no (.tmp 26) (.const (.int .i64 1)),some (25,false)⟩,⟨some 28,.pick (.tmp 25) (.const (.bool true)) (.tmp 27),none⟩,
 ⟨some 29,.mov (.tmp 28),none⟩,⟨some 30,.mov (.tmp 2),some (29,false)⟩,⟨some 31,.mov (.tmp 0),some (29,false)⟩,⟨some 32,.mov (.tmp 1),some (29,false)⟩,⟨some 33,.call (.fn 309) [(.tmp 31),(.tmp 32)],some (29,false)⟩,
 ⟨some 34,.bin .gtr .no (.tmp 30) (.tmp 33),some (29,false)⟩,⟨some 35,.pick (.tmp 29) (.const (.bool true)) (.tmp 34),none⟩]) (.cond (.tmp 35) (.seq (.region [⟨some 6,.mov (.const (.int .i64 0)),none⟩,⟨some 7,.mov (.const (.int .i64 110)),none⟩]) (.ret)) (.skip))) (.seq (.region [⟨some 8,.mov (.const (.int .i64 0)),none⟩]) (.seq (.seq (.region [⟨some 9,.mov (.const (.int .i64 1970)),none⟩]) (.block 0 (.loop (.seq (.seq (.region [⟨some 36,.mov (.tmp 9),none⟩,
 ⟨some 37,.mov (.tmp 0),none⟩,⟨some 38,.bin .lss .no (.tmp 36) (.tmp 37),none⟩]) (.cond (.tmp 38) (.skip) (.exit 0))) (.seq (.block 1 (.region [⟨some 41,.mov (.tmp 8),none⟩,⟨some 42,.mov (.tmp 9),none⟩,
 ⟨some 43,.call (.fn 308) [(.tmp 42)],none⟩,⟨some 44,.bin .add .no (.tmp 41) (.tmp 43),none⟩,⟨some 8,.mov (.tmp 44),none⟩])) (.region [⟨some 39,.mov (.tmp 9),none⟩,⟨some 40,.bin .add .no (.tmp 39) (.const (.int .i64 1)),none⟩,
 ⟨some 9,.mov (.tmp 40),none⟩])))))) (.seq (.seq (.region [⟨some 10,.mov (.const (.int .i64 1)),none⟩]) (.block 2 (.loop (.seq (.seq (.region [⟨some 45,.mov (.tmp 10),none⟩,⟨some 46,.mov (.tmp 1),none⟩,
 ⟨some 47,.bin .lss .no (.tmp 45) (.tmp 46),none⟩]) (.cond (.tmp 47) (.skip) (.exit 2))) (.seq (.block 3 (.region [⟨some 50,.mov (.tmp 8),none⟩,⟨some 51,.mov (.tmp 0),none⟩,⟨some 52,.mov (.tmp 10),none⟩,
 ⟨some 53,.call (.fn 309) [(.tmp 51),(.tmp 52)],none⟩,⟨some 54,.bin .add .no (.tmp 50) (.tmp 53),none⟩,⟨some 8,.mov (.tmp 54),none⟩])) (.region [⟨some 48,.mov (.tmp 10),none⟩,⟨some 49,.bin .add .no (.tmp 48) (.const (.int .i64 1)),none⟩,
 ⟨some 10,.mov (.tmp 49),none⟩])))))) (.seq (.region [⟨some 55,.mov (.tmp 8),none⟩,⟨some 56,.mov (.tmp 2),none⟩,⟨some 57,.bin .add .no (.tmp 55) (.tmp 56),none⟩,⟨some 58,.bin .sub .no (.tmp 57) (.const (.int .i64 1)),none⟩,
 ⟨some 6,.mov (.tmp 58),none⟩,⟨some 7,.mov (.const (.int .i64 0)),none⟩]) (.ret))))))) }

/-- posthorn/posthornref20.clockOf -/
def F_posthornref20_clockOf : ACFn := { nt := 61,results := [.tmp 2],body := (.seq (.region [⟨some 2,.mov (.const (.int .i64 0)),none⟩]) (.seq (.region [⟨some 7,.mov (.tmp 0),none⟩,⟨some 8,.call (.fn 215) [(.tmp 7),(.const (.b8 58))],none⟩,
 ⟨some 3,.mov (.tmp 8),none⟩]) (.seq (.seq (.region [⟨some 9,.mov (.tmp 3),none⟩,⟨some 10,.len false (.tmp 9),none⟩,⟨some 11,.bin .eql .no (.tmp 10) (.const (.int .i64 2)),none⟩]) (.cond (.tmp 11) (.region [⟨some 12,.mov (.tmp 3),none⟩,
 ⟨some 13,.lit 1 (.str []) 1 [(0,(.const (.str [48,48])))],none⟩,⟨some 14,.app false 1 (.tmp 12) (.tmp 13),none⟩,⟨some 3,.mov (.tmp 14),none⟩]) (.skip))) (.seq (.seq (.region [⟨some 15,.mov (.tmp 3),none⟩,
 ⟨some 16,.len false (.tmp 15),none⟩,⟨some 17,.bin .neq .no (.tmp 16) (.const (.int .i64 3)),none⟩]) (.cond (.tmp 17) (.seq (.region [⟨some 2,.mov (.const (.int .i64 (-1))),none⟩]) (.ret)) (.skip))) (.seq (.region [⟨some 18,.mov (.tmp 3),none⟩,
 ⟨some 19,.iaddr 1 (.tmp 18) (.const (.int .i64 0)),none⟩,⟨some 20,.loadc false 1 (.tmp 19),none⟩,⟨some 21,.call (.fn 296) [(.tmp 20),(.const (.int .i64 2))],none⟩,⟨some 22,.mov (.tmp 3),none⟩,⟨some 23,.iaddr 1 (.tmp 22) (.const (.int .i64 1)),none⟩,
 ⟨some 24,.loadc false 1 (.tmp 23),none⟩,⟨some 25,.call (.fn 296) [(.tmp 24),(.const (.int .i64 2))],none⟩,⟨some 26,.mov (.tmp 3),none⟩,⟨some 27,.iaddr 1 (.tmp 26) (.const (.int .i64 2)),none⟩,⟨some 28,.loadc false 1 (.tmp 27),none⟩,
 ⟨some 29,.call (.fn 296) [(.tmp 28),(.const (.int .i64 2))],none⟩,⟨some 4,.mov (.tmp 21),none⟩,⟨some 5,.mov (.tmp 25),none⟩,⟨some 6,.mov (.tmp 29),none⟩]) (.seq (.seq (.region [⟨some 30,.mov (.tmp 4),none⟩,
 ⟨some 31,.bin .lss .no (.tmp 30) (.const (.int .i64 0)),none⟩,⟨some 32,.mov (.tmp 31),none⟩,⟨some 33,.mov (.tmp 4),some (32,false)⟩,⟨some 34,.bin .geq .no (.tmp 33) (.const (.int .i64 24)),some (32,false)⟩,
 ⟨some 35,.pick (.tmp 32) (.const (.bool true)) (.tmp 34),none⟩,⟨some 36,.mov (.tmp 35),none⟩,⟨some 37,.mov (.tmp 5),some (36,false)⟩,⟨some 38,.bin .lss .no (.tmp 37) (.const (.int .i64 0)),some (36,false)⟩,
 ⟨some 39,.pick (.tmp 36) (.const (.bool true)) (.tmp 38),none⟩,⟨some 40,.mov (.tmp 39),none⟩,⟨some 41,.mov (.tmp 5),some (40,false)⟩,⟨some 42,.bin .geq .no (.tmp 41) (.const (.int .i64 60)),some (40,false)⟩,
 ⟨some 43,.pick (.tmp 40) (.const (.bool true)) (.tmp 42),none⟩,⟨some 44,.mov (.tmp 43),none⟩,⟨some 45,.mov (.tmp 6),some (44,false)⟩,⟨some 46,.bin .lss .no (.tmp 45) (.const (.int .i64 0)),some (44,false)⟩,
 ⟨some 47,.pick (.tmp 44) (.const (.bool true)) (.tmp 46),none⟩,⟨some 48,.mov (.tmp 47),none⟩,⟨some 49,.mov (.tmp 6),some (48,false)⟩,⟨some 50,.bin .gtr .no (.tmp 49) (.const (.int .i64 60)),some (48,false)⟩,
 ⟨some 51,.pick (.tmp 48) (.const (.bool true)) (.tmp 50),none⟩]) (.cond (.tmp 51) (.seq (.region [⟨some 2,.mov (.const (.int .i64 (-1))),none⟩]) (.ret)) (.skip))) (.seq (.seq (.region [⟨some 52,.mov (.tmp 6),none⟩,
 ⟨some 53,.bin .eql .no (.tmp 52) (.const (.int .i64 60)),none⟩]) (.cond (.tmp 53) (.region [⟨some 6,.mov (.const (.int .i64 59)),none⟩]) (.skip))) (.seq (.region [⟨some 54,.mov (.tmp 4),none⟩,⟨some 55,.bin .mul .no (.const (.int .i64 3600)) (.tmp 54),none⟩,
 ⟨some 56,.mov (.tmp 5),none⟩,⟨some 57,.bin .mul .no (.const (.int .i64 60)) (.tmp 56),none⟩,⟨some 58,.bin .add .no (.tmp 55) (.tmp 57),none⟩,⟨some 59,.mov (.tmp 6),none⟩,⟨some 60,.bin .add .no (.tmp 58) (.tmp 59),none⟩,
 ⟨some 2,.mov (.tmp 60),none⟩]) (.ret))))))))) }

/-- posthorn/posthornref20.zoneOf -/
def F_posthornref20_zoneOf : ACFn := { nt := 70,results := [.tmp 2,.tmp 3],body := (.seq (.region [⟨some 2,.mov (.const (.int .i64 0)),none⟩,⟨some 3,.mov (.const (.bool false)),none⟩]) (.seq (.region [⟨some 10,.build [.str [],.str [],.str [],.str [],.str [],.str [],.str [],.str [],.str [],.str [],.str []] [(0,1,(.const (.str [117,116]))),(1,1,(.const (.str [103,109,116]))),(2,1,(.const (.str [122]))),(3,1,(.const (.str [101,115,116]))),(4,1,(.const (.str [99,115,116]))),(5,1,(.const (.str [109,115,116]))),(6,1,(.const (.str [112,115,116]))),(7,1,(.const (.str [101,100,116]))),(8,1,(.const (.str [99,100,116]))),(9,1,(.const (.str [109,100,116]))),(10,1,(.const (.str [112,100,116])))],none⟩,
 ⟨some 4,.alloc [.str [],.str [],.str [],.str [],.str [],.str [],.str [],.str [],.str [],.str [],.str []],none⟩,⟨none,.store 11 (.tmp 4) (.tmp 10),none⟩]) (.seq (.region [⟨some 11,.build [.int .i64 0,.int .i64 0,.int .i64 0,.int .i64 0,.int .i64 0,.int .i64 0,.int .i64 0,.int .i64 0,.int .i64 0,.int .i64 0,.int .i64 0] [(0,1,(.const (.int .i64 0))),(1,1,(.const (.int .i64 0))),(2,1,(.const (.int .i64 0))),(3,1,(.const (.int .i64 (-5)))),(4,1,(.const (.int .i64 (-6)))),(5,1,(.const (.int .i64 (-7)))),(6,1,(.const (.int .i64 (-8)))),(7,1,(.const (.int .i64 (-4)))),(8,1,(.const (.int .i64 (-5)))),(9,1,(.const (.int .i64 (-6)))),(10,1,(.const (.int .i64 (-7))))],none⟩,
 ⟨some 5,.alloc [.int .i64 0,.int .i64 0,.int .i64 0,.int .i64 0,.int .i64 0,.int .i64 0,.int .i64 0,.int .i64 0,.int .i64 0,.int .i64 0,.int .i64 0],none⟩,⟨none,.store 11 (.tmp 5) (.tmp 11),none⟩]) (.seq (.seq (.region [⟨some 6,.mov (.const (.int .i64 0)),none⟩]) (.block 0 (.loop (.seq (.seq (.region [⟨some 12,.mov (.tmp 6),none⟩,
 ⟨some 13,.bin .lss .no (.tmp 12) (.const (.int .i64 11)),none⟩]) (.cond (.tmp 13) (.skip) (.exit 0))) (.seq (.block 1 (.seq (.region [⟨some 16,.mov (.tmp 0),none⟩,⟨some 17,.callk (.fn 114) [(.tmp 16)],none⟩,
 ⟨some 18,.mov (.tmp 6),none⟩,⟨some 19,.iaddrA 11 1 (.tmp 4) (.tmp 18),none⟩,⟨some 20,.load false 1 (.tmp 19),none⟩,⟨some 21,.bin .eql .no (.tmp 17) (.tmp 20),none⟩]) (.cond (.tmp 21) (.seq (.region [⟨some 22,.mov (.tmp 6),none⟩,
 ⟨some 23,.iaddrA 11 1 (.tmp 5) (.tmp 22),none⟩,⟨some 24,.load false 1 (.tmp 23),none⟩,⟨some 25,.bin .mul .no (.const (.int .i64 3600)) (.tmp 24),none⟩,⟨some 2,.mov (.tmp 25),none⟩,⟨some 3,.mov (.const (.bool true)),none⟩]) (.ret)) (.skip)))) (.region [⟨some 14,.mov (.tmp 6),none⟩,
 ⟨some 15,.bin .add .no (.tmp 14) (.const (.int .i64 1)),none⟩,⟨some 6,.mov (.tmp 15),none⟩])))))) (.seq (.seq (.region [⟨some 26,.mov (.tmp 0),none⟩,⟨some 27,.len true (.tmp 26),none⟩,⟨some 28,.bin .neq .no (.tmp 27) (.const (.int .i64 5)),none⟩,
 ⟨some 29,.mov (.tmp 28),none⟩,⟨some 30,.mov (.tmp 0),some (29,false)⟩,⟨some 31,.idxS (.tmp 30) (.const (.int .i64 0)),some (29,false)⟩,⟨some 32,.bin .neq .no (.tmp 31) (.const (.b8 43)),some (29,false)⟩,
 ⟨some 33,.mov (.tmp 32),some (29,false)⟩,⟨some 34,.mov (.tmp 0),some (33,true)⟩,⟨some 35,.idxS (.tmp 34) (.const (.int .i64 0)),some (33,true)⟩,⟨some 36,.bin .neq .no (.tmp 35) (.const (.b8 45)),some (33,true)⟩,
 ⟨some 37,.pick (.tmp 33) (.tmp 36) (.const (.bool false)),some (29,false)⟩,⟨some 38,.pick (.tmp 29) (.const (.bool true)) (.tmp 37),none⟩]) (.cond (.tmp 38) (.seq (.region [⟨some 2,.mov (.const (.int .i64 0)),none⟩,
 ⟨some 3,.mov (.const (.bool false)),none⟩]) (.ret)) (.skip))) (.seq (.region [⟨some 39,.mov (.tmp 0),none⟩,⟨some 40,.slc 0 (.tmp 39) (some (.const (.int .i64 1))) (some (.const (.int .i64 3))) none,none⟩,
 ⟨some 41,.call (.fn 296) [(.tmp 40),(.const (.int .i64 2))],none⟩,⟨some 42,.mov (.tmp 0),none⟩,⟨some 43,.slc 0 (.tmp 42) (some (.const (.int .i64 3))) none none,none⟩,⟨some 44,.call (.fn 296) [(.tmp 43),(.const (.int .i64 2))],none⟩,
 ⟨some 7,.mov (.tmp 41),none⟩,⟨some 8,.mov (.tmp 44),none⟩]) (.seq (.seq (.region [⟨some 45,.mov (.tmp 7),none⟩,⟨some 46,.bin .lss .no (.tmp 45) (.const (.int .i64 0)),none⟩,⟨some 47,.mov (.tmp 46),none⟩,
 ⟨some 48,.mov (.tmp 7),some (47,false)⟩,⟨some 49,.bin .geq .no (.tmp 48) (.const (.int .i64 24)),some (47,false)⟩,⟨some 50,.pick (.tmp 47) (.const (.bool true)) (.tmp 49),none⟩,⟨some 51,.mov (.tmp 50),none⟩,
 ⟨some 52,.mov (.tmp 8),some (51,false)⟩,⟨some 53,.bin .lss .no (.tmp 52) (.const (.int .i64 0)),some (51,false)⟩,⟨some 54,.pick (.tmp 51) (.const (.bool true)) (.tmp 53),none⟩,⟨some 55,.mov (.tmp 54),none⟩,
 ⟨some 56,.mov (.tmp 8),some (55,false)⟩,⟨some 57,.bin .geq .no (.tmp 56) (.const (.int .i64 60)),some (55,false)⟩,⟨some 58,.pick (.tmp 55) (.const (.bool true)) (.tmp 57),none⟩]) (.cond (.tmp 58) (.seq (.region [⟨some 2,.mov (.const (.int .i64 0)),none⟩,
 ⟨some 3,.mov (.const (.bool false)),none⟩]) (.ret)) (.skip))) (.seq (.region [⟨some 59,.mov (.tmp 7),none⟩,⟨some 60,.bin .mul .no (.const (.int .i64 3600)) (.tmp 59),none⟩,⟨some 61,.mov (.tmp 8),none⟩,
 ⟨some 62,.bin .mul .no (.const (.int .i64 60)) (.tmp 61),none⟩,⟨some 63,.bin .add .no (.tmp 60) (.tmp 62),none⟩,⟨some 9,.mov (.tmp 63),none⟩]) (.seq (.seq (.region [⟨some 64,.mov (.tmp 0),none⟩,⟨some 65,.idxS (.tmp 64) (.const (.int .i64 0)),none⟩,
 ⟨some 66,.bin .eql .no (.tmp 65) (.const (.b8 45)),none⟩]) (.cond (.tmp 66) (.seq (.region [⟨some 67,.mov (.tmp 9),none⟩,⟨some 68,.un .neg (.tmp 67),none⟩,⟨some 2,.mov (.tmp 68),none⟩,⟨some 3,.mov (.const (.bool true)),none⟩]) (.ret)) (.skip))) (.seq (.region [⟨some 69,.mov (.tmp 9),none⟩,
 ⟨some 2,.mov (.tmp 69),none⟩,⟨some 3,.mov (.const (.bool true)),none⟩]) (.ret))))))))))) }

/-- posthorn/date.isDomain -/
def F_date_isDomain : ACFn := { nt := 6,results := [.tmp 2],body := (.seq (.region [⟨some 2,.mov (.const (.bool false)),none⟩]) (.seq (.region [⟨some 3,.mov (.tmp 0),none⟩,⟨some 4,.build [.str [],.str [],.str []] [(1,1,(.const (.str [120]))),(2,1,(.tmp 3))],none⟩,
 ⟨some 5,.call (.fn 111) [(.tmp 4)],none⟩,⟨some 2,.mov (.tmp 5),none⟩]) (.ret))) }

/-- posthorn/date.five -/
def F_date_five : ACFn := { nt := 17,results := [.tmp 2],body := (.seq (.region [⟨some 2,.mov (.const (.str [])),none⟩]) (.seq (.region [⟨some 3,.mov (.const (.str [])),none⟩]) (.block 0 (.loop (.block 1 (.seq (.region [⟨some 4,.mov (.tmp 0),none⟩,
 ⟨some 5,.bin .and .no (.tmp 4) (.const (.int .u64 31)),none⟩,⟨some 6,.mov (.tmp 0),none⟩,⟨some 7,.bin .and .no (.tmp 6) (.const (.int .u64 31)),none⟩,⟨some 8,.bin .add .no (.tmp 7) (.const (.int .u64 1)),none⟩,
 ⟨some 9,.slc 0 (.const (.str [48,49,50,51,52,53,54,55,56,57,97,98,99,100,101,102,103,104,105,106,107,108,109,110,111,112,113,114,115,116,117,118])) (some (.tmp 5)) (some (.tmp 8)) none,none⟩,⟨some 10,.mov (.tmp 3),none⟩,
 ⟨some 11,.bin .add .no (.tmp 9) (.tmp 10),none⟩,⟨some 3,.mov (.tmp 11),none⟩]) (.seq (.region [⟨some 12,.mov (.tmp 0),none⟩,⟨some 13,.bin .shr .no (.tmp 12) (.const (.int .u64 5)),none⟩,⟨some 0,.mov (.tmp 13),none⟩]) (.seq (.region [⟨some 14,.mov (.tmp 0),none⟩,
 ⟨some 15,.bin .eql .no (.tmp 14) (.const (.int .u64 0)),none⟩]) (.cond (.tmp 15) (.seq (.region [⟨some 16,.mov (.tmp 3),none⟩,⟨some 2,.mov (.tmp 16),none⟩]) (.ret)) (.skip)))))))))) }

/-- strings.CutPrefix -/
def F_strings_CutPrefix : ACFn := { nt := 11,results := [.tmp 4,.tmp 5],body := (.seq (.region [⟨some 4,.mov (.const (.str [])),none⟩,⟨some 5,.mov (.const (.bool false)),none⟩]) (.seq (.region [⟨some 6,.mov (.tmp 0),none⟩,⟨some 7,.mov (.tmp 1),none⟩,
 ⟨some 8,.call (.fn 314) [(.tmp 6),(.tmp 7)],none⟩,⟨some 9,.ext 0 (.tmp 8),none⟩,⟨some 10,.ext 1 (.tmp 8),none⟩,⟨some 4,.mov (.tmp 9),none⟩,⟨some 5,.mov (.tmp 10),none⟩]) (.ret))) }

/-- posthorn/when.before -/
def F_when_before : ACFn := { nt := 19,results := [.tmp 2],body := (.seq (.region [⟨some 2,.mov (.const (.int .i64 0)),none⟩]) (.seq (.region [⟨some 4,.mov (.tmp 0),none⟩,⟨some 5,.bin .sub .no (.tmp 4) (.const (.int .i64 1)),none⟩,
 ⟨some 3,.mov (.tmp 5),none⟩]) (.seq (.region [⟨some 6,.mov (.tmp 3),none⟩,⟨some 7,.bin .sub .no (.tmp 6) (.const (.int .i64 1969)),none⟩,⟨some 8,.bin .mul .no (.const (.int .i64 365)) (.tmp 7),none⟩,⟨some 9,.mov (.tmp 3),none⟩,
 ⟨some 10,.bin .quo .no (.tmp 9) (.const (.int .i64 4)),none⟩,⟨some 11,.bin .add .no (.tmp 8) (.tmp 10),none⟩,⟨some 12,.mov (.tmp 3),none⟩,⟨some 13,.bin .quo .no (.tmp 12) (.const (.int .i64 100)),none⟩,
 ⟨some 14,.bin .sub .no (.tmp 11) (.tmp 13),none⟩,⟨some 15,.mov (.tmp 3),none⟩,⟨some 16,.bin .quo .no (.tmp 15) (.const (.int .i64 400)),none⟩,⟨some 17,.bin .add .no (.tmp 14) (.tmp 16),none⟩,⟨some 18,.bin .sub .no (.tmp 17) (.const (.int .i64 477)),none⟩,
 ⟨some 2,.mov (.tmp 18),none⟩]) (.ret)))) }

/-- posthorn/when.month -/
def F_when_month : ACFn := { nt := 16,results := [.tmp 4],body := (.seq (.region [⟨some 4,.mov (.const (.int .i64 0)),none⟩]) (.seq (.region [⟨some 6,.build [.int .i64 0,.int .i64 0,.int .i64 0,.int .i64 0,.int .i64 0,.int .i64 0,.int .i64 0,.int .i64 0,.int .i64 0,.int .i64 0,.int .i64 0,.int .i64 0,.int .i64 0] [(0,1,(.const (.int .i64 0))),(1,1,(.const (.int .i64 31))),(2,1,(.const (.int .i64 28))),(3,1,(.const (.int .i64 31))),(4,1,(.const (.int .i64 30))),(5,1,(.const (.int .i64 31))),(6,1,(.const (.int .i64 30))),(7,1,(.const (.int .i64 31))),(8,1,(.const (.int .i64 31))),(9,1,(.const (.int .i64 30))),(10,1,(.const (.int .i64 31))),(11,1,(.const (.int .i64 30))),(12,1,(.const (.int .i64 31)))],none⟩,
 ⟨some 5,.alloc [.int .i64 0,.int .i64 0,.int .i64 0,.int .i64 0,.int .i64 0,.int .i64 0,.int .i64 0,.int .i64 0,.int .i64 0,.int .i64 0,.int .i64 0,.int .i64 0,.int .i64 0],none⟩,⟨none,.store 13 (.tmp 5) (.tmp 6),none⟩]) (.seq (.seq (.region [⟨some 7,.mov (.tmp 1),none⟩,
 ⟨some 8,.bin .eql .no (.tmp 7) (.const (.int .i64 2)),none⟩,⟨some 9,.mov (.tmp 8),none⟩,⟨some 10,.mov (.tmp 0),some (9,true)⟩,⟨some 11,.call (.fn 315) [(.tmp 10)],some (9,true)⟩,⟨some 12,.pick (.tmp 9) (.tmp 11) (.const (.bool false)),none⟩]) (.cond (.tmp 12) (.seq (.region [⟨some 4,.mov (.const (.int .i64 29)),none⟩]) (.ret)) (.skip))) (.seq (.region [⟨some 13,.mov (.tmp 1),none⟩,
 ⟨some 14,.iaddrA 13 1 (.tmp 5) (.tmp 13),none⟩,⟨some 15,.load false 1 (.tmp 14),none⟩,⟨some 4,.mov (.tmp 15),none⟩]) (.ret))))) }

/-- posthorn/posthornref12.Year -/
def F_posthornref12_Year : ACFn := { nt := 16,results := [.tmp 2],body := (.seq (.region [⟨some 2,.mov (.const (.int .i64 0)),none⟩]) (.seq (.seq (.region [⟨some 3,.mov (.tmp 0),none⟩,⟨some 4,.bin .rem .no (.tmp 3) (.const (.int .i64 400)),none⟩,
 ⟨some 5,.bin .eql .no (.tmp 4) (.const (.int .i64 0)),none⟩,⟨some 6,.mov (.tmp 5),none⟩,⟨some 7,.mov (.tmp 0),some (6,false)⟩,⟨some 8,.bin .rem .no (.tmp 7) (.const (.int .i64 4)),some (6,false)⟩,⟨some 9,.bin .eql .no (.tmp 8) (.const (.int .i64 0)),some (6,false)⟩,
 ⟨some 10,.mov (.tmp 9),some (6,false)⟩,⟨some 11,.mov (.tmp 0),some (10,true)⟩,⟨some 12,.bin .rem .no (.tmp 11) (.const (.int .i64 100)),some (10,true)⟩,⟨some 13,.bin .neq .no (.tmp 12) (.const (.int .i64 0)),some (10,true)⟩,
 ⟨some 14,.pick (.tmp 10) (.tmp 13) (.const (.bool false)),some (6,false)⟩,⟨some 15,.pick (.tmp 6) (.const (.bool true)) (.tmp 14),none⟩]) (.cond (.tmp 15) (.seq (.region [⟨some 2,.mov (.const (.int .i64 366)),none⟩]) (.ret)) (.skip))) (.seq (.region [⟨some 2,.mov (.const (.int .i64 365)),none⟩]) (.ret)))) }

/-- posthorn/posthornref12.Month -/
def F_posthornref12_Month : ACFn := { nt := 16,results := [.tmp 4],body := (.seq (.region [⟨some 4,.mov (.const (.int .i64 0)),none⟩]) (.seq (.seq (.region [⟨some 5,.mov (.tmp 1),none⟩]) (.block 0 (.seq (.seq (.region [⟨some 7,.bin .eql .no (.tmp 5) (.const (.int .i64 4)),none⟩,
 ⟨some 6,.mov (.tmp 7),none⟩]) (.cond (.tmp 6) (.skip) (.seq (.region [⟨some 8,.bin .eql .no (.tmp 5) (.const (.int .i64 6)),none⟩,⟨some 6,.mov (.tmp 8),none⟩]) (.cond (.tmp 6) (.skip) (.seq (.region [⟨some 9,.bin .eql .no (.tmp 5) (.const (.int .i64 9)),none⟩,
 ⟨some 6,.mov (.tmp 9),none⟩]) (.cond (.tmp 6) (.skip) (.region [⟨some 10,.bin .eql .no (.tmp 5) (.const (.int .i64 11)),none⟩,⟨some 6,.mov (.tmp 10),none⟩]))))))) (.cond (.tmp 6) (.seq (.region [⟨some 4,.mov (.const (.int .i64 30)),none⟩]) (.ret)) (.seq (.region [⟨some 12,.bin .eql .no (.tmp 5) (.const (.int .i64 2)),none⟩,
 ⟨some 11,.mov (.tmp 12),none⟩]) (.cond (.tmp 11) (.seq (.region [⟨some 13,.mov (.tmp 0),none⟩,⟨some 14,.call (.fn 308) [(.tmp 13)],none⟩,⟨some 15,.bin .sub .no (.tmp 14) (.const (.int .i64 337)),none⟩,
 ⟨some 4,.mov (.tmp 15),none⟩]) (.ret)) (.skip))))))) (.seq (.region [⟨some 4,.mov (.const (.int .i64 31)),none⟩]) (.ret)))) }

/-- posthorn/date.words$1 -/
def F_date_words_c1 : ACFn := { nt := 41,results := [],body := (.seq (.region [⟨some 3,.mov (.const (.str [])),none⟩]) (.seq (.seq (.region [⟨some 5,.load false 1 (.tmp 1),none⟩,⟨some 6,.len true (.tmp 5),none⟩,⟨some 7,.mov (.const (.int .i64 0)),none⟩]) (.block 0 (.loop (.seq (.region [⟨some 8,.bin .lss .no (.tmp 7) (.tmp 6),none⟩]) (.seq (.cond (.tmp 8) (.skip) (.exit 0)) (.seq (.block 1 (.seq (.region [⟨some 9,.mov (.tmp 7),none⟩,
 ⟨some 4,.mov (.tmp 9),none⟩]) (.seq (.seq (.region [⟨some 10,.load false 1 (.tmp 1),none⟩,⟨some 11,.mov (.tmp 4),none⟩,⟨some 12,.idxS (.tmp 10) (.tmp 11),none⟩,⟨some 13,.bin .neq .no (.tmp 12) (.const (.b8 32)),none⟩,
 ⟨some 14,.mov (.tmp 13),none⟩,⟨some 15,.load false 1 (.tmp 1),some (14,true)⟩,⟨some 16,.mov (.tmp 4),some (14,true)⟩,⟨some 17,.idxS (.tmp 15) (.tmp 16),some (14,true)⟩,⟨some 18,.bin .neq .no (.tmp 17) (.const (.b8 9)),some (14,true)⟩,
 ⟨some 19,.pick (.tmp 14) (.tmp 18) (.const (.bool false)),none⟩]) (.cond (.tmp 19) (.seq (.region [⟨some 20,.mov (.tmp 3),none⟩,⟨some 21,.load false 1 (.tmp 1),none⟩,⟨some 22,.mov (.tmp 4),none⟩,⟨some 23,.mov (.tmp 4),none⟩,
 ⟨some 24,.bin .add .no (.tmp 23) (.const (.int .i64 1)),none⟩,⟨some 25,.slc 0 (.tmp 21) (some (.tmp 22)) (some (.tmp 24)) none,none⟩,⟨some 26,.bin .add .no (.tmp 20) (.tmp 25),none⟩,⟨some 3,.mov (.tmp 26),none⟩]) (.exit 1)) (.skip))) (.seq (.seq (.region [⟨some 27,.mov (.tmp 3),none⟩,
 ⟨some 28,.bin .neq .no (.tmp 27) (.const (.str [])),none⟩,⟨some 29,.mov (.tmp 28),none⟩,⟨some 30,.mov (.tmp 0),some (29,true)⟩,⟨some 31,.mov (.tmp 3),some (29,true)⟩,⟨some 32,.call (.tmp 30) [(.tmp 31)],some (29,true)⟩,
 ⟨some 33,.un .not (.tmp 32),some (29,true)⟩,⟨some 34,.pick (.tmp 29) (.tmp 33) (.const (.bool false)),none⟩]) (.cond (.tmp 34) (.ret) (.skip))) (.region [⟨some 3,.mov (.const (.str [])),none⟩]))))) (.region [⟨some 35,.bin .add .no (.tmp 7) (.const (.int .i64 1)),none⟩,
 ⟨some 7,.mov (.tmp 35),none⟩]))))))) (.seq (.region [⟨some 36,.mov (.tmp 3),none⟩,⟨some 37,.bin .neq .no (.tmp 36) (.const (.str [])),none⟩]) (.cond (.tmp 37) (.region [⟨some 38,.mov (.tmp 0),none⟩,⟨some 39,.mov (.tmp 3),none⟩,
 ⟨some 40,.call (.tmp 38) [(.tmp 39)],none⟩]) (.skip))))) }

/-- posthorn/date.lower -/
def F_date_lower : ACFn := { nt := 29,results := [.tmp 2],body := (.seq (.region [⟨some 2,.mov (.const (.str [])),none⟩]) (.seq (.region [⟨some 6,.mov (.tmp 0),none⟩,⟨some 7,.cS2B true (.tmp 6),none⟩,⟨some 3,.mov (.tmp 7),none⟩]) (.seq (.seq (.region [⟨some 8,.mov (.tmp 3),none⟩,
 ⟨some 9,.len false (.tmp 8),none⟩,⟨some 10,.mov (.const (.int .i64 0)),none⟩]) (.block 0 (.loop (.seq (.region [⟨some 11,.bin .lss .no (.tmp 10) (.tmp 9),none⟩]) (.seq (.cond (.tmp 11) (.skip) (.exit 0)) (.seq (.block 1 (.seq (.region [⟨some 12,.mov (.tmp 10),none⟩,
 ⟨some 13,.iaddr 1 (.tmp 8) (.tmp 10),none⟩,⟨some 14,.load false 1 (.tmp 13),none⟩,⟨some 4,.mov (.tmp 12),none⟩,⟨some 5,.mov (.tmp 14),none⟩]) (.seq (.region [⟨some 15,.mov (.tmp 5),none⟩,⟨some 16,.bin .geq .no (.tmp 15) (.const (.b8 65)),none⟩,
 ⟨some 17,.mov (.tmp 16),none⟩,⟨some 18,.mov (.tmp 5),some (17,true)⟩,⟨some 19,.bin .leq .no (.tmp 18) (.const (.b8 90)),some (17,true)⟩,⟨some 20,.pick (.tmp 17) (.tmp 19) (.const (.bool false)),none⟩]) (.cond (.tmp 20) (.region [⟨some 21,.mov (.tmp 3),none⟩,
 ⟨some 22,.mov (.tmp 4),none⟩,⟨some 23,.mov (.tmp 5),none⟩,⟨some 24,.bin .add .no (.tmp 23) (.const (.b8 32)),none⟩,⟨some 25,.iaddr 1 (.tmp 21) (.tmp 22),none⟩,⟨none,.store 1 (.tmp 25) (.tmp 24),none⟩]) (.skip))))) (.region [⟨some 26,.bin .add .no (.tmp 10) (.const (.int .i64 1)),none⟩,
 ⟨some 10,.mov (.tmp 26),none⟩]))))))) (.seq (.region [⟨some 27,.mov (.tmp 3),none⟩,⟨some 28,.cB2S true (.tmp 27),none⟩,⟨some 2,.mov (.tmp 28),none⟩]) (.ret))))) }

/-- posthorn/posthornref20.dayOf -/
def F_posthornref20_dayOf : ACFn := { nt := 15,results := [.tmp 2],body := (.seq (.region [⟨some 2,.mov (.const (.int .i64 0)),none⟩]) (.seq (.seq (.region [⟨some 3,.mov (.const (.int .i64 0)),none⟩]) (.block 0 (.loop (.seq (.seq (.region [⟨some 4,.mov (.tmp 3),none⟩,
 ⟨some 5,.bin .lss .no (.tmp 4) (.const (.int .i64 7)),none⟩]) (.cond (.tmp 5) (.skip) (.exit 0))) (.seq (.block 1 (.seq (.region [⟨some 8,.mov (.tmp 3),none⟩,⟨some 9,.call (.fn 281) [(.tmp 8)],none⟩,⟨some 10,.call (.fn 114) [(.tmp 9)],none⟩,
 ⟨some 11,.mov (.tmp 0),none⟩,⟨some 12,.call (.fn 114) [(.tmp 11)],none⟩,⟨some 13,.bin .eql .no (.tmp 10) (.tmp 12),none⟩]) (.cond (.tmp 13) (.seq (.region [⟨some 14,.mov (.tmp 3),none⟩,⟨some 2,.mov (.tmp 14),none⟩]) (.ret)) (.skip)))) (.region [⟨some 6,.mov (.tmp 3),none⟩,
 ⟨some 7,.bin .add .no (.tmp 6) (.const (.int .i64 1)),none⟩,⟨some 3,.mov (.tmp 7),none⟩])))))) (.seq (.region [⟨some 2,.mov (.const (.int .i64 (-1))),none⟩]) (.ret)))) }

/-- posthorn/posthornref12.Value -/
def F_posthornref12_Value : ACFn := { nt := 38,results := [.tmp 2],body := (.seq (.region [⟨some 2,.mov (.const (.int .i64 0)),none⟩]) (.seq (.seq (.region [⟨some 5,.mov (.tmp 0),none⟩,⟨some 6,.len true (.tmp 5),none⟩,⟨some 7,.bin .eql .no (.tmp 6) (.const (.int .i64 0)),none⟩,
 ⟨some 8,.mov (.tmp 7),none⟩,⟨some 9,.mov (.tmp 0),some (8,false)⟩,⟨some 10,.len true (.tmp 9),some (8,false)⟩,⟨some 11,.bin .gtr .no (.tmp 10) (.const (.int .i64 10)),some (8,false)⟩,⟨some 12,.pick (.tmp 8) (.const (.bool true)) (.tmp 11),none⟩]) (.cond (.tmp 12) (.seq (.region [⟨some 2,.mov (.const (.int .i64 (-1))),none⟩]) (.ret)) (.skip))) (.seq (.region [⟨some 3,.mov (.const (.int .i64 0)),none⟩]) (.seq (.seq (.region [⟨some 4,.mov (.const (.int .i64 0)),none⟩]) (.block 0 (.loop (.seq (.seq (.region [⟨some 13,.mov (.tmp 4),none⟩,
 ⟨some 14,.mov (.tmp 0),none⟩,⟨some 15,.len true (.tmp 14),none⟩,⟨some 16,.bin .lss .no (.tmp 13) (.tmp 15),none⟩]) (.cond (.tmp 16) (.skip) (.exit 0))) (.seq (.block 1 (.seq (.seq (.region [⟨some 19,.mov (.tmp 0),none⟩,
 ⟨some 20,.mov (.tmp 4),none⟩,⟨some 21,.idxS (.tmp 19) (.tmp 20),none⟩,⟨some 22,.bin .lss .no (.tmp 21) (.const (.b8 48)),none⟩,⟨some 23,.mov (.tmp 22),none⟩,⟨some 24,.mov (.tmp 0),some (23,false)⟩,⟨some 25,.mov (.tmp 4),some (23,false)⟩,
 ⟨some 26,.idxS (.tmp 24) (.tmp 25),some (23,false)⟩,⟨some 27,.bin .gtr .no (.tmp 26) (.const (.b8 57)),some (23,false)⟩,⟨some 28,.pick (.tmp 23) (.const (.bool true)) (.tmp 27),none⟩]) (.cond (.tmp 28) (.seq (.region [⟨some 2,.mov (.const (.int .i64 (-1))),none⟩]) (.ret)) (.skip))) (.region [⟨some 29,.mov (.tmp 3),none⟩,
 ⟨some 30,.bin .mul .no (.const (.int .i64 10)) (.tmp 29),none⟩,⟨some 31,.mov (.tmp 0),none⟩,⟨some 32,.mov (.tmp 4),none⟩,⟨some 33,.idxS (.tmp 31) (.tmp 32),none⟩,⟨some 34,.cInt .i64 (.tmp 33),none⟩,⟨some 35,.bin .add .no (.tmp 30) (.tmp 34),none⟩,
 ⟨some 36,.bin .sub .no (.tmp 35) (.const (.int .i64 48)),none⟩,⟨some 3,.mov (.tmp 36),none⟩]))) (.region [⟨some 17,.mov (.tmp 4),none⟩,⟨some 18,.bin .add .no (.tmp 17) (.const (.int .i64 1)),none⟩,⟨some 4,.mov (.tmp 18),none⟩])))))) (.seq (.region [⟨some 37,.mov (.tmp 3),none⟩,
 ⟨some 2,.mov (.tmp 37),none⟩]) (.ret)))))) }

/-- internal/stringslite.CutPrefix -/
def F_internal_stringslite_CutPrefix : ACFn := { nt := 15,results := [.tmp 4,.tmp 5],body := (.seq (.region [⟨some 4,.mov (.const (.str [])),none⟩,⟨some 5,.mov (.const (.bool false)),none⟩]) (.seq (.seq (.region [⟨some 6,.mov (.tmp 0),none⟩,⟨some 7,.mov (.tmp 1),none⟩,
 ⟨some 8,.call (.fn 79) [(.tmp 6),(.tmp 7)],none⟩,⟨some 9,.un .not (.tmp 8),none⟩]) (.cond (.tmp 9) (.seq (.region [⟨some 10,.mov (.tmp 0),none⟩,⟨some 4,.mov (.tmp 10),none⟩,⟨some 5,.mov (.const (.bool false)),none⟩]) (.ret)) (.skip))) (.seq (.region [⟨some 11,.mov (.tmp 0),none⟩,
 ⟨some 12,.mov (.tmp 1),none⟩,⟨some 13,.len true (.tmp 12),none⟩,⟨some 14,.slc 0 (.tmp 11) (some (.tmp 13)) none none,none⟩,⟨some 4,.mov (.tmp 14),none⟩,⟨some 5,.mov (.const (.bool true)),none⟩]) (.ret)))) }

/-- posthorn/when.leap -/
def F_when_leap : ACFn := { nt := 16,results := [.tmp 2],body := (.seq (.region [⟨some 2,.mov (.const (.bool false)),none⟩]) (.seq (.region [⟨some 3,.mov (.tmp 0),none⟩,⟨some 4,.bin .rem .no (.tmp 3) (.const (.int .i64 4)),none⟩,
 ⟨some 5,.bin .eql .no (.tmp 4) (.const (.int .i64 0)),none⟩,⟨some 6,.mov (.tmp 5),none⟩,⟨some 7,.mov (.tmp 0),some (6,true)⟩,⟨some 8,.bin .rem .no (.tmp 7) (.const (.int .i64 100)),some (6,true)⟩,⟨some 9,.bin .neq .no (.tmp 8) (.const (.int .i64 0)),some (6,true)⟩,
 ⟨some 10,.pick (.tmp 6) (.tmp 9) (.const (.bool false)),none⟩,⟨some 11,.mov (.tmp 10),none⟩,⟨some 12,.mov (.tmp 0),some (11,false)⟩,⟨some 13,.bin .rem .no (.tmp 12) (.const (.int .i64 400)),some (11,false)⟩,
 ⟨some 14,.bin .eql .no (.tmp 13) (.const (.int .i64 0)),some (11,false)⟩,⟨some 15,.pick (.tmp 11) (.const (.bool true)) (.tmp 14),none⟩,⟨some 2,.mov (.tmp 15),none⟩]) (.ret))) }

end Go.Ab

/-
  The abstract program: functions by their numbers.
-/
namespace Go.Ab
def prog : AP := fun n => (if n < 264 then (if n < 148 then (if n < 114 then (if n < 73 then (if n < 59 then (if n < 57 then (if n = 56 then some (.code F_posthornref04_Has) else none)
  else (if n < 58 then (if n = 57 then some (.code F_P_strings_Builder_WriteByte) else none)
  else (if n = 58 then some (.code F_P_strings_Builder_WriteString) else none)))
  else (if n < 66 then (if n = 59 then some (.primS pBuilderString) else none)
  else (if n < 72 then (if n = 66 then some (.code F_strings_Contains) else none)
  else (if n = 72 then some (.code F_strings_HasPrefix) else none))))
  else (if n < 79 then (if n < 76 then (if n = 73 then some (.primS pCopyCheck) else none)
  else (if n < 78 then (if n = 76 then some (.code F_strings_Index) else none)
  else (if n = 78 then some (.prim pStrIndexByte) else none)))
  else (if n < 82 then (if n = 79 then some (.code F_internal_stringslite_HasPrefix) else none)
  else (if n < 111 then (if n = 82 then some (.prim pStrIndex) else none)
  else (if n = 111 then some (.code F_addr_Right) else none)))))
  else (if n < 128 then (if n < 125 then (if n < 115 then (if n = 114 then some (.code F_posthornref04_Lower) else none)
  else (if n < 124 then (if n = 115 then some (.code F_addr_Plain) else none)
  else (if n = 124 then some (.code F_addr_parts) else none)))
  else (if n < 126 then (if n = 125 then some (.code F_addr_isAtom) else none)
  else (if n < 127 then (if n = 126 then some (.code F_addr_isLabel) else none)
  else (if n = 127 then some (.code F_addr_isName) else none))))
  else (if n < 135 then (if n < 133 then (if n = 128 then some (.code F_strings_Cut) else none)
  else (if n < 134 then (if n = 133 then some (.prim pStrSplit) else none)
  else (if n = 134 then some (.code F_addr_alnum) else none)))
  else (if n < 143 then (if n = 135 then some (.code F_internal_stringslite_Cut) else none)
  else (if n < 147 then (if n = 143 then some (.code F_posthornlaw06_Great) else none)
  else (if n = 147 then some (.code F_fields_Get) else none))))))
  else (if n < 209 then (if n < 163 then (if n < 158 then (if n < 155 then (if n = 148 then some (.code F_posthornref06_Get) else none)
  else (if n < 157 then (if n = 155 then some (.code F_fields_Same) else none)
  else (if n = 157 then some (.code F_fields_isName) else none)))
  else (if n < 160 then (if n = 158 then some (.code F_fields_isValue) else none)
  else (if n < 161 then (if n = 160 then some (.code F_posthornref06_Name) else none)
  else (if n = 161 then some (.code F_posthornref06_Value) else none))))
  else (if n < 170 then (if n < 167 then (if n = 163 then some (.code F_posthornref06_Same) else none)
  else (if n < 168 then (if n = 167 then some (.code F_fields_lower) else none)
  else (if n = 168 then some (.code F_fields_trim) else none)))
  else (if n < 173 then (if n = 170 then some (.code F_posthornref06_Trim) else none)
  else (if n < 199 then (if n = 173 then some (.code F_posthornref06_blank) else none)
  else (if n = 199 then some (.code F_when_Right) else none)))))
  else (if n < 258 then (if n < 220 then (if n < 215 then (if n = 209 then some (.code F_posthornref12_Time) else none)
  else (if n < 219 then (if n = 215 then some (.code F_posthornref04_Parts) else none)
  else (if n = 219 then some (.code F_posthornref07_Atom) else none)))
  else (if n < 256 then (if n = 220 then some (.code F_posthornref07_Letter) else none)
  else (if n < 257 then (if n = 256 then some (.code F_date_Print) else none)
  else (if n = 257 then some (.code F_posthornref20_Print) else none))))
  else (if n < 261 then (if n < 259 then (if n = 258 then some (.code F_date_Weekday) else none)
  else (if n < 260 then (if n = 259 then some (.code F_posthornref20_Weekday) else none)
  else (if n = 260 then some (.code F_posthornlaw20_alive) else none)))
  else (if n < 262 then (if n = 261 then some (.code F_posthornlaw20_DatePrints) else none)
  else (if n < 263 then (if n = 262 then some (.code F_date_Parse) else none)
  else (if n = 263 then some (.code F_posthornref20_Parse) else none)))))))
  else (if n < 291 then (if n < 279 then (if n < 273 then (if n < 270 then (if n < 265 then (if n = 264 then some (.code F_posthornlaw20_DateParses) else none)
  else (if n < 267 then (if n = 265 then some (.code F_date_ID) else none)
  else (if n = 267 then some (.code F_date_IDs) else none)))
  else (if n < 271 then (if n = 270 then some (.code F_posthornlaw20_DateBack) else none)
  else (if n < 272 then (if n = 271 then some (.code F_posthornlaw20_DateSame) else none)
  else (if n = 272 then some (.code F_posthornlaw20_DateUnlike) else none))))
  else (if n < 276 then (if n < 274 then (if n = 273 then some (.code F_posthornlaw20_DateWeeks) else none)
  else (if n < 275 then (if n = 274 then some (.code F_date_isShift) else none)
  else (if n = 275 then some (.code F_when_Civil) else none)))
  else (if n < 277 then (if n = 276 then some (.code F_date_two) else none)
  else (if n < 278 then (if n = 277 then some (.code F_date_dayName) else none)
  else (if n = 278 then some (.code F_date_monthName) else none)))))
  else (if n < 285 then (if n < 282 then (if n < 280 then (if n = 279 then some (.code F_posthornref20_shift) else none)
  else (if n < 281 then (if n = 280 then some (.code F_posthornref12_Civil) else none)
  else (if n = 281 then some (.code F_posthornref20_Day) else none)))
  else (if n < 283 then (if n = 282 then some (.code F_posthornref12_Digits) else none)
  else (if n < 284 then (if n = 283 then some (.code F_posthornref20_Month) else none)
  else (if n = 284 then some (.code F_date_bare) else none))))
  else (if n < 288 then (if n < 286 then (if n = 285 then some (.code F_date_words) else none)
  else (if n < 287 then (if n = 286 then some (.code F_date_weekday) else none)
  else (if n = 287 then some (.code F_date_digits) else none)))
  else (if n < 289 then (if n = 288 then some (.code F_date_name) else none)
  else (if n < 290 then (if n = 289 then some (.code F_date_year) else none)
  else (if n = 290 then some (.code F_date_clock) else none))))))
  else (if n < 303 then (if n < 297 then (if n < 294 then (if n < 292 then (if n = 291 then some (.code F_date_zone) else none)
  else (if n < 293 then (if n = 292 then some (.code F_when_Days) else none)
  else (if n = 293 then some (.code F_posthornref20_clean) else none)))
  else (if n < 295 then (if n = 294 then some (.code F_posthornref20_words) else none)
  else (if n < 296 then (if n = 295 then some (.code F_posthornref20_named) else none)
  else (if n = 296 then some (.code F_posthornref20_number) else none))))
  else (if n < 300 then (if n < 298 then (if n = 297 then some (.code F_posthornref20_yearOf) else none)
  else (if n < 299 then (if n = 298 then some (.code F_posthornref20_monthOf) else none)
  else (if n = 299 then some (.code F_posthornref12_Days) else none)))
  else (if n < 301 then (if n = 300 then some (.code F_posthornref20_clockOf) else none)
  else (if n < 302 then (if n = 301 then some (.code F_posthornref20_zoneOf) else none)
  else (if n = 302 then some (.code F_date_isDomain) else none)))))
  else (if n < 310 then (if n < 307 then (if n < 305 then (if n = 303 then some (.code F_date_five) else none)
  else (if n < 306 then (if n = 305 then some (.code F_strings_CutPrefix) else none)
  else (if n = 306 then some (.code F_when_before) else none)))
  else (if n < 308 then (if n = 307 then some (.code F_when_month) else none)
  else (if n < 309 then (if n = 308 then some (.code F_posthornref12_Year) else none)
  else (if n = 309 then some (.code F_posthornref12_Month) else none))))
  else (if n < 313 then (if n < 311 then (if n = 310 then some (.code F_date_words_c1) else none)
  else (if n < 312 then (if n = 311 then some (.code F_date_lower) else none)
  else (if n = 312 then some (.code F_posthornref20_dayOf) else none)))
  else (if n < 314 then (if n = 313 then some (.code F_posthornref12_Value) else none)
  else (if n < 315 then (if n = 314 then some (.code F_internal_stringslite_CutPrefix) else none)
  else (if n = 315 then some (.code F_when_leap) else none))))))))
theorem prog_57 : prog 57 = some (.code F_P_strings_Builder_WriteByte) := rfl
theorem prog_58 : prog 58 = some (.code F_P_strings_Builder_WriteString) := rfl
theorem prog_59 : prog 59 = some (.primS pBuilderString) := rfl
theorem prog_72 : prog 72 = some (.code F_strings_HasPrefix) := rfl
theorem prog_73 : prog 73 = some (.primS pCopyCheck) := rfl
theorem prog_78 : prog 78 = some (.prim pStrIndexByte) := rfl
theorem prog_79 : prog 79 = some (.code F_internal_stringslite_HasPrefix) := rfl
theorem prog_82 : prog 82 = some (.prim pStrIndex) := rfl
theorem prog_111 : prog 111 = some (.code F_addr_Right) := rfl
theorem prog_114 : prog 114 = some (.code F_posthornref04_Lower) := rfl
theorem prog_115 : prog 115 = some (.code F_addr_Plain) := rfl
theorem prog_124 : prog 124 = some (.code F_addr_parts) := rfl
theorem prog_125 : prog 125 = some (.code F_addr_isAtom) := rfl
theorem prog_126 : prog 126 = some (.code F_addr_isLabel) := rfl
theorem prog_127 : prog 127 = some (.code F_addr_isName) := rfl
theorem prog_128 : prog 128 = some (.code F_strings_Cut) := rfl
theorem prog_133 : prog 133 = some (.prim pStrSplit) := rfl
theorem prog_134 : prog 134 = some (.code F_addr_alnum) := rfl
theorem prog_135 : prog 135 = some (.code F_internal_stringslite_Cut) := rfl
theorem prog_167 : prog 167 = some (.code F_fields_lower) := rfl
theorem prog_199 : prog 199 = some (.code F_when_Right) := rfl
theorem prog_209 : prog 209 = some (.code F_posthornref12_Time) := rfl
theorem prog_215 : prog 215 = some (.code F_posthornref04_Parts) := rfl
theorem prog_256 : prog 256 = some (.code F_date_Print) := rfl
theorem prog_258 : prog 258 = some (.code F_date_Weekday) := rfl
theorem prog_259 : prog 259 = some (.code F_posthornref20_Weekday) := rfl
theorem prog_260 : prog 260 = some (.code F_posthornlaw20_alive) := rfl
theorem prog_262 : prog 262 = some (.code F_date_Parse) := rfl
theorem prog_263 : prog 263 = some (.code F_posthornref20_Parse) := rfl
theorem prog_264 : prog 264 = some (.code F_posthornlaw20_DateParses) := rfl
theorem prog_265 : prog 265 = some (.code F_date_ID) := rfl
theorem prog_267 : prog 267 = some (.code F_date_IDs) := rfl
theorem prog_274 : prog 274 = some (.code F_date_isShift) := rfl
theorem prog_275 : prog 275 = some (.code F_when_Civil) := rfl
theorem prog_276 : prog 276 = some (.code F_date_two) := rfl
theorem prog_277 : prog 277 = some (.code F_date_dayName) := rfl
theorem prog_278 : prog 278 = some (.code F_date_monthName) := rfl
theorem prog_281 : prog 281 = some (.code F_posthornref20_Day) := rfl
theorem prog_283 : prog 283 = some (.code F_posthornref20_Month) := rfl
theorem prog_284 : prog 284 = some (.code F_date_bare) := rfl
theorem prog_285 : prog 285 = some (.code F_date_words) := rfl
theorem prog_286 : prog 286 = some (.code F_date_weekday) := rfl
theorem prog_287 : prog 287 = some (.code F_date_digits) := rfl
theorem prog_288 : prog 288 = some (.code F_date_name) := rfl
theorem prog_289 : prog 289 = some (.code F_date_year) := rfl
theorem prog_290 : prog 290 = some (.code F_date_clock) := rfl
theorem prog_291 : prog 291 = some (.code F_date_zone) := rfl
theorem prog_292 : prog 292 = some (.code F_when_Days) := rfl
theorem prog_293 : prog 293 = some (.code F_posthornref20_clean) := rfl
theorem prog_294 : prog 294 = some (.code F_posthornref20_words) := rfl
theorem prog_295 : prog 295 = some (.code F_posthornref20_named) := rfl
theorem prog_296 : prog 296 = some (.code F_posthornref20_number) := rfl
theorem prog_297 : prog 297 = some (.code F_posthornref20_yearOf) := rfl
theorem prog_298 : prog 298 = some (.code F_posthornref20_monthOf) := rfl
theorem prog_299 : prog 299 = some (.code F_posthornref12_Days) := rfl
theorem prog_300 : prog 300 = some (.code F_posthornref20_clockOf) := rfl
theorem prog_301 : prog 301 = some (.code F_posthornref20_zoneOf) := rfl
theorem prog_302 : prog 302 = some (.code F_date_isDomain) := rfl
theorem prog_303 : prog 303 = some (.code F_date_five) := rfl
theorem prog_305 : prog 305 = some (.code F_strings_CutPrefix) := rfl
theorem prog_306 : prog 306 = some (.code F_when_before) := rfl
theorem prog_307 : prog 307 = some (.code F_when_month) := rfl
theorem prog_308 : prog 308 = some (.code F_posthornref12_Year) := rfl
theorem prog_309 : prog 309 = some (.code F_posthornref12_Month) := rfl
theorem prog_310 : prog 310 = some (.code F_date_words_c1) := rfl
theorem prog_311 : prog 311 = some (.code F_date_lower) := rfl
theorem prog_312 : prog 312 = some (.code F_posthornref20_dayOf) := rfl
theorem prog_313 : prog 313 = some (.code F_posthornref12_Value) := rfl
theorem prog_314 : prog 314 = some (.code F_internal_stringslite_CutPrefix) := rfl
theorem prog_315 : prog 315 = some (.code F_when_leap) := rfl
end Go.Ab

/-
  Slices that grow: what a function has made itself.
-/
namespace Go.Ab
set_option linter.unusedVariables false
set_option linter.unusedSimpArgs false

/-- A state that has grown: its boxes and loops are these, its first tokens those. -/
structure GrewAt (B : List (List PV)) (T : List Bool) (L : List LoopS) (lo : Nat) (s : St) : Prop where
  bx : s.boxes = B
  lp : s.loops = L
  lw : s.low = lo
  tk : s.toks.take T.length = T
/-- A state of a function that was called in st and has laid no box. -/
abbrev Grew (st s : St) : Prop := GrewAt st.boxes st.toks st.loops st.boxes.length s

variable {B : List (List PV)} {T : List Bool} {L : List LoopS} {lo : Nat}
theorem GrewAt.len {s : St} (h : GrewAt B T L lo s) : T.length ≤ s.toks.length := by
  have := congrArg List.length h.tk
  simp at this; omega
theorem Grew.start {st : St} : Grew st { boxes := st.boxes, toks := st.toks, loops := st.loops, low := st.boxes.length } := ⟨rfl, rfl, rfl, by simp⟩
theorem GrewAt.start {ts : List Bool} : GrewAt B T L lo ⟨B, T ++ ts, L, lo⟩ := ⟨rfl, rfl, rfl, by simp⟩
/-- One more token. -/
def St.tok1 (s : St) : St := { s with toks := s.toks ++ [true] }
theorem GrewAt.tok1 {s : St} (h : GrewAt B T L lo s) : GrewAt B T L lo s.tok1 := ⟨h.bx, h.lp, h.lw, by
  show (s.toks ++ [true]).take T.length = T
  rw [List.take_append_of_le_length h.len]; exact h.tk⟩

/-- A slice that a function has made itself, or none. -/
def Own (st s : St) (esz : Nat) (v : PV) (xs : List PV) : Prop := (v = .nils ∧ xs = []) ∨ ∃ i, v = .sl esz (.own i) xs ∧ st.toks.length ≤ i ∧ s.toks[i]? = some true
def OwnB (st s : St) (v : PV) (l : List UInt8) : Prop := (v = .nils ∧ l = []) ∨ ∃ i, v = .bys (.own i) l ∧ st.toks.length ≤ i ∧ s.toks[i]? = some true

theorem Own.tok1 {st s : St} {esz : Nat} {v : PV} {xs : List PV} (h : Own st s esz v xs) : Own st s.tok1 esz v xs := by
  rcases h with h | ⟨i, h1, h2, h3⟩
  · exact .inl h
  · exact .inr ⟨i, h1, h2, by show (s.toks ++ [true])[i]? = some true; rw [List.getElem?_append_left (List.getElem?_eq_some_iff.1 h3).1]; exact h3⟩
theorem OwnB.tok1 {st s : St} {v : PV} {l : List UInt8} (h : OwnB st s v l) : OwnB st s.tok1 v l := by
  rcases h with h | ⟨i, h1, h2, h3⟩
  · exact .inl h
  · exact .inr ⟨i, h1, h2, by show (s.toks ++ [true])[i]? = some true; rw [List.getElem?_append_left (List.getElem?_eq_some_iff.1 h3).1]; exact h3⟩
theorem OwnB.by {st s : St} {v : PV} {l : List UInt8} (h : OwnB st s v l) : v.by = some l := by
  rcases h with ⟨rfl, rfl⟩ | ⟨i, rfl, _, _⟩ <;> rfl

/-- What append leaves of the tokens. -/
def appS (s : St) (v : PV) : St := match v with
  | .sl _ (.own i) _ => { s with toks := s.toks.set i false ++ [true] }
  | .bys (.own i) _ => { s with toks := s.toks.set i false ++ [true] }
  | _ => s.tok1
theorem appV_own {st s : St} {esz : Nat} {v u : PV} {xs : List PV} {t : Tok} (h : Own st s esz v xs) (hl : xs.length + 1 ≤ room) :
    appV esz s v (.sl esz t [u]) = some (.sl esz (.own s.toks.length) (xs ++ [u]), appS s v) := by
  rcases h with ⟨rfl, rfl⟩ | ⟨i, rfl, h2, h3⟩
  · simp [appV, srcV, freshT, room, appS, St.tok1]
  · simp [appV, srcV, freshT, appTok, appS, h3, hl]
theorem Own.app {st s : St} {esz : Nat} {v : PV} {xs ys : List PV} (hg : GrewAt B st.toks L lo s) (h : Own st s esz v xs) : GrewAt B st.toks L lo (appS s v) ∧ Own st (appS s v) esz (.sl esz (.own s.toks.length) ys) ys := by
  have hlen := hg.len
  rcases h with ⟨rfl, rfl⟩ | ⟨i, rfl, h2, h3⟩
  · refine ⟨hg.tok1, .inr ⟨_, rfl, hlen, ?_⟩⟩
    simp [appS, St.tok1]
  · refine ⟨⟨hg.bx, hg.lp, hg.lw, ?_⟩, .inr ⟨_, rfl, hlen, ?_⟩⟩
    · show (s.toks.set i false ++ [true]).take st.toks.length = st.toks
      rw [List.take_append_of_le_length (by simpa using hlen), List.take_set_of_le h2]; exact hg.tk
    · show (s.toks.set i false ++ [true])[s.toks.length]? = some true
      rw [List.getElem?_append_right (by simp)]; simp
theorem OwnB.app {st s : St} {v : PV} {l m : List UInt8} (hg : GrewAt B st.toks L lo s) (h : OwnB st s v l) : GrewAt B st.toks L lo (appS s v) ∧ OwnB st (appS s v) (.bys (.own s.toks.length) m) m := by
  have hlen := hg.len
  rcases h with ⟨rfl, rfl⟩ | ⟨i, rfl, h2, h3⟩
  · refine ⟨hg.tok1, .inr ⟨_, rfl, hlen, ?_⟩⟩
    simp [appS, St.tok1]
  · refine ⟨⟨hg.bx, hg.lp, hg.lw, ?_⟩, .inr ⟨_, rfl, hlen, ?_⟩⟩
    · show (s.toks.set i false ++ [true]).take st.toks.length = st.toks
      rw [List.take_append_of_le_length (by simpa using hlen), List.take_set_of_le h2]; exact hg.tk
    · show (s.toks.set i false ++ [true])[s.toks.length]? = some true
      rw [List.getElem?_append_right (by simp)]; simp

/-- Bytes in a box of two's middle. -/
theorem GrewAt.loops {s : St} {L' : List LoopS} (h : GrewAt B T L lo s) : GrewAt B T L' lo { s with loops := L' } := ⟨h.bx, rfl, h.lw, h.tk⟩
theorem OwnB.loops {st s : St} {v : PV} {l : List UInt8} {L' : List LoopS} (h : OwnB st s v l) : OwnB st { s with loops := L' } v l := h
/-- A slice of values, new to the caller. -/
def newSl (st : St) (esz : Nat) (xs : List PV) : PV := if xs = [] then .nils else .sl esz (.own st.toks.length) xs
def newS (st : St) (b : Bool) : St := if b then st else st.tok1
theorem freshT_eq {s : St} : freshT s = (.own s.toks.length, s.tok1) := rfl
end Go.Ab

/-
  Ranges over functions; memory that grows.
-/
namespace Go.Ab
set_option linter.unusedVariables false
set_option linter.unusedSimpArgs false
variable {A : AP} {st : St} {e : Env}

theorem W_rangeFunc {f : Opd} {ps : List Nat} {asg body : ACode} {fid : Nat} {caps : List PV} {fn : ACFn} {Q : Ex → Env → St → Prop} (hf : f.ev e = .fn fid caps) (hA : A fid = some (.code fn))
    (h : ∃ v s1 r, call A (.fn fid caps) [.yld st.loops.length] { st with loops := st.loops ++ [recOf e ps asg body] } = some (v, s1) ∧ s1.loops[st.loops.length]? = some r ∧ r.status ≠ 1 ∧ Q r.pend e { s1 with loops := s1.loops.take st.loops.length }) :
    W A (.rangeFunc f ps asg body) e st Q := by
  obtain ⟨v, s1, r, h1, h2, h3, h4⟩ := h
  refine ⟨(r.pend, e, { s1 with loops := s1.loops.take st.loops.length }), ?_, h4⟩
  rw [ex_rangeFunc hf hA, h1]
  simp only [h2, h3, if_false]

/-- What is asked where a round ends. -/
def roundQ (k : Nat) (K : Bool → St → Prop) : Ex → Env → St → Prop := fun x _ s2 => ∃ r2, s2.loops[k]? = some r2 ∧ K (decide (x = .normal)) { s2 with loops := s2.loops.set k { r2 with status := if x = .normal then 0 else 2, pend := x } }

theorem yld_of_W {k : Nat} {args : List PV} {r : LoopS} {e1 : Env} {K : Bool → St → Prop} (hr : st.loops[k]? = some r) (hs : r.status = 0) (hl : args.length = r.params.length)
    (ha : ex A r.assign (updAll r.env r.params args) st = some (.normal, e1, st))
    (hb : W A r.body e1 { st with loops := st.loops.set k { r with status := 1 } } (roundQ k K)) : ∃ b s', call A (.yld k) args st = some (.bool b, s') ∧ K b s' := by
  obtain ⟨⟨x, e2, s2⟩, h1, r2, h2, h3⟩ := hb
  refine ⟨decide (x = .normal), _, ?_, h3⟩
  rw [call_yld hr hs hl, ha]
  simp only [hr, hs, if_true]
  rw [h1]
  simp only at h2 ⊢
  rw [h2]

theorem ex_of_W {c : ACode} {E : Env} {S : St} {x : Ex} (h : W A c e st (fun x' e' s' => x' = x ∧ e' = E ∧ s' = S)) : ex A c e st = some (x, E, S) := by
  obtain ⟨⟨x', e', s'⟩, h1, rfl, rfl, rfl⟩ := h
  exact h1
/-! ### Lists that have grown -/
theorem get_app {α : Type} {l r : List α} {k : Nat} : (l ++ r)[l.length + k]? = r[k]? := by
  rw [List.getElem?_append_right (by omega)]; congr 1; omega
theorem get_app0 {α : Type} {l r : List α} {a : α} : (l ++ a :: r)[l.length]? = some a := by simp
/-! ### Slices of values -/
def PV.vs (esz : Nat) : PV → Option (List PV)
  | .nils => some []
  | .sl e _ xs => if e = esz then some xs else none
  | _ => none
theorem vs_cases {esz : Nat} {x : PV} {xs : List PV} (h : x.vs esz = some xs) : (x = .nils ∧ xs = []) ∨ ∃ t, x = .sl esz t xs := by
  cases x <;> simp [PV.vs] at h
  · exact .inl ⟨rfl, h⟩
  · obtain ⟨rfl, rfl⟩ := h; exact .inr ⟨_, rfl⟩
theorem iaddr_vs {esz : Nat} {x : PV} {xs : List PV} {k : IntKind} {c : Int} (h : x.vs esz = some xs) (h1 : 0 ≤ c) (h2 : c.toNat < xs.length) : iaddrPV esz x (.int k c) = some (.cp (xs.getD c.toNat .undef).cells) := by
  rcases vs_cases h with ⟨rfl, rfl⟩ | ⟨t, rfl⟩
  · simp at h2
  · simp [iaddrPV, intOf, h1, show c < xs.length by omega]
end Go.Ab

/-
  Cuts in code; slices that live on in boxes.
-/
namespace Go.Ab
set_option linter.unusedVariables false
set_option linter.unusedSimpArgs false
variable {A : AP} {st : St} {e : Env}

/-- Code in two: what is known between. -/
theorem W_cut {a b : ACode} {Q : Ex → Env → St → Prop} (M : Env → St → Prop) (h1 : W A a e st (fun x e' s' => x = .normal ∧ M e' s')) (h2 : ∀ e' s', M e' s' → W A b e' s' Q) : W A (.seq a b) e st Q := by
  rw [qaaz]
  refine W_mono h1 ?_
  rintro x e s ⟨rfl, h⟩
  exact h2 e s h

/-- A law's call: its one result is true. -/
theorem law_of_W {f k : Nat} {args : List PV} {fn : ACFn} (hA : A f = some (.code fn)) (hr : fn.results = [.tmp k])
    (h : W A fn.body (env0 args) { st with low := st.boxes.length } (fun x e _ => (x = .normal ∨ x = .ret) ∧ e k = .bool true)) : ∃ s', call A (.fn f []) args st = some (.bool true, s') := by
  obtain ⟨⟨x, e1, st1⟩, h1, h2, h3⟩ := h
  simp only at h2 h3
  have hl : ∃ s', leave st st1 (.bool true) = (.bool true, s') := by
    unfold leave
    simp only [PV.inB, if_true]
    split
    · exact ⟨_, rfl⟩
    · exact ⟨_, rfl⟩
  obtain ⟨s', hl⟩ := hl
  refine ⟨s', ?_⟩
  have hres : resOf e1 st1 fn.results = some (.bool true) := by rw [hr]; simp [resOf, rvAll, rv1, h3, notTup, packRes]
  refine call_of_W hA ⟨(x, e1, st1), by rw [List.append_nil]; exact h1, h2, .bool true, hres, hl⟩

/-- A slice whose room is its own, or none. -/
def Live (s : St) (v : PV) (l : List UInt8) : Prop := (v = .nils ∧ l = []) ∨ ∃ i, v = .bys (.own i) l ∧ s.toks[i]? = some true
theorem Live.by {s : St} {v : PV} {l : List UInt8} (h : Live s v l) : v.by = some l := by
  rcases h with ⟨rfl, rfl⟩ | ⟨i, rfl, _⟩ <;> rfl
theorem Live.lt {s : St} {v : PV} {l : List UInt8} (h : Live s v l) {i : Nat} (hi : tokOf v = some i) : i < s.toks.length ∧ s.toks[i]? = some true := by
  rcases h with ⟨rfl, rfl⟩ | ⟨j, rfl, hj⟩
  · cases hi
  · simp only [tokOf, Option.some.injEq] at hi
    subst hi
    exact ⟨(List.getElem?_eq_some_iff.1 hj).1, hj⟩
theorem Live.tokLt {s : St} {v : PV} {l : List UInt8} (h : Live s v l) : v.tokLt s.toks.length = true := by
  rcases h with ⟨rfl, rfl⟩ | ⟨j, rfl, hj⟩
  · rfl
  · simp [PV.tokLt, Tok.lt, (List.getElem?_eq_some_iff.1 hj).1]
theorem Live.move {s s' : St} {v : PV} {l : List UInt8} (h : Live s v l) (ht : ∀ i, tokOf v = some i → s'.toks[i]? = s.toks[i]?) : Live s' v l := by
  rcases h with h | ⟨j, rfl, hj⟩
  · exact .inl h
  · exact .inr ⟨j, rfl, by rw [ht j rfl]; exact hj⟩
theorem Live.tok1 {s : St} {v : PV} {l : List UInt8} (h : Live s v l) : Live s.tok1 v l := h.move fun i hi => by
  show (s.toks ++ [true])[i]? = _
  rw [List.getElem?_append_left (h.lt hi).1]

theorem app8_live {s : St} {v y : PV} {l m : List UInt8} (h : Live s v l) (hy : src8 s y = some m) (hl : l.length + m.length ≤ room) :
    ∃ v' s', app8 s v y = some (v', s') ∧ s'.boxes = s.boxes ∧ s'.loops = s.loops ∧ s'.low = s.low ∧ Live s' v' (l ++ m) ∧ s.toks.length ≤ s'.toks.length ∧
      (∀ i, i < s.toks.length → tokOf v ≠ some i → s'.toks[i]? = s.toks[i]?) ∧ (∀ i, tokOf v' = some i → (tokOf v = some i ∧ s' = s) ∨ s.toks.length ≤ i) ∧ (m ≠ [] → tokOf v' = some s.toks.length) := by
  by_cases hm : m = []
  · subst hm
    refine ⟨v, s, ?_, rfl, rfl, rfl, by simpa using h, Nat.le_refl _, fun _ _ _ => rfl, fun i hi => .inl ⟨hi, rfl⟩, fun h => absurd rfl h⟩
    rcases h with ⟨rfl, rfl⟩ | ⟨j, rfl, hj⟩ <;> simp [app8, hy]
  · rcases h with ⟨rfl, rfl⟩ | ⟨j, rfl, hj⟩
    · simp at hl
      refine ⟨.bys (.own s.toks.length) m, s.tok1, by simp [app8, hy, hm, freshT, hl, St.tok1], rfl, rfl, rfl, .inr ⟨_, rfl, by simp [St.tok1]⟩, by simp [St.tok1], fun i hi _ => ?_, fun i hi => .inr ?_, fun _ => rfl⟩
      · show (s.toks ++ [true])[i]? = _
        rw [List.getElem?_append_left hi]
      · simp only [tokOf, Option.some.injEq] at hi; omega
    · refine ⟨.bys (.own s.toks.length) (l ++ m), ⟨s.boxes, s.toks.set j false ++ [true], s.loops, s.low⟩, by simp [app8, hy, hm, freshT, appTok, hj, hl], rfl, rfl, rfl, .inr ⟨_, rfl, by simp [List.getElem?_append_right]⟩, by simp, fun i hi hne => ?_, fun i hi => .inr ?_, fun _ => rfl⟩
      · show (s.toks.set j false ++ [true])[i]? = _
        rw [List.getElem?_append_left (by simpa using hi), List.getElem?_set_ne (fun h => hne (by rw [h]; rfl))]
      · simp only [tokOf, Option.some.injEq] at hi; omega
end Go.Ab
namespace Go.Ab
variable {A : AP} {st : St} {e : Env}
end Go.Ab

/-
  strings.Builder: what is written, and its text.
-/
namespace Go.Ab
set_option linter.unusedVariables false
set_option linter.unusedSimpArgs false
variable {P : St → Prop} {st : St} {e : Env} {s s' : St} {b : Nat} {x : PV} {l : List UInt8}

/-- A Builder in a box. -/
structure Bu (s : St) (b : Nat) (x : PV) (l : List UInt8) : Prop where
  bx : s.boxes[b]? = some [.bslot, x] ∨ s.boxes[b]? = some [.ptr b 0, x]
  lv : Live s x l

/-- What a write leaves. -/
structure BuStep (s s' : St) (b : Nat) (x x' : PV) (l' : List UInt8) : Prop where
  bx : s'.boxes = s.boxes.set b [.ptr b 0, x']
  lv : Live s' x' l'
  lp : s'.loops = s.loops
  tl : s.toks.length ≤ s'.toks.length
  tk : ∀ i, i < s.toks.length → tokOf x ≠ some i → s'.toks[i]? = s.toks[i]?
  tn : ∀ i, tokOf x' = some i → tokOf x = some i ∨ s.toks.length ≤ i
  lw : min s.low b ≤ s'.low

theorem Bu.lt (h : Bu s b x l) : b < s.boxes.length := by
  rcases h.bx with h | h <;> exact (List.getElem?_eq_some_iff.1 h).1
theorem BuStep.bu {x' : PV} {l' : List UInt8} (h : BuStep s s' b x x' l') (hb : b < s.boxes.length) : Bu s' b x' l' :=
  ⟨.inr (by rw [h.bx, List.getElem?_set_self hb]), h.lv⟩

theorem copyCheck_spec (h : Bu s b x l) : ∃ s1, primS pCopyCheck [.ptr b 0] s = some (.tup [], s1) ∧ s1 = { s with boxes := s.boxes.set b [.ptr b 0, x] } := by
  rcases h.bx with h1 | h1
  · refine ⟨_, ?_, rfl⟩
    simp [primS, pCopyCheck, h1, updS, storePV, PV.cells, PV.inB, leafOk, hasTok, tokOf, setCells]
  · refine ⟨_, ?_, rfl⟩
    have : s.boxes.set b [.ptr b 0, x] = s.boxes := by
      obtain ⟨q, r⟩ := List.getElem?_eq_some_iff.1 h1
      rw [← r]; simp
    rw [this]
    simp [primS, pCopyCheck, h1, updS]

/-- The core of a write: m is put behind; s was the caller's state, s0 is the callee's, with more tokens. -/
theorem bu_app {y : PV} {m : List UInt8} {s0 : St} (h : Live s x l) (hb : b < s.boxes.length) (hbx : s0.boxes = s.boxes.set b [.ptr b 0, x]) (hlp : s0.loops = s.loops) (htl : s.toks.length ≤ s0.toks.length) (htk : ∀ i, i < s.toks.length → s0.toks[i]? = s.toks[i]?)
    (hy : src8 s0 y = some m) (hl : l.length + m.length ≤ room) (hlow : s0.low = s.boxes.length) :
    ∃ x' s1 s2, app8 s0 x y = some (x', s1) ∧ storePV s1 1 (.ptr b 1) x' = some s2 ∧ ∀ v : PV, v.inB s.boxes.length = true → (∀ n toks, keepRes n toks v = (v, [])) → ∃ s', leave s s2 v = (v, s') ∧ BuStep s s' b x x' (l ++ m) := by
  obtain ⟨x', s1, a1, a2, a3, a4, a5, a6, a7, a8, a9⟩ := app8_live (h.move (s' := s0) fun i hi => htk i (h.lt hi).1) hy hl
  have hg : s1.boxes[b]? = some [.ptr b 0, x] := by rw [a2, hbx, List.getElem?_set_self hb]
  have hcell : x'.cells = [x'] ∧ leafOk x' = true ∧ x'.inB (b + 1) = true := by
    rcases a5 with ⟨rfl, _⟩ | ⟨i, rfl, _⟩ <;> exact ⟨rfl, rfl, rfl⟩
  have hst : storePV s1 1 (.ptr b 1) x' = some { s1 with boxes := s1.boxes.set b [.ptr b 0, x'], low := if hasTok [x'] then min s1.low b else s1.low } := by
    simp [storePV, hg, hcell.1, hcell.2.1, hcell.2.2, setCells]
  refine ⟨x', s1, _, a1, hst, fun v hv hk => ?_⟩
  have htake : (s1.boxes.set b [.ptr b 0, x']).take s.boxes.length = s.boxes.set b [.ptr b 0, x'] := by
    rw [a2, hbx, List.set_set]; apply List.take_of_length_le; simp
  have hkeep : ∀ i, i < s.toks.length → tokOf x ≠ some i → s1.toks[i]? = s.toks[i]? := fun i hi hne => by
    rw [a7 i (by omega) hne, htk i hi]
  cases ht : hasTok [x'] with
  | true =>
    have hlt : ¬ s.boxes.length ≤ min s1.low b := by omega
    refine ⟨{ boxes := s.boxes.set b [.ptr b 0, x'], toks := s1.toks, loops := s1.loops, low := min s.low (min s1.low b) }, ?_, ⟨rfl, a5, a3.trans hlp, by show s.toks.length ≤ s1.toks.length; omega, hkeep, fun i hi => ?_, ?_⟩⟩
    · simp [leave, hv, hlt, htake]
    · rcases a8 i hi with ⟨h1, _⟩ | h1
      · exact .inl h1
      · exact .inr (by omega)
    · show min s.low b ≤ min s.low (min s1.low b)
      rw [a4, hlow]; omega
  | false =>
    -- nothing that lives was stored
    have hx' : x' = .nils := by
      rcases a5 with ⟨rfl, _⟩ | ⟨i, rfl, _⟩
      · rfl
      · simp [hasTok, tokOf] at ht
    have hle : s.boxes.length ≤ s1.low := by rw [a4, hlow]; exact Nat.le_refl _
    refine ⟨{ boxes := s.boxes.set b [.ptr b 0, x'], toks := s1.toks.take s.toks.length, loops := s1.loops, low := s.low }, ?_, ⟨rfl, ?_, a3.trans hlp, ?_, fun i hi hne => ?_, fun i hi => (by rw [hx'] at hi; cases hi), ?_⟩⟩
    · simp [leave, hv, hle, htake, hk]
    · rcases a5 with ⟨h1, h2⟩ | ⟨i, h1, _⟩
      · exact .inl ⟨h1, h2⟩
      · rw [hx'] at h1; cases h1
    · simp; omega
    · show (s1.toks.take s.toks.length)[i]? = _
      rw [List.getElem?_take, if_pos hi]; exact hkeep i hi hne
    · show min s.low b ≤ s.low
      omega

theorem WriteByte_spec {c : UInt8} (h : Bu s b x l) (hl : l.length + 1 ≤ room) : ∃ x' s', call prog (.fn 57 []) [.ptr b 0, .b8 c] s = some (.nili, s') ∧ BuStep s s' b x x' (l ++ [c]) := by
  have hlt := h.lt
  obtain ⟨s1, c1, c2⟩ := copyCheck_spec (s := { s with low := s.boxes.length }) ⟨h.bx, h.lv.move fun _ _ => rfl⟩
  have hlit : lit8Fill (List.replicate 1 0) [(0, .b8 c)] = some [c] := rfl
  have ld : loadPV s1 false 1 (.ptr b 1) = some x := by simp [c2, loadPV, hlt, readCells]
  obtain ⟨x', s2, s3, a1, a2, a3⟩ := bu_app (s := s) (s0 := s1.tok1) (b := b) (y := .bys (.own s1.toks.length) [c]) (m := [c]) h.lv hlt (by rw [c2]; rfl) (by rw [c2]; rfl) (by rw [c2]; simp [St.tok1]) (fun i hi => by
    rw [c2]; show (s.toks ++ [true])[i]? = _
    rw [List.getElem?_append_left hi]) rfl (by simpa using hl) (by rw [c2]; rfl)
  obtain ⟨s', k1, k2⟩ := a3 .nili rfl (fun _ _ => rfl)
  refine ⟨x', s', call_of_W prog_57 ?_, k2⟩
  unfold F_P_strings_Builder_WriteByte; dsimp only
  have c1' : call prog (.fn 73 []) [.ptr b 0] { boxes := s.boxes, toks := s.toks, loops := s.loops, low := s.boxes.length } = some (.tup [], s1) := by
    rw [call_primS prog_73]; exact c1
  simp (maxSteps := 1000000) (disch := omega) only [c1', faddrPV, Nat.zero_add, ld, hlit, freshT_eq, a1, a2, qaaz, qabz, qacz, qadz, qaez, qafz, qagz, qahz, qaiz, qajz, qakz, qalz, qamz, qanz, evOp, qaoz, qapz, qaqz, qarz, qasz, qatz, qauz, qavz,
 ↓reduceIte, Nat.reduceEqDiff, List.nil_append, List.cons_append, List.append_nil, List.map_cons, List.map_nil, qawz, qaxz, qayz, Option.map_some, Option.map_none, qazz, qbaz, qbbz, qbcz, qbdz, qbez, qbfz, qbgz, qbhz, qbiz, qbjz, qbkz, qblz, qbmz, qbnz, qboz,
 qbpz, qbqz, qbrz, qbsz, qbtz, qbuz, qbvz, qbwz, qbxz, qbyz, qbzz, qcaz, qcbz, qccz, qcdz, qcez, qcfz, qcgz, qchz, qciz, beq_true, beq_false, Bool.not_eq_true', decide_eq_true_eq, decide_eq_false_iff_not, decide_true, decide_false,
 Int.toNat_natCast, Int.ofNat_lt, Int.ofNat_le, Int.natCast_inj, Bool.false_eq_true, Bool.true_eq_false, qcjz, List.getElem?_cons_zero, List.getElem?_cons_succ, qckz, Int.reduceToNat, Int.reduceLE, true_and, and_true, reduceCtorEq, or_false, false_or, or_true, Option.some.injEq, exists_eq_left', Bool.not_true, Bool.not_false, ne_eq, Int.reduceEq, not_true_eq_false, not_false_eq_true, Int.reduceLT, UInt8.reduceLT, UInt8.reduceLE, UInt8.reduceToNat]
  exact ⟨.nili, rfl, k1⟩

/-- The text; the room behind it is nobody's more. -/
theorem BString_spec (h : Bu s b x l) (hn : l = [] → x = .nils) (hr : l.length ≤ room) : ∃ s', call prog (.fn 59 []) [.ptr b 0] s = some (.str l, s') ∧ s'.boxes = s.boxes ∧ s'.loops = s.loops ∧ s'.low = s.low ∧ s'.toks.length = s.toks.length ∧ ∀ i, tokOf x ≠ some i → s'.toks[i]? = s.toks[i]? := by
  rw [call_primS prog_59]
  rcases h.lv with ⟨rfl, rfl⟩ | ⟨i, rfl, hi⟩
  · refine ⟨s, ?_, rfl, rfl, rfl, rfl, fun _ _ => rfl⟩
    rcases h.bx with h1 | h1 <;> simp [primS, pBuilderString, h1, updS]
  · have hl : l ≠ [] := fun h => by have := hn h; cases this
    refine ⟨{ s with toks := s.toks.set i false }, ?_, rfl, rfl, rfl, by simp, fun j hj => ?_⟩
    · rcases h.bx with h1 | h1 <;> simp [primS, pBuilderString, h1, hl, updS, hi, show ¬ room < l.length by omega]
    · rw [List.getElem?_set_ne (fun h => hj (by rw [h]; rfl))]

/-! ### A function's state that keeps what its caller has -/
structure Kept (st s : St) : Prop where
  bx : s.boxes.take st.boxes.length = st.boxes
  lp : s.loops = st.loops
  lw : st.boxes.length ≤ s.low
  tk : s.toks.take st.toks.length = st.toks

theorem Kept.start : Kept st { boxes := st.boxes, toks := st.toks, loops := st.loops, low := st.boxes.length } := ⟨by simp, rfl, Nat.le_refl _, by simp⟩
theorem Kept.bl (h : Kept st s) : st.boxes.length ≤ s.boxes.length := by
  have := congrArg List.length h.bx
  simp at this; omega
theorem Kept.tl (h : Kept st s) : st.toks.length ≤ s.toks.length := by
  have := congrArg List.length h.tk
  simp at this; omega
theorem Kept.get (h : Kept st s) {i : Nat} (hi : i < st.toks.length) : s.toks[i]? = st.toks[i]? := by
  have := congrArg (fun z => z[i]?) h.tk
  simpa [List.getElem?_take, hi] using this
theorem Kept.of {s' : St} (h : Kept st s) (hb : s'.boxes.take st.boxes.length = s.boxes.take st.boxes.length) (hl : s'.loops = s.loops) (hw : st.boxes.length ≤ s'.low) (ht : ∀ i, i < st.toks.length → s'.toks[i]? = s.toks[i]?) (hn : st.toks.length ≤ s'.toks.length) : Kept st s' :=
  ⟨hb.trans h.bx, hl.trans h.lp, hw, by
    apply List.ext_getElem?
    intro i
    rw [List.getElem?_take]
    split
    · rename_i hi
      rw [ht i hi, h.get hi]
    · rename_i hi
      rw [List.getElem?_eq_none (by omega)]⟩
theorem Kept.tok1 (h : Kept st s) : Kept st s.tok1 := h.of rfl rfl h.lw (fun i hi => by
  show (s.toks ++ [true])[i]? = _
  rw [List.getElem?_append_left (by have := h.tl; omega)]) (by have := h.tl; simp [St.tok1]; omega)
theorem Kept.leave (h : Kept st s) {v : PV} (h1 : v.inB st.boxes.length = true) (h2 : ∀ n toks, keepRes n toks v = (v, [])) : leave st s v = (v, st) := by
  have e1 := h.bx; have e2 := h.lp; have e3 := h.tk
  simp [Ab.leave, h1, h.lw, h2, e1, e2, e3]
theorem Kept.alloc {z : List PV} (h : Kept st s) : Kept st { s with boxes := s.boxes ++ [z] } := h.of (by
  have := h.bl
  rw [List.take_append_of_le_length this]) rfl h.lw (fun _ _ => rfl) h.tl
/-- A Builder of one's own is written. -/
theorem Kept.step {x' : PV} {l' : List UInt8} (h : Kept st s) (hs : BuStep s s' b x x' l') (hb : st.boxes.length ≤ b) (hm : ∀ i, tokOf x = some i → st.toks.length ≤ i) : Kept st s' ∧ ∀ i, tokOf x' = some i → st.toks.length ≤ i := by
  have htl := h.tl
  refine ⟨h.of ?_ hs.lp (by have := hs.lw; have := h.lw; omega) (fun i hi => hs.tk i (by omega) fun hh => by have := hm i hh; omega) (by have := hs.tl; omega), fun i hi => ?_⟩
  · rw [hs.bx, List.take_set_of_le hb]
  · rcases hs.tn i hi with h1 | h1
    · exact hm i h1
    · omega

theorem Kept.string (h : Kept st s) (hs : ∃ s', P s' ∧ s'.boxes = s.boxes ∧ s'.loops = s.loops ∧ s'.low = s.low ∧ s'.toks.length = s.toks.length ∧ ∀ i, tokOf x ≠ some i → s'.toks[i]? = s.toks[i]?) (hm : ∀ i, tokOf x = some i → st.toks.length ≤ i) : ∃ s', P s' ∧ Kept st s' := by
  obtain ⟨s', h0, h1, h2, h3, h4, h5⟩ := hs
  exact ⟨s', h0, h.of (by rw [h1]) h2 (by rw [h3]; exact h.lw) (fun i hi => h5 i fun hh => by have := hm i hh; omega) (by rw [h4]; exact h.tl)⟩

/-- A slice of one's own. -/
def Mine (st s : St) (v : PV) (l : List UInt8) : Prop := Live s v l ∧ ∀ t, tokOf v = some t → st.toks.length ≤ t
theorem Mine.nil : Mine st s .nils [] := ⟨.inl ⟨rfl, rfl⟩, fun t h => (by cases h)⟩
theorem Mine.by {v : PV} (h : Mine st s v l) : v.by = some l := h.1.by
theorem Mine.tok1 {v : PV} (h : Mine st s v l) : Mine st s.tok1 v l := ⟨h.1.tok1, h.2⟩
theorem Kept.app8 {v y : PV} {m : List UInt8} (hk : Kept st s) (h : Mine st s v l) (hy : src8 s y = some m) (hl : l.length + m.length ≤ room) :
    ∃ v' s', Ab.app8 s v y = some (v', s') ∧ Kept st s' ∧ Mine st s' v' (l ++ m) := by
  obtain ⟨v', s', a1, a2, a3, a4, a5, a6, a7, a8, a9⟩ := app8_live h.1 hy hl
  have htl := hk.tl
  refine ⟨v', s', a1, hk.of (by rw [a2]) a3 (by rw [a4]; exact hk.lw) (fun i hi => a7 i (by omega) fun hh => by have := h.2 i hh; omega) (by omega), a5, fun t ht => ?_⟩
  rcases a8 t ht with ⟨h1, _⟩ | h1
  · exact h.2 t h1
  · omega
/-- One byte more. -/
theorem Kept.push {v : PV} {c : UInt8} (hk : Kept st s) (h : Mine st s v l) (hl : l.length + 1 ≤ room) :
    ∃ v' s', Ab.app8 s.tok1 v (.bys (.own s.toks.length) [c]) = some (v', s') ∧ Kept st s' ∧ Mine st s' v' (l ++ [c]) :=
  hk.tok1.app8 h.tok1 rfl (by simpa using hl)
theorem lit8_1 {c : UInt8} : lit8Fill (List.replicate 1 0) [(0, .b8 c)] = some [c] := rfl
/-- What a call hands back that is no slice, no place. -/
def Flat (v : PV) : Prop := (∀ n, v.inB n = true) ∧ (∀ n toks, keepRes n toks v = (v, []))
theorem Kept.leave' (h : Kept st s) {v : PV} (hv : Flat v) : Ab.leave st s v = (v, st) := h.leave (hv.1 _) hv.2
end Go.Ab

/-
  Operations on texts; the library's and the document's searches in them.
-/
namespace Go.Ab
set_option linter.unusedVariables false
set_option linter.unusedSimpArgs false
variable {A : AP} {st : St} {e : Env}

theorem len_s {l : List UInt8} : lenPV true (.str l) = some (.int .i64 (l.length : Int)) := rfl
theorem idx_s {l : List UInt8} {k : IntKind} {c : Int} (h1 : 0 ≤ c) (h2 : c.toNat < l.length) : idxSPV (.str l) (.int k c) = some (.b8 (l.getD c.toNat 0)) := by
  simp [idxSPV, intOf, h1, show c < l.length by omega]
theorem slc_s_lo {l : List UInt8} {k : IntKind} {c : Int} (h1 : 0 ≤ c) (h2 : c.toNat ≤ l.length) : slcPV 0 (.str l) (some (.int k c)) none none = some (.str (l.drop c.toNat)) := by
  simp [slcPV, bnd, intOf, h1, show c ≤ l.length by omega]
theorem slc_s_hi {l : List UInt8} {k : IntKind} {c : Int} (h1 : 0 ≤ c) (h2 : c.toNat ≤ l.length) : slcPV 0 (.str l) none (some (.int k c)) none = some (.str (l.take c.toNat)) := by
  simp [slcPV, bnd, intOf, h1, show c ≤ l.length by omega]
theorem slc_s {l : List UInt8} {k k' : IntKind} {c d : Int} (h1 : 0 ≤ c) (h2 : c ≤ d) (h3 : d.toNat ≤ l.length) : slcPV 0 (.str l) (some (.int k c)) (some (.int k' d)) none = some (.str ((l.take d.toNat).drop c.toNat)) := by
  simp [slcPV, bnd, intOf, h1, show d ≤ l.length by omega, show 0 ≤ d by omega, show c ≤ max d 0 by omega]
theorem adds {ek : EK} {a b : List UInt8} (h : a.length + b.length ≤ 9223372036854775807) : binPV .add ek (.str a) (.str b) = some (.str (a ++ b)) := by
  simp [binPV, binS, h]

theorem drop_getD {l : List UInt8} {i : Nat} (h : i < l.length) : l.drop i = l.getD i 0 :: l.drop (i + 1) := by
  rw [List.drop_eq_getElem_cons h]; congr 1; simp [List.getD, h]
theorem take_getD {l : List UInt8} {i : Nat} (h : i < l.length) : l.take (i + 1) = l.take i ++ [l.getD i 0] := by
  rw [List.take_succ_eq_append_getElem h]; simp [List.getD, h]

/-- A text of one byte is a part just if the byte is in the text. -/
theorem index_one {l : List UInt8} {c : UInt8} : 0 ≤ Lib.index l [c] ↔ c ∈ l := by
  induction l with
  | nil => simp [Lib.index]
  | cons d r ih =>
    simp only [Lib.index]
    by_cases h : c = d
    · subst h; simp
    · have h' : ([c] : List UInt8).isPrefixOf (d :: r) = false := by simp [List.isPrefixOf, h]
      have hge := Lib.index_ge r [c]
      rw [h']
      simp only [Bool.false_eq_true, if_false, List.mem_cons, h, false_or]
      rw [← ih]
      split
      · rename_i h2; simp at h2; omega
      · rename_i h2; simp at h2; omega

theorem strIndex_spec {a b : List UInt8} (h : a.length < 4294967281) : call prog (.fn 82 []) [.str a, .str b] st = some (.int .i64 (Lib.index a b), st) := by
  rw [call_prim prog_82]; simp [pStrIndex, h]
theorem slHasPrefix_spec {a b : List UInt8} : call prog (.fn 79 []) [.str a, .str b] st = some (.bool (decide (b <+: a)), st) := by
  refine call_of_W prog_79 ?_
  unfold F_internal_stringslite_HasPrefix; dsimp only
  by_cases h : b.length ≤ a.length
  · simp (maxSteps := 1000000) (disch := omega) only [len_s, h, slc_s_hi, qaaz, qabz, qacz, qadz, qaez, qafz, qagz, qahz, qaiz, qajz, qakz, qalz, qamz, qanz, evOp, qaoz, qapz, qaqz, qarz, qasz, qatz, qauz, qavz,
 ↓reduceIte, Nat.reduceEqDiff, List.nil_append, List.cons_append, List.append_nil, List.map_cons, List.map_nil, qawz, qaxz, qayz, Option.map_some, Option.map_none, qazz, qbaz, qbbz, qbcz, qbdz, qbez, qbfz, qbgz, qbhz, qbiz, qbjz, qbkz, qblz, qbmz, qbnz, qboz,
 qbpz, qbqz, qbrz, qbsz, qbtz, qbuz, qbvz, qbwz, qbxz, qbyz, qbzz, qcaz, qcbz, qccz, qcdz, qcez, qcfz, qcgz, qchz, qciz, beq_true, beq_false, Bool.not_eq_true', decide_eq_true_eq, decide_eq_false_iff_not, decide_true, decide_false,
 Int.toNat_natCast, Int.ofNat_lt, Int.ofNat_le, Int.natCast_inj, Bool.false_eq_true, Bool.true_eq_false, qcjz, List.getElem?_cons_zero, List.getElem?_cons_succ, qckz, Int.reduceToNat, Int.reduceLE, true_and, and_true, reduceCtorEq, or_false, false_or, or_true, Option.some.injEq, exists_eq_left', Bool.not_true, Bool.not_false, ne_eq, Int.reduceEq, not_true_eq_false, not_false_eq_true, Int.reduceLT, UInt8.reduceLT, UInt8.reduceLE, UInt8.reduceToNat]
    rw [show decide (b <+: a) = decide (a.take b.length = b) by congr 1; rw [List.prefix_iff_eq_take]; exact propext eq_comm]
    exact end1 rfl Kp_bool
  · simp (maxSteps := 1000000) (disch := omega) only [len_s, h, qaaz, qabz, qacz, qadz, qaez, qafz, qagz, qahz, qaiz, qajz, qakz, qalz, qamz, qanz, evOp, qaoz, qapz, qaqz, qarz, qasz, qatz, qauz, qavz,
 ↓reduceIte, Nat.reduceEqDiff, List.nil_append, List.cons_append, List.append_nil, List.map_cons, List.map_nil, qawz, qaxz, qayz, Option.map_some, Option.map_none, qazz, qbaz, qbbz, qbcz, qbdz, qbez, qbfz, qbgz, qbhz, qbiz, qbjz, qbkz, qblz, qbmz, qbnz, qboz,
 qbpz, qbqz, qbrz, qbsz, qbtz, qbuz, qbvz, qbwz, qbxz, qbyz, qbzz, qcaz, qcbz, qccz, qcdz, qcez, qcfz, qcgz, qchz, qciz, beq_true, beq_false, Bool.not_eq_true', decide_eq_true_eq, decide_eq_false_iff_not, decide_true, decide_false,
 Int.toNat_natCast, Int.ofNat_lt, Int.ofNat_le, Int.natCast_inj, Bool.false_eq_true, Bool.true_eq_false, qcjz, List.getElem?_cons_zero, List.getElem?_cons_succ, qckz, Int.reduceToNat, Int.reduceLE, true_and, and_true, reduceCtorEq, or_false, false_or, or_true, Option.some.injEq, exists_eq_left', Bool.not_true, Bool.not_false, ne_eq, Int.reduceEq, not_true_eq_false, not_false_eq_true, Int.reduceLT, UInt8.reduceLT, UInt8.reduceLE, UInt8.reduceToNat]
    rw [show decide (b <+: a) = false by simp; intro hp; exact h hp.length_le]
    exact end1 rfl Kp_bool
theorem sHasPrefix_spec {a b : List UInt8} : call prog (.fn 72 []) [.str a, .str b] st = some (.bool (decide (b <+: a)), st) := by
  refine call_of_W prog_72 ?_
  unfold F_strings_HasPrefix; dsimp only
  simp (maxSteps := 1000000) (disch := omega) only [slHasPrefix_spec, qaaz, qabz, qacz, qadz, qaez, qafz, qagz, qahz, qaiz, qajz, qakz, qalz, qamz, qanz, evOp, qaoz, qapz, qaqz, qarz, qasz, qatz, qauz, qavz,
 ↓reduceIte, Nat.reduceEqDiff, List.nil_append, List.cons_append, List.append_nil, List.map_cons, List.map_nil, qawz, qaxz, qayz, Option.map_some, Option.map_none, qazz, qbaz, qbbz, qbcz, qbdz, qbez, qbfz, qbgz, qbhz, qbiz, qbjz, qbkz, qblz, qbmz, qbnz, qboz,
 qbpz, qbqz, qbrz, qbsz, qbtz, qbuz, qbvz, qbwz, qbxz, qbyz, qbzz, qcaz, qcbz, qccz, qcdz, qcez, qcfz, qcgz, qchz, qciz, beq_true, beq_false, Bool.not_eq_true', decide_eq_true_eq, decide_eq_false_iff_not, decide_true, decide_false,
 Int.toNat_natCast, Int.ofNat_lt, Int.ofNat_le, Int.natCast_inj, Bool.false_eq_true, Bool.true_eq_false, qcjz, List.getElem?_cons_zero, List.getElem?_cons_succ, qckz, Int.reduceToNat, Int.reduceLE, true_and, and_true, reduceCtorEq, or_false, false_or, or_true, Option.some.injEq, exists_eq_left', Bool.not_true, Bool.not_false, ne_eq, Int.reduceEq, not_true_eq_false, not_false_eq_true, Int.reduceLT, UInt8.reduceLT, UInt8.reduceLE, UInt8.reduceToNat]
  exact end1 rfl Kp_bool

end Go.Ab
