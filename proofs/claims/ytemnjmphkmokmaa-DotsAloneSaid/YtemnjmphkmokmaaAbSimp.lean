/-
  Operations on what is known of values: numbers that are naturals, slices of bytes.
-/
import Derived.Test.YtemnjmphkmokmaaAbW
import Derived.Test.YtemnjmphkmokmaaAbPrim
namespace Go.Ab
set_option linter.unusedVariables false
set_option linter.unusedSimpArgs false
variable {A : AP} {st : St} {e : Env}

theorem by_cases' {x : PV} {l : List UInt8} (h : x.by = some l) : (x = .nils ∧ l = []) ∨ ∃ t, x = .bys t l := by
  cases x <;> simp [PV.by] at h
  · exact .inl ⟨rfl, h⟩
  · subst h; exact .inr ⟨_, rfl⟩

theorem wrap64 {n : Int} (h1 : -9223372036854775808 ≤ n) (h2 : n < 9223372036854775808) : IntKind.i64.wrap n = n := by
  unfold IntKind.wrap
  simp only [IntKind.signed, IntKind.bits]
  simp
  omega

/-! ### Numbers -/
theorem add_n {ek : EK} {a : Nat} {c : Int} (h1 : 0 ≤ c) (h2 : a + c.toNat < 9223372036854775808) : binPV .add ek (.int .i64 (a : Int)) (.int .i64 c) = some (.int .i64 ((a + c.toNat : Nat) : Int)) := by
  simp only [binPV, binI, reduceIte, Option.some.injEq]
  rw [wrap64 (by omega) (by omega)]
  congr 1; omega
theorem add_n' {ek : EK} {a : Nat} {c : Int} (h1 : 0 ≤ c) (h2 : c.toNat + a < 9223372036854775808) : binPV .add ek (.int .i64 c) (.int .i64 (a : Int)) = some (.int .i64 ((c.toNat + a : Nat) : Int)) := by
  simp only [binPV, binI, reduceIte, Option.some.injEq]
  rw [wrap64 (by omega) (by omega)]
  congr 1; omega
theorem sub_n {ek : EK} {a : Nat} {c : Int} (h1 : 0 ≤ c) (h2 : c.toNat ≤ a) (h3 : a < 9223372036854775808) : binPV .sub ek (.int .i64 (a : Int)) (.int .i64 c) = some (.int .i64 ((a - c.toNat : Nat) : Int)) := by
  simp only [binPV, binI, reduceIte, Option.some.injEq]
  rw [wrap64 (by omega) (by omega)]
  congr 1; omega
theorem add_i {ek : EK} {a c : Int} (h1 : -9223372036854775808 ≤ a + c) (h2 : a + c < 9223372036854775808) : binPV .add ek (.int .i64 a) (.int .i64 c) = some (.int .i64 (a + c)) := by
  simp only [binPV, binI, reduceIte, Option.some.injEq]
  rw [wrap64 (by omega) (by omega)]
theorem sub_i {ek : EK} {a c : Int} (h1 : -9223372036854775808 ≤ a - c) (h2 : a - c < 9223372036854775808) : binPV .sub ek (.int .i64 a) (.int .i64 c) = some (.int .i64 (a - c)) := by
  simp only [binPV, binI, reduceIte, Option.some.injEq]
  rw [wrap64 (by omega) (by omega)]
theorem lss_i {k : IntKind} {ek : EK} {a c : Int} : binPV .lss ek (.int k a) (.int k c) = some (.bool (decide (a < c))) := by simp [binPV, binI]
theorem leq_i {k : IntKind} {ek : EK} {a c : Int} : binPV .leq ek (.int k a) (.int k c) = some (.bool (decide (a ≤ c))) := by simp [binPV, binI]
theorem gtr_i {k : IntKind} {ek : EK} {a c : Int} : binPV .gtr ek (.int k a) (.int k c) = some (.bool (decide (c < a))) := by simp [binPV, binI]
theorem geq_i {k : IntKind} {ek : EK} {a c : Int} : binPV .geq ek (.int k a) (.int k c) = some (.bool (decide (c ≤ a))) := by simp [binPV, binI]
theorem eql_i {k : IntKind} {ek : EK} {a c : Int} : binPV .eql ek (.int k a) (.int k c) = some (.bool (decide (a = c))) := by
  simp [binPV, binI]; by_cases h : a = c <;> simp [h]
theorem neq_i {k : IntKind} {ek : EK} {a c : Int} : binPV .neq ek (.int k a) (.int k c) = some (.bool (decide (a ≠ c))) := by
  simp [binPV, binI]; by_cases h : a = c <;> simp [h]
theorem eql_8 {ek : EK} {a c : UInt8} : binPV .eql ek (.b8 a) (.b8 c) = some (.bool (decide (a = c))) := by
  simp [binPV, bin8]; by_cases h : a = c <;> simp [h]
theorem neq_8 {ek : EK} {a c : UInt8} : binPV .neq ek (.b8 a) (.b8 c) = some (.bool (decide (a ≠ c))) := by
  simp [binPV, bin8]; by_cases h : a = c <;> simp [h]
theorem lss_8 {ek : EK} {a c : UInt8} : binPV .lss ek (.b8 a) (.b8 c) = some (.bool (decide (a < c))) := rfl
theorem leq_8 {ek : EK} {a c : UInt8} : binPV .leq ek (.b8 a) (.b8 c) = some (.bool (decide (a ≤ c))) := rfl
theorem gtr_8 {ek : EK} {a c : UInt8} : binPV .gtr ek (.b8 a) (.b8 c) = some (.bool (decide (c < a))) := rfl
theorem geq_8 {ek : EK} {a c : UInt8} : binPV .geq ek (.b8 a) (.b8 c) = some (.bool (decide (c ≤ a))) := rfl
theorem eql_s {ek : EK} {a c : List UInt8} : binPV .eql ek (.str a) (.str c) = some (.bool (decide (a = c))) := by
  simp [binPV, binS]; by_cases h : a = c <;> simp [h]
theorem neq_s {ek : EK} {a c : List UInt8} : binPV .neq ek (.str a) (.str c) = some (.bool (decide (a ≠ c))) := by
  simp [binPV, binS]; by_cases h : a = c <;> simp [h]
theorem not_b {b : Bool} : unPV .not (.bool b) = some (.bool !b) := rfl
theorem eql_b {a b : Bool} : binPV .eql .bool (.bool a) (.bool b) = some (.bool (decide (a = b))) := by cases a <;> cases b <;> rfl
theorem neq_b {a b : Bool} : binPV .neq .bool (.bool a) (.bool b) = some (.bool (decide (a ≠ b))) := by cases a <;> cases b <;> rfl

/-! ### Slices of bytes -/
theorem len_by {x : PV} {l : List UInt8} (h : x.by = some l) : lenPV false x = some (.int .i64 (l.length : Int)) := by
  rcases by_cases' h with ⟨rfl, rfl⟩ | ⟨t, rfl⟩ <;> rfl
theorem b2s_by {x : PV} {l : List UInt8} {mu : Bool} (h : x.by = some l) : b2s mu st x = some l := by
  rcases by_cases' h with ⟨rfl, rfl⟩ | ⟨t, rfl⟩ <;> rfl
theorem src8_by {x : PV} {l : List UInt8} (h : x.by = some l) : src8 st x = some l := by
  rcases by_cases' h with ⟨rfl, rfl⟩ | ⟨t, rfl⟩ <;> rfl
theorem by_bys {t : Tok} {l : List UInt8} : (PV.bys t l).by = some l := rfl
theorem by_nils : PV.nils.by = some [] := rfl

/-- x[lo:] -/
def PV.dropB (x : PV) (i : Nat) : PV := match x with
  | .bys t l => .bys t (l.drop i)
  | x => x
/-- x[:hi] -/
def PV.takeB (x : PV) (i : Nat) : PV := match x with
  | .bys t l => .bys .no (l.take i)
  | x => x
/-- x[lo:hi] -/
def PV.midB (x : PV) (i j : Nat) : PV := match x with
  | .bys t l => .bys .no ((l.take j).drop i)
  | x => x
theorem dropB_by {x : PV} {l : List UInt8} {i : Nat} (h : x.by = some l) : (x.dropB i).by = some (l.drop i) := by
  rcases by_cases' h with ⟨rfl, rfl⟩ | ⟨t, rfl⟩ <;> simp [PV.dropB, PV.by]
theorem takeB_by {x : PV} {l : List UInt8} {i : Nat} (h : x.by = some l) : (x.takeB i).by = some (l.take i) := by
  rcases by_cases' h with ⟨rfl, rfl⟩ | ⟨t, rfl⟩ <;> simp [PV.takeB, PV.by]
theorem midB_by {x : PV} {l : List UInt8} {i j : Nat} (h : x.by = some l) : (x.midB i j).by = some ((l.take j).drop i) := by
  rcases by_cases' h with ⟨rfl, rfl⟩ | ⟨t, rfl⟩ <;> simp [PV.midB, PV.by]

theorem slc_lo {x : PV} {l : List UInt8} {k : IntKind} {c : Int} (h : x.by = some l) (h1 : 0 ≤ c) (h2 : c.toNat ≤ l.length) : slcPV 1 x (some (.int k c)) none none = some (x.dropB c.toNat) := by
  rcases by_cases' h with ⟨rfl, rfl⟩ | ⟨t, rfl⟩
  · simp at h2
    simp [slcPV, bnd, intOf, PV.dropB, show c = 0 by omega]
  · simp [slcPV, bnd, intOf, PV.dropB, h1, sufTok, show c ≤ l.length by omega]
theorem slc_hi {x : PV} {l : List UInt8} {k : IntKind} {c : Int} (h : x.by = some l) (h1 : 0 ≤ c) (h2 : c.toNat ≤ l.length) : slcPV 1 x none (some (.int k c)) none = some (x.takeB c.toNat) := by
  rcases by_cases' h with ⟨rfl, rfl⟩ | ⟨t, rfl⟩
  · simp at h2
    simp [slcPV, bnd, intOf, PV.takeB, show c = 0 by omega]
  · simp [slcPV, bnd, intOf, PV.takeB, h1, sufTok, show c ≤ l.length by omega]
theorem slc_lohi {x : PV} {l : List UInt8} {k k' : IntKind} {c d : Int} (h : x.by = some l) (h1 : 0 ≤ c) (h2 : c ≤ d) (h3 : d.toNat ≤ l.length) : slcPV 1 x (some (.int k c)) (some (.int k' d)) none = some (x.midB c.toNat d.toNat) := by
  rcases by_cases' h with ⟨rfl, rfl⟩ | ⟨t, rfl⟩
  · simp at h3
    simp [slcPV, bnd, intOf, PV.midB, show c = 0 by omega, show d = 0 by omega]
  · simp [slcPV, bnd, intOf, PV.midB, h1, sufTok, show d ≤ l.length by omega, show 0 ≤ d by omega, show c ≤ max d 0 by omega]
theorem iaddr_by {x : PV} {l : List UInt8} {k : IntKind} {c : Int} (h : x.by = some l) (h1 : 0 ≤ c) (h2 : c.toNat < l.length) : iaddrPV 1 x (.int k c) = some (.cp [.b8 (l.getD c.toNat 0)]) := by
  rcases by_cases' h with ⟨rfl, rfl⟩ | ⟨t, rfl⟩
  · simp at h2
  · simp [iaddrPV, intOf, h1, show c < l.length by omega]
theorem load_cp1 {v : PV} {sz : Nat} : loadPV st false sz (.cp [v]) = some v := rfl

/-! ### Behind a call -/
theorem leave_pure {v : PV} (h1 : v.inB st.boxes.length = true) (h3 : keepRes st.toks.length st.toks v = (v, [])) :
    leave st { st with low := st.boxes.length } v = (v, st) := by
  simp [leave, h1, h3]
theorem leave_pure' {v : PV} (h1 : v.inB st.boxes.length = true) (h3 : keepRes st.toks.length st.toks v = (v, [])) :
    leave st { boxes := st.boxes, toks := st.toks, loops := st.loops, low := st.boxes.length } v = (v, st) := leave_pure h1 h3
/-- The slice's token is one of the caller's. -/
def PV.tokLt (n : Nat) : PV → Bool
  | .bys t _ => t.lt n
  | .sl _ t _ => t.lt n
  | _ => true
theorem keep_leaf {n : Nat} {toks : List Bool} {acc : List Nat} {x : PV} (h : x.tokLt n = true) : keepLeaf n toks acc x = (x, acc) := by
  cases x <;> simp [keepLeaf, PV.tokLt] at * <;> simp [keepTok_lt h]
theorem takeB_tok {x : PV} {i n : Nat} (h : x.tokLt n = true) : (x.takeB i).tokLt n = true := by
  cases x <;> simp_all [PV.takeB, PV.tokLt, Tok.lt]
theorem dropB_tok {x : PV} {i n : Nat} (h : x.tokLt n = true) : (x.dropB i).tokLt n = true := by
  cases x <;> simp_all [PV.dropB, PV.tokLt, Tok.lt]
theorem midB_tok {x : PV} {i j n : Nat} (h : x.tokLt n = true) : (x.midB i j).tokLt n = true := by
  cases x <;> simp_all [PV.midB, PV.tokLt, Tok.lt]
theorem by_inB {x : PV} {l : List UInt8} {n : Nat} (h : x.by = some l) : x.inB n = true := by
  rcases by_cases' h with ⟨rfl, rfl⟩ | ⟨t, rfl⟩ <;> rfl
theorem by_notTup {x : PV} {l : List UInt8} (h : x.by = some l) : notTup x = true := by
  rcases by_cases' h with ⟨rfl, rfl⟩ | ⟨t, rfl⟩ <;> rfl
theorem by_keepVal {x : PV} {l : List UInt8} {n : Nat} {toks : List Bool} {acc : List Nat} (h : x.by = some l) (ht : x.tokLt n = true) : keepVal n toks acc x = (x, acc) := by
  rcases by_cases' h with ⟨rfl, rfl⟩ | ⟨t, rfl⟩
  · rfl
  · exact keep_leaf ht
/-- A value that a call hands back as it is. -/
structure Kp (st : St) (v : PV) : Prop where
  nt : notTup v = true
  ib : v.inB st.boxes.length = true
  kp : keepVal st.toks.length st.toks [] v = (v, [])
theorem Kp_by {x : PV} {l : List UInt8} (h : x.by = some l) (ht : x.tokLt st.toks.length = true) : Kp st x := ⟨by_notTup h, by_inB h, by_keepVal h ht⟩
theorem Kp_bool {b : Bool} : Kp st (.bool b) := ⟨rfl, rfl, rfl⟩
theorem Kp_int {k : IntKind} {n : Int} : Kp st (.int k n) := ⟨rfl, rfl, rfl⟩
theorem Kp_b8 {b : UInt8} : Kp st (.b8 b) := ⟨rfl, rfl, rfl⟩
theorem Kp_str {s : List UInt8} : Kp st (.str s) := ⟨rfl, rfl, rfl⟩
theorem Kp_nils : Kp st .nils := ⟨rfl, rfl, rfl⟩

theorem end1 {a : Nat} {v : PV} (ha : e a = v) (h : Kp st v) : ∃ rv, resOf e { boxes := st.boxes, toks := st.toks, loops := st.loops, low := st.boxes.length } [.tmp a] = some rv ∧ leave st { boxes := st.boxes, toks := st.toks, loops := st.loops, low := st.boxes.length } rv = (v, st) := by
  refine ⟨v, by simp [resOf, rvAll, rv1, ha, h.nt, packRes], leave_pure h.ib (keep1 h.kp h.nt)⟩
theorem end2 {a b : Nat} {v w : PV} (ha : e a = v) (hb : e b = w) (h : Kp st v) (h2 : Kp st w) : ∃ rv, resOf e { boxes := st.boxes, toks := st.toks, loops := st.loops, low := st.boxes.length } [.tmp a, .tmp b] = some rv ∧ leave st { boxes := st.boxes, toks := st.toks, loops := st.loops, low := st.boxes.length } rv = (.tup [v, w], st) := by
  refine ⟨.tup [v, w], by simp [resOf, rvAll, rv1, ha, hb, h.nt, h2.nt, packRes], leave_pure (by simp [PV.inB, PV.inB.inBAll, h.ib, h2.ib]) (keep2 h.kp h2.kp)⟩
theorem end3 {a b c : Nat} {v w u : PV} (ha : e a = v) (hb : e b = w) (hc : e c = u) (h : Kp st v) (h2 : Kp st w) (h3 : Kp st u) : ∃ rv, resOf e { boxes := st.boxes, toks := st.toks, loops := st.loops, low := st.boxes.length } [.tmp a, .tmp b, .tmp c] = some rv ∧ leave st { boxes := st.boxes, toks := st.toks, loops := st.loops, low := st.boxes.length } rv = (.tup [v, w, u], st) := by
  refine ⟨.tup [v, w, u], by simp [resOf, rvAll, rv1, ha, hb, hc, h.nt, h2.nt, h3.nt, packRes], leave_pure (by simp [PV.inB, PV.inB.inBAll, h.ib, h2.ib, h3.ib]) (keep3 h.kp h2.kp h3.kp)⟩
end Go.Ab
