/-
  Operations on texts; the library's and the document's searches in them.
-/
import Derived.Test.YteblngbleioncaaDoorA3
import Derived.KernelRfl
import Derived.Test.YteblngbleioncaaDoorA2
namespace Go.Ab
set_option linter.unusedVariables false
set_option linter.unusedSimpArgs false
variable {A : AP} {st : St} {e : Env}

theorem len_s {l : List UInt8} : lenPV true (.str l) = some (.int .i64 (l.length : Int)) := rfl
theorem idx_s {l : List UInt8} {k : IntKind} {c : Int} (h1 : 0 ≤ c) (h2 : c.toNat < l.length) : idxSPV (.str l) (.int k c) = some (.b8 (l.getD c.toNat 0)) := by
  simp [idxSPV, intOf, h1, show c < l.length by omega]
theorem slc_s_lo {l : List UInt8} {k : IntKind} {c : Int} (h1 : 0 ≤ c) (h2 : c.toNat ≤ l.length) : slcPV 0 (.str l) (some (.int k c)) none none = some (.str (l.drop c.toNat)) := by
  simp [slcPV, bnd, intOf, h1, show c ≤ l.length by omega]
theorem slc_s_hi {l : List UInt8} {k : IntKind} {c : Int} (h1 : 0 ≤ c) (h2 : c.toNat ≤ l.length) : slcPV 0 (.str l) none (some (.int k c)) none = some (.str (l.take c.toNat)) := by
  simp [slcPV, bnd, intOf, h1, show c ≤ l.length by omega]
theorem slc_s {l : List UInt8} {k k' : IntKind} {c d : Int} (h1 : 0 ≤ c) (h2 : c ≤ d) (h3 : d.toNat ≤ l.length) : slcPV 0 (.str l) (some (.int k c)) (some (.int k' d)) none = some (.str ((l.take d.toNat).drop c.toNat)) := by
  simp [slcPV, bnd, intOf, h1, show d ≤ l.length by omega, show 0 ≤ d by omega, show c ≤ max d 0 by omega]
theorem adds {ek : EK} {a b : List UInt8} (h : a.length + b.length ≤ 9223372036854775807) : binPV .add ek (.str a) (.str b) = some (.str (a ++ b)) := by
  simp [binPV, binS, h]

/-- A text of one byte is a part just if the byte is in the text. -/
theorem index_one {l : List UInt8} {c : UInt8} : 0 ≤ Lib.index l [c] ↔ c ∈ l := by
  induction l with
  | nil => simp [Lib.index]
  | cons d r ih =>
    simp only [Lib.index]
    by_cases h : c = d
    · subst h; simp
    · have h' : ([c] : List UInt8).isPrefixOf (d :: r) = false := by simp [List.isPrefixOf, h]
      have hge := Lib.index_ge r [c]
      rw [h']
      simp only [Bool.false_eq_true, if_false, List.mem_cons, h, false_or]
      rw [← ih]
      split
      · rename_i h2; simp at h2; omega
      · rename_i h2; simp at h2; omega

/-- Is a text a part of another one? -/
def hasB (s t : List UInt8) : Bool := decide (0 ≤ Lib.index s t)
theorem strIndex_spec {a b : List UInt8} (h : a.length < 4294967281) : call prog (.fn 82 []) [.str a, .str b] st = some (.int .i64 (Lib.index a b), st) := by
  rw [call_prim prog_82]; simp [pStrIndex, h]
theorem strIndexByte_spec {a : List UInt8} {c : UInt8} : call prog (.fn 78 []) [.str a, .b8 c] st = some (.int .i64 (Lib.indexByte a c), st) := by
  rw [call_prim prog_78]; simp [pStrIndexByte]

theorem slHasPrefix_spec {a b : List UInt8} : call prog (.fn 79 []) [.str a, .str b] st = some (.bool (decide (b <+: a)), st) := by
  refine call_of_W prog_79 ?_
  unfold F_internal_stringslite_HasPrefix; dsimp only
  by_cases h : b.length ≤ a.length
  · simp (maxSteps := 1000000) (disch := omega) only [len_s, h, slc_s_hi, W_seq, W_region, W_cond, W_block, W_skip, W_label, W_exit, W_goto, W_ret, WO_cons, WO_consG, WO_nil, wantedA_eq, wantB, evOp, ev_tmp, ev_const, ev_fn, WN_some, WN_none, updO_some, updO_none, upd_eq,
 ↓reduceIte, Nat.reduceEqDiff, List.nil_append, List.cons_append, List.append_nil, List.map_cons, List.map_nil, env0_zero, env0_succ, env0_nil, Option.map_some, Option.map_none, seqQ_normal, seqQ_ret, seqQ_exit, seqQ_goto, blockQ_normal, blockQ_ret, blockQ_exit, blockQ_goto, condW_bool, loopQ_ret, loopQ_exit, loopQ_goto, endQ_ret, endQ_normal, keep_mk, keep_st,
 lss_i, leq_i, gtr_i, geq_i, eql_i, neq_i, eql_8, neq_8, lss_8, leq_8, gtr_8, geq_8, eql_s, neq_s, eql_b, neq_b, not_b, by_bys, by_nils, load_cp1, beq_true, beq_false, Bool.not_eq_true', decide_eq_true_eq, decide_eq_false_iff_not, decide_true, decide_false,
 Int.toNat_natCast, Int.ofNat_lt, Int.ofNat_le, Int.natCast_inj, Bool.false_eq_true, Bool.true_eq_false, extPV, List.getElem?_cons_zero, List.getElem?_cons_succ, nilckPV, Int.reduceToNat, Int.reduceLE, true_and, and_true, reduceCtorEq, or_false, false_or, or_true, Option.some.injEq, exists_eq_left', Bool.not_true, Bool.not_false, ne_eq, Int.reduceEq, not_true_eq_false, not_false_eq_true, Int.reduceLT, UInt8.reduceLT, UInt8.reduceLE, UInt8.reduceToNat]
    rw [show decide (b <+: a) = decide (a.take b.length = b) by congr 1; rw [List.prefix_iff_eq_take]; exact propext eq_comm]
    exact end1 rfl Kp_bool
  · simp (maxSteps := 1000000) (disch := omega) only [len_s, h, W_seq, W_region, W_cond, W_block, W_skip, W_label, W_exit, W_goto, W_ret, WO_cons, WO_consG, WO_nil, wantedA_eq, wantB, evOp, ev_tmp, ev_const, ev_fn, WN_some, WN_none, updO_some, updO_none, upd_eq,
 ↓reduceIte, Nat.reduceEqDiff, List.nil_append, List.cons_append, List.append_nil, List.map_cons, List.map_nil, env0_zero, env0_succ, env0_nil, Option.map_some, Option.map_none, seqQ_normal, seqQ_ret, seqQ_exit, seqQ_goto, blockQ_normal, blockQ_ret, blockQ_exit, blockQ_goto, condW_bool, loopQ_ret, loopQ_exit, loopQ_goto, endQ_ret, endQ_normal, keep_mk, keep_st,
 lss_i, leq_i, gtr_i, geq_i, eql_i, neq_i, eql_8, neq_8, lss_8, leq_8, gtr_8, geq_8, eql_s, neq_s, eql_b, neq_b, not_b, by_bys, by_nils, load_cp1, beq_true, beq_false, Bool.not_eq_true', decide_eq_true_eq, decide_eq_false_iff_not, decide_true, decide_false,
 Int.toNat_natCast, Int.ofNat_lt, Int.ofNat_le, Int.natCast_inj, Bool.false_eq_true, Bool.true_eq_false, extPV, List.getElem?_cons_zero, List.getElem?_cons_succ, nilckPV, Int.reduceToNat, Int.reduceLE, true_and, and_true, reduceCtorEq, or_false, false_or, or_true, Option.some.injEq, exists_eq_left', Bool.not_true, Bool.not_false, ne_eq, Int.reduceEq, not_true_eq_false, not_false_eq_true, Int.reduceLT, UInt8.reduceLT, UInt8.reduceLE, UInt8.reduceToNat]
    rw [show decide (b <+: a) = false by simp; intro hp; exact h hp.length_le]
    exact end1 rfl Kp_bool
/-- The first place from i on at which b stands in a. -/
theorem index_drop_none {a b : List UInt8} (h : ∀ i, i + b.length ≤ a.length → (a.drop i).take b.length ≠ b) : Lib.index a b = -1 := by
  apply Lib.index_none
  intro j hj
  cases hc : Lib.occAt a b j with
  | false => rfl
  | true =>
    rcases Lib.occAt_room hc with h1 | h1
    · rw [Lib.occAt_iff_take a b j h1] at hc
      exact absurd (by simpa using hc) (h j h1)
    · subst h1
      exact absurd rfl (h 0 (by simp))

theorem Has_spec {a b : List UInt8} (ha : a.length < 4611686018427387904) (hb : b.length < 4611686018427387904) : call prog (.fn 56 []) [.str a, .str b] st = some (.bool (hasB a b), st) := by
  refine call_of_W prog_56 ?_
  unfold F_posthornref04_Has; dsimp only
  simp (maxSteps := 1000000) (disch := omega) only [W_seq, W_region, W_cond, W_block, W_skip, W_label, W_exit, W_goto, W_ret, WO_cons, WO_consG, WO_nil, wantedA_eq, wantB, evOp, ev_tmp, ev_const, ev_fn, WN_some, WN_none, updO_some, updO_none, upd_eq,
 ↓reduceIte, Nat.reduceEqDiff, List.nil_append, List.cons_append, List.append_nil, List.map_cons, List.map_nil, env0_zero, env0_succ, env0_nil, Option.map_some, Option.map_none, seqQ_normal, seqQ_ret, seqQ_exit, seqQ_goto, blockQ_normal, blockQ_ret, blockQ_exit, blockQ_goto, condW_bool, loopQ_ret, loopQ_exit, loopQ_goto, endQ_ret, endQ_normal, keep_mk, keep_st,
 lss_i, leq_i, gtr_i, geq_i, eql_i, neq_i, eql_8, neq_8, lss_8, leq_8, gtr_8, geq_8, eql_s, neq_s, eql_b, neq_b, not_b, by_bys, by_nils, load_cp1, beq_true, beq_false, Bool.not_eq_true', decide_eq_true_eq, decide_eq_false_iff_not, decide_true, decide_false,
 Int.toNat_natCast, Int.ofNat_lt, Int.ofNat_le, Int.natCast_inj, Bool.false_eq_true, Bool.true_eq_false, extPV, List.getElem?_cons_zero, List.getElem?_cons_succ, nilckPV, Int.reduceToNat, Int.reduceLE, true_and, and_true, reduceCtorEq, or_false, false_or, or_true, Option.some.injEq, exists_eq_left', Bool.not_true, Bool.not_false, ne_eq, Int.reduceEq, not_true_eq_false, not_false_eq_true, Int.reduceLT, UInt8.reduceLT, UInt8.reduceLE, UInt8.reduceToNat]
  obtain ⟨I, hI⟩ : ∃ I : Nat → Env → St → Prop, I = fun n e s => ∃ i : Nat, n = a.length + 1 - i ∧ i ≤ a.length + 1 ∧ (∀ j, j < i → (a.drop j).take b.length ≠ b) ∧ s = { boxes := st.boxes, toks := st.toks, loops := st.loops, low := st.boxes.length } ∧ e 0 = .str a ∧ e 1 = .str b ∧ e 5 = .int .i64 (i : Int) := ⟨_, rfl⟩
  refine W_loop I ?_ (n := a.length + 1) (by rw [hI]; exact ⟨0, rfl, by omega, fun j hj => by omega, rfl, rfl, rfl, rfl⟩)
  intro n e s h
  rw [hI] at h
  obtain ⟨i, rfl, hi, hn, rfl, h0, h1, h5⟩ := h
  have hadd : ∀ ek, binPV .add ek (.int .i64 (i : Int)) (.int .i64 (b.length : Int)) = some (.int .i64 ((i + b.length : Nat) : Int)) := fun ek => by
    rw [add_i (by omega) (by omega)]; simp
  by_cases hlt : i + b.length ≤ a.length
  · have hmid : (a.take (i + b.length)).drop i = (a.drop i).take b.length := by rw [List.drop_take]; simp
    by_cases hc : (a.drop i).take b.length = b
    · simp (maxSteps := 1000000) (disch := omega) only [h0, h1, h5, len_s, hadd, hlt, slc_s, hmid, eq_true hc, W_seq, W_region, W_cond, W_block, W_skip, W_label, W_exit, W_goto, W_ret, WO_cons, WO_consG, WO_nil, wantedA_eq, wantB, evOp, ev_tmp, ev_const, ev_fn, WN_some, WN_none, updO_some, updO_none, upd_eq,
 ↓reduceIte, Nat.reduceEqDiff, List.nil_append, List.cons_append, List.append_nil, List.map_cons, List.map_nil, env0_zero, env0_succ, env0_nil, Option.map_some, Option.map_none, seqQ_normal, seqQ_ret, seqQ_exit, seqQ_goto, blockQ_normal, blockQ_ret, blockQ_exit, blockQ_goto, condW_bool, loopQ_ret, loopQ_exit, loopQ_goto, endQ_ret, endQ_normal, keep_mk, keep_st,
 lss_i, leq_i, gtr_i, geq_i, eql_i, neq_i, eql_8, neq_8, lss_8, leq_8, gtr_8, geq_8, eql_s, neq_s, eql_b, neq_b, not_b, by_bys, by_nils, load_cp1, beq_true, beq_false, Bool.not_eq_true', decide_eq_true_eq, decide_eq_false_iff_not, decide_true, decide_false,
 Int.toNat_natCast, Int.ofNat_lt, Int.ofNat_le, Int.natCast_inj, Bool.false_eq_true, Bool.true_eq_false, extPV, List.getElem?_cons_zero, List.getElem?_cons_succ, nilckPV, Int.reduceToNat, Int.reduceLE, true_and, and_true, reduceCtorEq, or_false, false_or, or_true, Option.some.injEq, exists_eq_left', Bool.not_true, Bool.not_false, ne_eq, Int.reduceEq, not_true_eq_false, not_false_eq_true, Int.reduceLT, UInt8.reduceLT, UInt8.reduceLE, UInt8.reduceToNat]
      have hocc : Lib.occAt a b i = true := by rw [Lib.occAt_iff_take a b i hlt]; simpa using hc
      have hfirst : Lib.index a b = i := by
        refine Lib.index_first (by omega) hocc (fun j hj => ?_)
        cases ho : Lib.occAt a b j with
        | false => rfl
        | true => rw [Lib.occAt_iff_take a b j (by omega)] at ho; exact absurd (by simpa using ho) (hn j hj)
      rw [show hasB a b = true by unfold hasB; rw [hfirst]; simp]
      exact end1 rfl Kp_bool
    · simp (maxSteps := 1000000) (disch := omega) only [h0, h1, h5, len_s, hadd, hlt, slc_s, hmid, hc, add_n, W_seq, W_region, W_cond, W_block, W_skip, W_label, W_exit, W_goto, W_ret, WO_cons, WO_consG, WO_nil, wantedA_eq, wantB, evOp, ev_tmp, ev_const, ev_fn, WN_some, WN_none, updO_some, updO_none, upd_eq,
 ↓reduceIte, Nat.reduceEqDiff, List.nil_append, List.cons_append, List.append_nil, List.map_cons, List.map_nil, env0_zero, env0_succ, env0_nil, Option.map_some, Option.map_none, seqQ_normal, seqQ_ret, seqQ_exit, seqQ_goto, blockQ_normal, blockQ_ret, blockQ_exit, blockQ_goto, condW_bool, loopQ_ret, loopQ_exit, loopQ_goto, endQ_ret, endQ_normal, keep_mk, keep_st,
 lss_i, leq_i, gtr_i, geq_i, eql_i, neq_i, eql_8, neq_8, lss_8, leq_8, gtr_8, geq_8, eql_s, neq_s, eql_b, neq_b, not_b, by_bys, by_nils, load_cp1, beq_true, beq_false, Bool.not_eq_true', decide_eq_true_eq, decide_eq_false_iff_not, decide_true, decide_false,
 Int.toNat_natCast, Int.ofNat_lt, Int.ofNat_le, Int.natCast_inj, Bool.false_eq_true, Bool.true_eq_false, extPV, List.getElem?_cons_zero, List.getElem?_cons_succ, nilckPV, Int.reduceToNat, Int.reduceLE, true_and, and_true, reduceCtorEq, or_false, false_or, or_true, Option.some.injEq, exists_eq_left', Bool.not_true, Bool.not_false, ne_eq, Int.reduceEq, not_true_eq_false, not_false_eq_true, Int.reduceLT, UInt8.reduceLT, UInt8.reduceLE, UInt8.reduceToNat]
      refine loopQ_intro (m := a.length + 1 - (i + 1)) (by omega) ?_
      rw [hI]
      refine ⟨i + 1, rfl, by omega, fun j hj => ?_, rfl, h0, h1, rfl⟩
      by_cases hji : j = i
      · subst hji; exact hc
      · exact hn j (by omega)
  · simp (maxSteps := 1000000) (disch := omega) only [h0, h1, h5, len_s, hadd, hlt, W_seq, W_region, W_cond, W_block, W_skip, W_label, W_exit, W_goto, W_ret, WO_cons, WO_consG, WO_nil, wantedA_eq, wantB, evOp, ev_tmp, ev_const, ev_fn, WN_some, WN_none, updO_some, updO_none, upd_eq,
 ↓reduceIte, Nat.reduceEqDiff, List.nil_append, List.cons_append, List.append_nil, List.map_cons, List.map_nil, env0_zero, env0_succ, env0_nil, Option.map_some, Option.map_none, seqQ_normal, seqQ_ret, seqQ_exit, seqQ_goto, blockQ_normal, blockQ_ret, blockQ_exit, blockQ_goto, condW_bool, loopQ_ret, loopQ_exit, loopQ_goto, endQ_ret, endQ_normal, keep_mk, keep_st,
 lss_i, leq_i, gtr_i, geq_i, eql_i, neq_i, eql_8, neq_8, lss_8, leq_8, gtr_8, geq_8, eql_s, neq_s, eql_b, neq_b, not_b, by_bys, by_nils, load_cp1, beq_true, beq_false, Bool.not_eq_true', decide_eq_true_eq, decide_eq_false_iff_not, decide_true, decide_false,
 Int.toNat_natCast, Int.ofNat_lt, Int.ofNat_le, Int.natCast_inj, Bool.false_eq_true, Bool.true_eq_false, extPV, List.getElem?_cons_zero, List.getElem?_cons_succ, nilckPV, Int.reduceToNat, Int.reduceLE, true_and, and_true, reduceCtorEq, or_false, false_or, or_true, Option.some.injEq, exists_eq_left', Bool.not_true, Bool.not_false, ne_eq, Int.reduceEq, not_true_eq_false, not_false_eq_true, Int.reduceLT, UInt8.reduceLT, UInt8.reduceLE, UInt8.reduceToNat]
    rw [show hasB a b = false by
      unfold hasB; rw [index_drop_none (fun j hj => hn j (by omega))]; rfl]
    exact end1 rfl Kp_bool
end Go.Ab

/-
  Names in small letters; fields of a name; how big a header is.
-/
namespace Go.Ab
set_option linter.unusedVariables false
set_option linter.unusedSimpArgs false
variable {st : St} {e : Env}

/-! ### Bytes in a box of one's own -/
end Go.Ab

/-
  Fields of a name; how big a header is.
-/
namespace Go.Ab
set_option linter.unusedVariables false
set_option linter.unusedSimpArgs false
variable {st s : St} {e : Env}

abbrev Fld := List UInt8 × List UInt8
def fV (f : Fld) : PV := .agg [.str f.1, .str f.2]
/-! ### A field in a box -/
end Go.Ab

/-
  Names and values of fields; texts without blanks at their ends.
-/
namespace Go.Ab
set_option linter.unusedVariables false
set_option linter.unusedSimpArgs false
variable {st s : St} {e : Env}

theorem all_getD {p : UInt8 → Bool} {l : List UInt8} (h : ∀ j, j < l.length → p (l.getD j 0) = true) : l.all p = true := by
  rw [List.all_eq_true]
  intro c hc
  obtain ⟨i, hi, rfl⟩ := List.mem_iff_getElem.1 hc
  have := h i hi
  simpa [List.getD, hi] using this
theorem all_bad {p : UInt8 → Bool} {l : List UInt8} {j : Nat} (hj : j < l.length) (h : p (l.getD j 0) = false) : l.all p = false := by
  rw [List.all_eq_false]
  refine ⟨l.getD j 0, ?_, by rw [h]; simp⟩
  simp [List.getD, hj]

/-! ### Blanks at the ends -/
end Go.Ab

/-
  Texts without blanks at their ends; values of fields.
-/
namespace Go.Ab
set_option linter.unusedVariables false
set_option linter.unusedSimpArgs false
variable {st s : St} {e : Env}

end Go.Ab

/-
  The document's trimming; values; small letters; fields of a name, by the document.
-/
namespace Go.Ab
set_option linter.unusedVariables false
set_option linter.unusedSimpArgs false
variable {st s : St} {e : Env}

end Go.Ab

/-
  Values of fields; small letters and fields of a name, by the document.
-/
namespace Go.Ab
set_option linter.unusedVariables false
set_option linter.unusedSimpArgs false
variable {st s : St} {e : Env}

theorem Grew.kept (h : Grew st s) : Kept st s := ⟨by rw [h.bx]; simp, h.lp, by rw [h.lw]; exact Nat.le_refl _, h.tk⟩
end Go.Ab

/-
  Addresses: plain.
-/
namespace Go.Ab
set_option linter.unusedVariables false
set_option linter.unusedSimpArgs false

abbrev Bs := List UInt8
/-- What holds of all bytes, looked at one by one. -/
theorem all8 {p : UInt8 → Bool} (h : (List.range 256).all (fun n => p (UInt8.ofNat n)) = true) (c : UInt8) : p c = true := by
  have := List.all_eq_true.1 h c.toNat (List.mem_range.2 c.toNat_lt)
  simpa using this

def alnC (c : UInt8) : Bool := (decide (97 ≤ c) && decide (c ≤ 122)) || (decide (65 ≤ c) && decide (c ≤ 90)) || (decide (48 ≤ c) && decide (c ≤ 57))
def signs : Bs := [33, 35, 36, 37, 38, 39, 42, 43, 45, 47, 61, 63, 94, 95, 123, 124, 125, 126, 96]
def atC (c : UInt8) : Bool := alnC c || signs.contains c
def atomB (l : Bs) : Bool := l.all atC && !l.isEmpty
def labC (c : UInt8) : Bool := alnC c || decide (c = 45)
def labB (l : Bs) : Bool := l.all labC && !l.isEmpty && decide (l.length ≤ 63) && !decide (l.getD 0 0 = 45) && !decide (l.getD (l.length - 1) 0 = 45)
def prC (c : UInt8) : Bool := !decide (c < 32) && !decide (126 < c)
def nmA (l : Bs) : Bool := l.all prC && decide (l.length ≤ 128)
def partsB (sep : UInt8) (p : Bs → Bool) (l : Bs) : Bool := (splitOn sep [] l).all p

/-- Name, local part, domain. -/
abbrev Adr := Bs × Bs × Bs
def aV (a : Adr) : PV := .agg [.str a.1, .str a.2.1, .str a.2.2]
def rightA (a : Adr) : Bool := decide (a.2.1.length ≤ 64) && partsB 46 atomB a.2.1 && decide (a.2.2.length ≤ 253) && partsB 46 labB a.2.2 && nmA a.1
def noA : Adr := ([], [], [])
def cutA (s : Bs) : Adr := if 0 ≤ Lib.index s [64] then ([], s.take (Lib.index s [64]).toNat, s.drop ((Lib.index s [64]).toNat + 1)) else ([], s, [])
def plainA (s : Bs) : Adr × Int := if rightA (cutA s) = true then (cutA s, 0) else (noA, 60)
/-! ### Parts -/
theorem split_chars {sep : UInt8} {q : UInt8 → Prop} : ∀ (l acc : Bs), (∀ x ∈ splitOn sep acc l, ∀ c ∈ x, q c) → (∀ c ∈ acc, q c) ∧ ∀ c ∈ l, q c ∨ c = sep := by
  intro l
  induction l with
  | nil => intro acc h; exact ⟨fun c hc => h acc (by simp [splitOn]) c hc, fun c hc => (by cases hc)⟩
  | cons d r ih =>
    intro acc h
    simp only [splitOn] at h
    by_cases hd : d = sep
    · rw [if_pos hd] at h
      have h2 := ih [] (fun x hx => h x (by simp [hx]))
      refine ⟨fun c hc => h acc (by simp) c hc, fun c hc => ?_⟩
      rcases List.mem_cons.1 hc with rfl | hc
      · exact .inr hd
      · exact h2.2 c hc
    · rw [if_neg hd] at h
      have h2 := ih (acc ++ [d]) h
      refine ⟨fun c hc => h2.1 c (by simp [hc]), fun c hc => ?_⟩
      rcases List.mem_cons.1 hc with rfl | hc
      · exact .inl (h2.1 c (by simp))
      · exact h2.2 c hc
theorem lab_ne {l : Bs} (h : labB l = true) : l ≠ [] ∧ ∀ c ∈ l, labC c = true := by
  simp only [labB, Bool.and_eq_true, List.all_eq_true, Bool.not_eq_true', List.isEmpty_eq_false_iff] at h
  exact ⟨h.1.1.1.2, h.1.1.1.1⟩
theorem parts_chars {sep : UInt8} {p : Bs → Bool} {q : UInt8 → Prop} {l : Bs} (hp : ∀ x, p x = true → ∀ c ∈ x, q c) (h : partsB sep p l = true) : ∀ c ∈ l, q c ∨ c = sep :=
  (split_chars l [] (fun x hx => hp x (List.all_eq_true.1 h x hx))).2
/-! ### Small letters -/
/-! ### Signs that stand in no address -/
theorem index_chr {k : UInt8} : ∀ (n r : Bs), (∀ c ∈ n, c ≠ k) → Lib.index (n ++ k :: r) [k] = n.length := by
  intro n
  induction n with
  | nil => intro r _; simp [Lib.index, List.isPrefixOf]
  | cons c n ih =>
    intro r h
    have hc : c ≠ k := h c (by simp)
    have := ih r (fun d hd => h d (by simp [hd]))
    rw [List.cons_append, Lib.index]
    have hp : ([k] : Bs).isPrefixOf (c :: (n ++ k :: r)) = false := by
      simp [List.isPrefixOf]; exact fun h => hc h.symm
    rw [hp, this]
    simp <;> omega
/-- The signs of an address's local part, and of its domain. -/
def locC (c : UInt8) : Prop := atC c = true ∨ c = 46
def domC (c : UInt8) : Prop := labC c = true ∨ c = 46
structure RightA (a : Adr) : Prop where
  lc : ∀ c ∈ a.2.1, locC c
  ln : a.2.1 ≠ []
  dc : ∀ c ∈ a.2.2, domC c
  dn : a.2.2 ≠ []
  nl : a.1.length ≤ 128
  ll : a.2.1.length ≤ 64
  dl : a.2.2.length ≤ 253
theorem chr_split (k : UInt8) : ∀ s : Bs, (k ∉ s ∧ Lib.index s [k] = -1) ∨ ∃ n r, s = n ++ k :: r ∧ ∀ c ∈ n, c ≠ k := by
  intro s
  by_cases h : k ∈ s
  · right
    induction s with
    | nil => cases h
    | cons c s ih =>
      by_cases hc : c = k
      · exact ⟨[], s, by simp [hc], fun c hc => (by cases hc)⟩
      · rcases List.mem_cons.1 h with h | h
        · exact absurd h.symm hc
        · obtain ⟨n, r, e1, e2⟩ := ih h
          refine ⟨c :: n, r, by simp [e1], fun d hd => ?_⟩
          rcases List.mem_cons.1 hd with rfl | hd
          · exact hc
          · exact e2 d hd
  · left
    refine ⟨h, ?_⟩
    have h1 := Lib.index_ge s [k]
    have h2 := index_one (l := s) (c := k)
    have h3 : ¬ 0 ≤ Lib.index s [k] := fun h0 => h (h2.1 h0)
    omega
end Go.Ab

/-
  Addresses are read as they were written: plain.
-/
namespace Go.Ab
set_option linter.unusedVariables false
set_option linter.unusedSimpArgs false

/-! ### Blanks at the ends -/
/-! ### Names between quotes -/
/-! ### A text of an address -/
/-! ### Lists -/
end Go.Ab

/-
  Ids: plain.
-/
namespace Go.Ab
set_option linter.unusedVariables false
set_option linter.unusedSimpArgs false

/-- A digit's sign. -/
def sgC (d : Nat) : UInt8 := if d < 10 then UInt8.ofNat (48 + d) else UInt8.ofNat (87 + d)
/-- A number's signs. -/
def sg32 (n : Nat) : Bs := if h : n < 32 then [sgC n] else sg32 (n / 32) ++ [sgC (n % 32)]
termination_by n
decreasing_by omega

theorem sg_lt {n : Nat} (h : n < 32) : sg32 n = [sgC n] := by rw [sg32, dif_pos h]
theorem sg_ge {n : Nat} (h : ¬ n < 32) : sg32 n = sg32 (n / 32) ++ [sgC (n % 32)] := by rw [sg32, dif_neg h]

theorem sg_len (k : Nat) : ∀ n, n < 32 ^ (k + 1) → (sg32 n).length ≤ k + 1 := by
  induction k with
  | zero => intro n h; rw [sg_lt (by simpa using h)]; simp
  | succ k ih =>
    intro n h
    by_cases h1 : n < 32
    · rw [sg_lt h1]; simp
    · rw [sg_ge h1]
      have := ih (n / 32) (by rw [Nat.div_lt_iff_lt_mul (by omega)]; rw [Nat.pow_succ] at h; exact h)
      simp; omega

theorem split_none {sep : UInt8} : ∀ (l acc : Bs), (∀ c ∈ l, c ≠ sep) → splitOn sep acc l = [acc ++ l]
  | [], acc, _ => by simp [splitOn]
  | c :: r, acc, h => by
    rw [splitOn, if_neg (h c (by simp)), split_none r _ fun x hx => h x (by simp [hx])]; simp
theorem split_at {sep : UInt8} (r : Bs) : ∀ (l acc : Bs), (∀ c ∈ l, c ≠ sep) → splitOn sep acc (l ++ sep :: r) = (acc ++ l) :: splitOn sep [] r
  | [], acc, _ => by simp [splitOn]
  | c :: l, acc, h => by
    rw [List.cons_append, splitOn, if_neg (h c (by simp)), split_at r l _ fun x hx => h x (by simp [hx])]; simp

/-- An id's local part. -/
def locT (t n : Nat) : Bs := sg32 t ++ 46 :: sg32 n
def idT (t n : Nat) (d : Bs) : Bs := 60 :: (locT t n ++ 64 :: d) ++ [62]

/-- Ids are read. -/
def idsGo : Nat → Bs → List Bs → List Bs × Int
  | 0, _, acc => if 64 < acc.length then ([], 2) else (acc, 0)
  | _ + 1, [], acc => if 64 < acc.length then ([], 2) else (acc, 0)
  | n + 1, c :: r, acc =>
    if c = 32 ∨ c = 9 then idsGo n r acc
    else if 0 ≤ Lib.index (c :: r) [62] ∧ c = 60 ∧ (plainA (((c :: r).take (Lib.index (c :: r) [62]).toNat).drop 1)).2 = 0 then
      idsGo n ((c :: r).drop ((Lib.index (c :: r) [62]).toNat + 1)) (acc ++ [(c :: r).take (Lib.index (c :: r) [62]).toNat ++ [62]])
    else ([], 3)
def idsOf (s : Bs) : List Bs × Int := idsGo (s.length + 1) s []

theorem ids_blank {n : Nat} {c : UInt8} {r : Bs} {acc : List Bs} (h : c = 32 ∨ c = 9) : idsGo (n + 1) (c :: r) acc = idsGo n r acc := by
  rw [idsGo, if_pos h]

end Go.Ab

/-
  strings.Cut.
-/
namespace Go.Ab
set_option linter.unusedVariables false
set_option linter.unusedSimpArgs false
variable {st : St} {e : Env}

theorem faP {n k b : Nat} : faddrPV n (.ptr b k) = some (.ptr b (k + n)) := rfl
theorem index_room' : ∀ (a b : List UInt8), 0 ≤ Lib.index a b → Lib.index a b + b.length ≤ a.length := by
  intro a b
  induction a with
  | nil =>
    intro h
    cases b with
    | nil => simp [Lib.index]
    | cons c r => simp [Lib.index] at h
  | cons c r ih =>
    intro h
    by_cases hp : b.isPrefixOf (c :: r) = true
    · have := (List.isPrefixOf_iff_prefix.1 hp).length_le
      rw [Lib.index, if_pos hp]; omega
    · have hp2 : b.isPrefixOf (c :: r) = false := Bool.eq_false_iff.2 hp
      rw [Lib.index, hp2] at h ⊢
      by_cases hq : (Lib.index r b == -1) = true
      · rw [hq] at h; simp at h
      · have hq2 : (Lib.index r b == -1) = false := by simpa using hq
        rw [hq2] at h ⊢
        simp only [Bool.false_eq_true, if_false] at h ⊢
        have hge := Lib.index_ge r b
        have hne : Lib.index r b ≠ -1 := by simpa using hq2
        have := ih (by omega)
        simp only [List.length_cons]; omega
/-- strings.Cut. -/
def cutAt (a b : List UInt8) : PV := if 0 ≤ Lib.index a b then .tup [.str (a.take (Lib.index a b).toNat), .str (a.drop ((Lib.index a b).toNat + b.length)), .bool true] else .tup [.str a, .str [], .bool false]
theorem sCut_spec {a b : List UInt8} (h : a.length < 4294967281) (hb : b.length < 4294967281) : call prog (.fn 135 []) [.str a, .str b] st = some (cutAt a b, st) := by
  refine call_of_W prog_135 ?_
  unfold F_internal_stringslite_Cut; dsimp only
  have hroom := index_room' a b
  by_cases h0 : 0 ≤ Lib.index a b
  · have hr := hroom h0
    obtain ⟨k, hk⟩ : ∃ k : Nat, Lib.index a b = (k : Int) := ⟨(Lib.index a b).toNat, by omega⟩
    rw [hk] at hr
    have hadd : ∀ ek, binPV .add ek (.int .i64 (k : Int)) (.int .i64 (b.length : Int)) = some (.int .i64 ((k + b.length : Nat) : Int)) := fun ek => by
      rw [add_i (by omega) (by omega)]; simp
    have e1 : (0 : Int) ≤ (k : Int) := by omega
    simp (maxSteps := 1000000) (disch := omega) only [strIndex_spec h, hk, e1, len_s, hadd, slc_s_lo, slc_s_hi, W_seq, W_region, W_cond, W_block, W_skip, W_label, W_exit, W_goto, W_ret, WO_cons, WO_consG, WO_nil, wantedA_eq, wantB, evOp, ev_tmp, ev_const, ev_fn, WN_some, WN_none, updO_some, updO_none, upd_eq,
 ↓reduceIte, Nat.reduceEqDiff, List.nil_append, List.cons_append, List.append_nil, List.map_cons, List.map_nil, env0_zero, env0_succ, env0_nil, Option.map_some, Option.map_none, seqQ_normal, seqQ_ret, seqQ_exit, seqQ_goto, blockQ_normal, blockQ_ret, blockQ_exit, blockQ_goto, condW_bool, loopQ_ret, loopQ_exit, loopQ_goto, endQ_ret, endQ_normal, keep_mk, keep_st,
 lss_i, leq_i, gtr_i, geq_i, eql_i, neq_i, eql_8, neq_8, lss_8, leq_8, gtr_8, geq_8, eql_s, neq_s, eql_b, neq_b, not_b, by_bys, by_nils, load_cp1, beq_true, beq_false, Bool.not_eq_true', decide_eq_true_eq, decide_eq_false_iff_not, decide_true, decide_false,
 Int.toNat_natCast, Int.ofNat_lt, Int.ofNat_le, Int.natCast_inj, Bool.false_eq_true, Bool.true_eq_false, extPV, List.getElem?_cons_zero, List.getElem?_cons_succ, nilckPV, Int.reduceToNat, Int.reduceLE, true_and, and_true, reduceCtorEq, or_false, false_or, or_true, Option.some.injEq, exists_eq_left', Bool.not_true, Bool.not_false, ne_eq, Int.reduceEq, not_true_eq_false, not_false_eq_true, Int.reduceLT, UInt8.reduceLT, UInt8.reduceLE, UInt8.reduceToNat]
    rw [show cutAt a b = .tup [.str (a.take k), .str (a.drop (k + b.length)), .bool true] by simp [cutAt, hk]]
    exact end3 rfl rfl rfl Kp_str Kp_str Kp_bool
  · simp (maxSteps := 1000000) (disch := omega) only [strIndex_spec h, h0, W_seq, W_region, W_cond, W_block, W_skip, W_label, W_exit, W_goto, W_ret, WO_cons, WO_consG, WO_nil, wantedA_eq, wantB, evOp, ev_tmp, ev_const, ev_fn, WN_some, WN_none, updO_some, updO_none, upd_eq,
 ↓reduceIte, Nat.reduceEqDiff, List.nil_append, List.cons_append, List.append_nil, List.map_cons, List.map_nil, env0_zero, env0_succ, env0_nil, Option.map_some, Option.map_none, seqQ_normal, seqQ_ret, seqQ_exit, seqQ_goto, blockQ_normal, blockQ_ret, blockQ_exit, blockQ_goto, condW_bool, loopQ_ret, loopQ_exit, loopQ_goto, endQ_ret, endQ_normal, keep_mk, keep_st,
 lss_i, leq_i, gtr_i, geq_i, eql_i, neq_i, eql_8, neq_8, lss_8, leq_8, gtr_8, geq_8, eql_s, neq_s, eql_b, neq_b, not_b, by_bys, by_nils, load_cp1, beq_true, beq_false, Bool.not_eq_true', decide_eq_true_eq, decide_eq_false_iff_not, decide_true, decide_false,
 Int.toNat_natCast, Int.ofNat_lt, Int.ofNat_le, Int.natCast_inj, Bool.false_eq_true, Bool.true_eq_false, extPV, List.getElem?_cons_zero, List.getElem?_cons_succ, nilckPV, Int.reduceToNat, Int.reduceLE, true_and, and_true, reduceCtorEq, or_false, false_or, or_true, Option.some.injEq, exists_eq_left', Bool.not_true, Bool.not_false, ne_eq, Int.reduceEq, not_true_eq_false, not_false_eq_true, Int.reduceLT, UInt8.reduceLT, UInt8.reduceLE, UInt8.reduceToNat]
    rw [show cutAt a b = .tup [.str a, .str [], .bool false] by simp [cutAt, h0]]
    exact end3 rfl rfl rfl Kp_str Kp_str Kp_bool
theorem Cut_spec {a b : List UInt8} (h : a.length < 4294967281) (hb : b.length < 4294967281) : call prog (.fn 128 []) [.str a, .str b] st = some (cutAt a b, st) := by
  refine call_of_W prog_128 ?_
  unfold F_strings_Cut; dsimp only
  by_cases h0 : 0 ≤ Lib.index a b
  · have hc : cutAt a b = .tup [.str (a.take (Lib.index a b).toNat), .str (a.drop ((Lib.index a b).toNat + b.length)), .bool true] := by simp [cutAt, h0]
    simp (maxSteps := 1000000) (disch := omega) only [sCut_spec h hb, hc, W_seq, W_region, W_cond, W_block, W_skip, W_label, W_exit, W_goto, W_ret, WO_cons, WO_consG, WO_nil, wantedA_eq, wantB, evOp, ev_tmp, ev_const, ev_fn, WN_some, WN_none, updO_some, updO_none, upd_eq,
 ↓reduceIte, Nat.reduceEqDiff, List.nil_append, List.cons_append, List.append_nil, List.map_cons, List.map_nil, env0_zero, env0_succ, env0_nil, Option.map_some, Option.map_none, seqQ_normal, seqQ_ret, seqQ_exit, seqQ_goto, blockQ_normal, blockQ_ret, blockQ_exit, blockQ_goto, condW_bool, loopQ_ret, loopQ_exit, loopQ_goto, endQ_ret, endQ_normal, keep_mk, keep_st,
 lss_i, leq_i, gtr_i, geq_i, eql_i, neq_i, eql_8, neq_8, lss_8, leq_8, gtr_8, geq_8, eql_s, neq_s, eql_b, neq_b, not_b, by_bys, by_nils, load_cp1, beq_true, beq_false, Bool.not_eq_true', decide_eq_true_eq, decide_eq_false_iff_not, decide_true, decide_false,
 Int.toNat_natCast, Int.ofNat_lt, Int.ofNat_le, Int.natCast_inj, Bool.false_eq_true, Bool.true_eq_false, extPV, List.getElem?_cons_zero, List.getElem?_cons_succ, nilckPV, Int.reduceToNat, Int.reduceLE, true_and, and_true, reduceCtorEq, or_false, false_or, or_true, Option.some.injEq, exists_eq_left', Bool.not_true, Bool.not_false, ne_eq, Int.reduceEq, not_true_eq_false, not_false_eq_true, Int.reduceLT, UInt8.reduceLT, UInt8.reduceLE, UInt8.reduceToNat]
    exact end3 rfl rfl rfl Kp_str Kp_str Kp_bool
  · have hc : cutAt a b = .tup [.str a, .str [], .bool false] := by simp [cutAt, h0]
    simp (maxSteps := 1000000) (disch := omega) only [sCut_spec h hb, hc, W_seq, W_region, W_cond, W_block, W_skip, W_label, W_exit, W_goto, W_ret, WO_cons, WO_consG, WO_nil, wantedA_eq, wantB, evOp, ev_tmp, ev_const, ev_fn, WN_some, WN_none, updO_some, updO_none, upd_eq,
 ↓reduceIte, Nat.reduceEqDiff, List.nil_append, List.cons_append, List.append_nil, List.map_cons, List.map_nil, env0_zero, env0_succ, env0_nil, Option.map_some, Option.map_none, seqQ_normal, seqQ_ret, seqQ_exit, seqQ_goto, blockQ_normal, blockQ_ret, blockQ_exit, blockQ_goto, condW_bool, loopQ_ret, loopQ_exit, loopQ_goto, endQ_ret, endQ_normal, keep_mk, keep_st,
 lss_i, leq_i, gtr_i, geq_i, eql_i, neq_i, eql_8, neq_8, lss_8, leq_8, gtr_8, geq_8, eql_s, neq_s, eql_b, neq_b, not_b, by_bys, by_nils, load_cp1, beq_true, beq_false, Bool.not_eq_true', decide_eq_true_eq, decide_eq_false_iff_not, decide_true, decide_false,
 Int.toNat_natCast, Int.ofNat_lt, Int.ofNat_le, Int.natCast_inj, Bool.false_eq_true, Bool.true_eq_false, extPV, List.getElem?_cons_zero, List.getElem?_cons_succ, nilckPV, Int.reduceToNat, Int.reduceLE, true_and, and_true, reduceCtorEq, or_false, false_or, or_true, Option.some.injEq, exists_eq_left', Bool.not_true, Bool.not_false, ne_eq, Int.reduceEq, not_true_eq_false, not_false_eq_true, Int.reduceLT, UInt8.reduceLT, UInt8.reduceLE, UInt8.reduceToNat]
    exact end3 rfl rfl rfl Kp_str Kp_str Kp_bool

end Go.Ab

/-
  Rules that part the ways of a run: each way under what it was taken for.
-/
namespace Go.Ab
set_option linter.unusedVariables false
set_option linter.unusedSimpArgs false
variable {A : AP} {st : St} {e : Env}

/-- An operation under a guard whose value is v. -/
def guardW (A : AP) (v : PV) (g : Nat) (b : Bool) (d : Option Nat) (op : AOp) (r : List AOper) (e : Env) (st : St) (Q : Env → St → Prop) : Prop := match v with
  | .bool t => if t = b then WN A (evOp (call A) op e st) d r e Q else WO A r (updO e d .undef) st Q
  | _ => WO A r (updO e d .undef) st Q
/-- .. its value told. -/
def guardT (A : AP) (t : Bool) (b : Bool) (d : Option Nat) (op : AOp) (r : List AOper) (e : Env) (st : St) (Q : Env → St → Prop) : Prop := match t, b with
  | true, true => WN A (evOp (call A) op e st) d r e Q
  | false, false => WN A (evOp (call A) op e st) d r e Q
  | _, _ => WO A r (updO e d .undef) st Q
theorem guardT_tt {d : Option Nat} {op : AOp} {r : List AOper} {Q : Env → St → Prop} : guardT A true true d op r e st Q = WN A (evOp (call A) op e st) d r e Q := rfl
theorem guardT_ff {d : Option Nat} {op : AOp} {r : List AOper} {Q : Env → St → Prop} : guardT A false false d op r e st Q = WN A (evOp (call A) op e st) d r e Q := rfl
theorem guardT_tf {d : Option Nat} {op : AOp} {r : List AOper} {Q : Env → St → Prop} : guardT A true false d op r e st Q = WO A r (updO e d .undef) st Q := rfl
theorem guardT_ft {d : Option Nat} {op : AOp} {r : List AOper} {Q : Env → St → Prop} : guardT A false true d op r e st Q = WO A r (updO e d .undef) st Q := rfl

theorem WO_consG2 {d : Option Nat} {op : AOp} {g : Nat} {b : Bool} {r : List AOper} {Q : Env → St → Prop} : WO A (⟨d, op, some (g, b)⟩ :: r) e st Q = guardW A (e g) g b d op r e st Q := by
  rw [WO_consG, wantedA_eq]
  unfold guardW wantB
  cases e g with
  | bool c => simp
  | _ => simp
theorem upd_self {g : Nat} {v : PV} (h : e g = v) : upd e g v = e := by
  funext t
  simp only [upd]
  split
  · rename_i h1; rw [h1, h]
  · rfl
/-- Both ways. -/
theorem guardW_bool {t : Bool} {g : Nat} {b : Bool} {d : Option Nat} {op : AOp} {r : List AOper} {Q : Env → St → Prop} (h : e g = .bool t) : guardW A (.bool t) g b d op r e st Q =
    ((t = true → guardT A true b d op r (upd e g (.bool true)) st Q) ∧ (t = false → guardT A false b d op r (upd e g (.bool false)) st Q)) := by
  cases t with
  | true =>
    rw [upd_self h]
    cases b <;> simp [guardW, guardT]
  | false =>
    rw [upd_self h]
    cases b <;> simp [guardW, guardT]
/-- The same, the guard's temporary looked up again (an equality that is met by reckoning). -/
def guardV (A : AP) (v : PV) (g : Nat) (b : Bool) (d : Option Nat) (op : AOp) (r : List AOper) (e : Env) (st : St) (Q : Env → St → Prop) : Prop := match v with
  | .bool t => (t = true → guardT A true b d op r (upd e g (.bool true)) st Q) ∧ (t = false → guardT A false b d op r (upd e g (.bool false)) st Q)
  | _ => WO A r (updO e d .undef) st Q
theorem WO_consG3 {d : Option Nat} {op : AOp} {g : Nat} {b : Bool} {r : List AOper} {Q : Env → St → Prop} : WO A (⟨d, op, some (g, b)⟩ :: r) e st Q = guardV A (e g) g b d op r e st Q := by
  rw [WO_consG2]
  cases h : e g with
  | bool t => rw [guardW_bool h]; rfl
  | _ => rfl
theorem guardV_bool {t : Bool} {g : Nat} {b : Bool} {d : Option Nat} {op : AOp} {r : List AOper} {Q : Env → St → Prop} : guardV A (.bool t) g b d op r e st Q =
    ((t = true → guardT A true b d op r (upd e g (.bool true)) st Q) ∧ (t = false → guardT A false b d op r (upd e g (.bool false)) st Q)) := rfl
theorem condW_imp {t : Bool} {a b : ACode} {Q : Ex → Env → St → Prop} : condW A (.bool t) a b e st Q = ((t = true → W A a e st Q) ∧ (t = false → W A b e st Q)) := by
  cases t <;> simp [condW]
theorem imp_F {p : Prop} : (False → p) = True := by simp
theorem imp_T {p : Prop} : (True → p) = p := by simp
theorem imp_tt {p : Prop} : ((true = true) → p) = p := by simp
theorem imp_ff {p : Prop} : ((false = false) → p) = p := by simp
theorem imp_tf {p : Prop} : ((true = false) → p) = True := by simp
theorem imp_ft {p : Prop} : ((false = true) → p) = True := by simp
end Go.Ab

/-
  Signs, atoms, labels, names; parts of a text.
-/
namespace Go.Ab
set_option linter.unusedVariables false
set_option linter.unusedSimpArgs false
variable {st s : St} {e : Env}

theorem ret1 {a : Nat} {v : PV} (ha : e a = v) (hnt : notTup v = true) (hk : Kept st s) (hf : Flat v) : ∃ rv, resOf e s [.tmp a] = some rv ∧ leave st s rv = (v, st) :=
  ⟨v, by simp [resOf, rvAll, rv1, ha, hnt, packRes], hk.leave' hf⟩
theorem retB {a : Nat} {b c : Bool} (ha : e a = .bool b) (hk : Kept st s) (hb : b = c) : ∃ rv, resOf e s [.tmp a] = some rv ∧ leave st s rv = (.bool c, st) := by
  subst hb; exact ret1 ha rfl hk ⟨fun _ => rfl, fun _ _ => rfl⟩
theorem retS {a : Nat} {b c : List UInt8} (ha : e a = .str b) (hk : Kept st s) (hb : b = c) : ∃ rv, resOf e s [.tmp a] = some rv ∧ leave st s rv = (.str c, st) := by
  subst hb; exact ret1 ha rfl hk ⟨fun _ => rfl, fun _ _ => rfl⟩
theorem alnum_spec {c : UInt8} : call prog (.fn 134 []) [.b8 c] st = some (.bool (alnC c), st) := by
  refine call_of_W prog_134 ?_
  unfold F_addr_alnum; dsimp only
  have fin : ∀ {E : Env} (b : Bool), E 2 = .bool b → b = alnC c → ∃ rv, resOf E { boxes := st.boxes, toks := st.toks, loops := st.loops, low := st.boxes.length } [.tmp 2] = some rv ∧ leave st { boxes := st.boxes, toks := st.toks, loops := st.loops, low := st.boxes.length } rv = (.bool (alnC c), st) :=
    fun b h hb => retB h Kept.start hb
  simp (maxSteps := 1000000) (disch := omega) only [W_seq, W_region, W_cond, W_block, W_skip, W_label, W_exit, W_goto, W_ret, WO_cons, WO_consG3, guardV_bool, guardT_tt, guardT_ff, guardT_tf, guardT_ft, condW_imp, imp_tt, imp_ff, imp_tf, imp_ft, imp_F, imp_T, implies_true, Decidable.not_not, forall_const, and_self, Bool.not_eq_false', WO_nil, evOp, ev_tmp, ev_const, ev_fn, WN_some, WN_none, updO_some, updO_none, upd_eq,
 ↓reduceIte, Nat.reduceEqDiff, List.nil_append, List.cons_append, List.append_nil, List.map_cons, List.map_nil, env0_zero, env0_succ, env0_nil, Option.map_some, Option.map_none, seqQ_normal, seqQ_ret, seqQ_exit, seqQ_goto, blockQ_normal, blockQ_ret, blockQ_exit, blockQ_goto, loopQ_ret, loopQ_exit, loopQ_goto, endQ_ret, endQ_normal, keep_mk, keep_st,
 lss_i, leq_i, gtr_i, geq_i, eql_i, neq_i, eql_8, neq_8, lss_8, leq_8, gtr_8, geq_8, eql_s, neq_s, eql_b, neq_b, not_b, by_bys, by_nils, load_cp1, beq_true, beq_false, Bool.not_eq_true', decide_eq_true_eq, decide_eq_false_iff_not, decide_true, decide_false,
 Int.toNat_natCast, Int.ofNat_lt, Int.ofNat_le, Int.natCast_inj, Bool.false_eq_true, Bool.true_eq_false, extPV, List.getElem?_cons_zero, List.getElem?_cons_succ, nilckPV, Int.reduceToNat, Int.reduceLE, true_and, and_true, reduceCtorEq, or_false, false_or, or_true, Option.some.injEq, exists_eq_left', Bool.not_true, Bool.not_false, ne_eq, Int.reduceEq, not_true_eq_false, not_false_eq_true, Int.reduceLT, UInt8.reduceLT, UInt8.reduceLE, UInt8.reduceToNat]
  repeat' (first | refine And.intro ?_ ?_ | intro q)
  all_goals first | exact fin true rfl (by simp only [alnC, *, decide_true, decide_false, Bool.and_true, Bool.true_and, Bool.and_false, Bool.false_and, Bool.or_true, Bool.true_or, Bool.or_false, Bool.false_or, Bool.not_true, Bool.not_false, not_true_eq_false, not_false_eq_true]) | exact fin false rfl (by simp only [alnC, *, decide_true, decide_false, Bool.and_true, Bool.true_and, Bool.and_false, Bool.false_and, Bool.or_true, Bool.true_or, Bool.or_false, Bool.false_or, Bool.not_true, Bool.not_false, not_true_eq_false, not_false_eq_true])

theorem signs_neg {c : UInt8} : (Lib.indexByte [33, 35, 36, 37, 38, 39, 42, 43, 45, 47, 61, 63, 94, 95, 123, 124, 125, 126, 96] c < 0) = (signs.contains c = false) := by
  have := all8 (p := fun c => decide (Lib.indexByte [33, 35, 36, 37, 38, 39, 42, 43, 45, 47, 61, 63, 94, 95, 123, 124, 125, 126, 96] c < 0) == !signs.contains c) (by kernel_rfl) c
  simp only [beq_iff_eq] at this
  apply propext
  constructor
  · intro h; simp only [h, decide_true] at this; simpa using this.symm
  · intro h; rw [h] at this; simpa using this

theorem isAtom_spec {l : List UInt8} (hl : l.length ≤ 100000000) : call prog (.fn 125 []) [.str l] st = some (.bool (atomB l), st) := by
  refine call_of_W prog_125 ?_
  unfold F_addr_isAtom; dsimp only
  simp (maxSteps := 1000000) (disch := omega) only [len_s, W_seq, W_region, W_cond, W_block, W_skip, W_label, W_exit, W_goto, W_ret, WO_cons, WO_consG3, guardV_bool, guardT_tt, guardT_ff, guardT_tf, guardT_ft, condW_imp, imp_tt, imp_ff, imp_tf, imp_ft, imp_F, imp_T, implies_true, Decidable.not_not, forall_const, and_self, Bool.not_eq_false', WO_nil, evOp, ev_tmp, ev_const, ev_fn, WN_some, WN_none, updO_some, updO_none, upd_eq,
 ↓reduceIte, Nat.reduceEqDiff, List.nil_append, List.cons_append, List.append_nil, List.map_cons, List.map_nil, env0_zero, env0_succ, env0_nil, Option.map_some, Option.map_none, seqQ_normal, seqQ_ret, seqQ_exit, seqQ_goto, blockQ_normal, blockQ_ret, blockQ_exit, blockQ_goto, loopQ_ret, loopQ_exit, loopQ_goto, endQ_ret, endQ_normal, keep_mk, keep_st,
 lss_i, leq_i, gtr_i, geq_i, eql_i, neq_i, eql_8, neq_8, lss_8, leq_8, gtr_8, geq_8, eql_s, neq_s, eql_b, neq_b, not_b, by_bys, by_nils, load_cp1, beq_true, beq_false, Bool.not_eq_true', decide_eq_true_eq, decide_eq_false_iff_not, decide_true, decide_false,
 Int.toNat_natCast, Int.ofNat_lt, Int.ofNat_le, Int.natCast_inj, Bool.false_eq_true, Bool.true_eq_false, extPV, List.getElem?_cons_zero, List.getElem?_cons_succ, nilckPV, Int.reduceToNat, Int.reduceLE, true_and, and_true, reduceCtorEq, or_false, false_or, or_true, Option.some.injEq, exists_eq_left', Bool.not_true, Bool.not_false, ne_eq, Int.reduceEq, not_true_eq_false, not_false_eq_true, Int.reduceLT, UInt8.reduceLT, UInt8.reduceLE, UInt8.reduceToNat]
  obtain ⟨I, hI⟩ : ∃ I : Nat → Env → St → Prop, I = fun k e s' => ∃ (i : Nat), k = l.length - i ∧ i ≤ l.length ∧ Kept st s' ∧ (∀ j, j < i → atC (l.getD j 0) = true) ∧ e 0 = .str l ∧ e 5 = .int .i64 (l.length : Int) ∧ e 6 = .int .i64 (i : Int) := ⟨_, rfl⟩
  refine W_loop I ?_ (n := l.length) (by
    rw [hI]
    exact ⟨0, rfl, by omega, Kept.start, fun j h => by omega, rfl, rfl, rfl⟩)
  intro k e s' hh
  rw [hI] at hh
  obtain ⟨i, rfl, hi, hk, hall, h0, h5, h6⟩ := hh
  by_cases hlt : i < l.length
  · obtain ⟨c, hc⟩ : ∃ c, c = l.getD i 0 := ⟨_, rfl⟩
    have bad : atC c = false → ∀ E : Env, E 2 = .bool false → ∃ rv, resOf E s' [.tmp 2] = some rv ∧ leave st s' rv = (.bool (atomB l), st) := fun h E k2 =>
      retB k2 hk (by simp only [atomB, all_bad (p := atC) hlt (by rw [← hc]; exact h), Bool.false_and])
    have next : atC c = true → ∀ E : Env, E 0 = .str l → E 5 = .int .i64 (l.length : Int) → E 6 = .int .i64 ((i + 1 : Nat) : Int) → ∃ m, m < l.length - i ∧ I m E s' := fun h E k0 k5 k6 =>
      ⟨l.length - (i + 1), by omega, by
        rw [hI]
        refine ⟨i + 1, rfl, by omega, hk, fun j hj => ?_, k0, k5, k6⟩
        by_cases hji : j = i
        · subst hji; rw [← hc]; exact h
        · exact hall j (by omega)⟩
    simp (maxSteps := 1000000) (disch := omega) only [h0, h5, h6, hlt, idx_s, ← hc, alnum_spec, strIndexByte_spec, signs_neg, add_n, loopQ_normal, W_seq, W_region, W_cond, W_block, W_skip, W_label, W_exit, W_goto, W_ret, WO_cons, WO_consG3, guardV_bool, guardT_tt, guardT_ff, guardT_tf, guardT_ft, condW_imp, imp_tt, imp_ff, imp_tf, imp_ft, imp_F, imp_T, implies_true, Decidable.not_not, forall_const, and_self, Bool.not_eq_false', WO_nil, evOp, ev_tmp, ev_const, ev_fn, WN_some, WN_none, updO_some, updO_none, upd_eq,
 ↓reduceIte, Nat.reduceEqDiff, List.nil_append, List.cons_append, List.append_nil, List.map_cons, List.map_nil, env0_zero, env0_succ, env0_nil, Option.map_some, Option.map_none, seqQ_normal, seqQ_ret, seqQ_exit, seqQ_goto, blockQ_normal, blockQ_ret, blockQ_exit, blockQ_goto, loopQ_ret, loopQ_exit, loopQ_goto, endQ_ret, endQ_normal, keep_mk, keep_st,
 lss_i, leq_i, gtr_i, geq_i, eql_i, neq_i, eql_8, neq_8, lss_8, leq_8, gtr_8, geq_8, eql_s, neq_s, eql_b, neq_b, not_b, by_bys, by_nils, load_cp1, beq_true, beq_false, Bool.not_eq_true', decide_eq_true_eq, decide_eq_false_iff_not, decide_true, decide_false,
 Int.toNat_natCast, Int.ofNat_lt, Int.ofNat_le, Int.natCast_inj, Bool.false_eq_true, Bool.true_eq_false, extPV, List.getElem?_cons_zero, List.getElem?_cons_succ, nilckPV, Int.reduceToNat, Int.reduceLE, true_and, and_true, reduceCtorEq, or_false, false_or, or_true, Option.some.injEq, exists_eq_left', Bool.not_true, Bool.not_false, ne_eq, Int.reduceEq, not_true_eq_false, not_false_eq_true, Int.reduceLT, UInt8.reduceLT, UInt8.reduceLE, UInt8.reduceToNat]
    clear hc hall hI
    repeat' (first | refine And.intro ?_ ?_ | intro q)
    all_goals first | exact bad (by simp only [atC, *, decide_true, decide_false, Bool.and_true, Bool.true_and, Bool.and_false, Bool.false_and, Bool.or_true, Bool.true_or, Bool.or_false, Bool.false_or, Bool.not_true, Bool.not_false, not_true_eq_false, not_false_eq_true]) _ rfl | exact next (by simp only [atC, *, decide_true, decide_false, Bool.and_true, Bool.true_and, Bool.and_false, Bool.false_and, Bool.or_true, Bool.true_or, Bool.or_false, Bool.false_or, Bool.not_true, Bool.not_false, not_true_eq_false, not_false_eq_true]) _ h0 h5 rfl | (exfalso; simp_all; done)
  · obtain rfl : i = l.length := by omega
    simp (maxSteps := 1000000) (disch := omega) only [h0, h5, h6, hlt, W_seq, W_region, W_cond, W_block, W_skip, W_label, W_exit, W_goto, W_ret, WO_cons, WO_consG3, guardV_bool, guardT_tt, guardT_ff, guardT_tf, guardT_ft, condW_imp, imp_tt, imp_ff, imp_tf, imp_ft, imp_F, imp_T, implies_true, Decidable.not_not, forall_const, and_self, Bool.not_eq_false', WO_nil, evOp, ev_tmp, ev_const, ev_fn, WN_some, WN_none, updO_some, updO_none, upd_eq,
 ↓reduceIte, Nat.reduceEqDiff, List.nil_append, List.cons_append, List.append_nil, List.map_cons, List.map_nil, env0_zero, env0_succ, env0_nil, Option.map_some, Option.map_none, seqQ_normal, seqQ_ret, seqQ_exit, seqQ_goto, blockQ_normal, blockQ_ret, blockQ_exit, blockQ_goto, loopQ_ret, loopQ_exit, loopQ_goto, endQ_ret, endQ_normal, keep_mk, keep_st,
 lss_i, leq_i, gtr_i, geq_i, eql_i, neq_i, eql_8, neq_8, lss_8, leq_8, gtr_8, geq_8, eql_s, neq_s, eql_b, neq_b, not_b, by_bys, by_nils, load_cp1, beq_true, beq_false, Bool.not_eq_true', decide_eq_true_eq, decide_eq_false_iff_not, decide_true, decide_false,
 Int.toNat_natCast, Int.ofNat_lt, Int.ofNat_le, Int.natCast_inj, Bool.false_eq_true, Bool.true_eq_false, extPV, List.getElem?_cons_zero, List.getElem?_cons_succ, nilckPV, Int.reduceToNat, Int.reduceLE, true_and, and_true, reduceCtorEq, or_false, false_or, or_true, Option.some.injEq, exists_eq_left', Bool.not_true, Bool.not_false, ne_eq, Int.reduceEq, not_true_eq_false, not_false_eq_true, Int.reduceLT, UInt8.reduceLT, UInt8.reduceLE, UInt8.reduceToNat]
    refine retB rfl hk ?_
    simp only [atomB, all_getD (p := atC) hall, Bool.true_and]
    cases l <;> rfl

theorem isLabel_spec {l : List UInt8} (hl : l.length ≤ 100000000) : call prog (.fn 126 []) [.str l] st = some (.bool (labB l), st) := by
  refine call_of_W prog_126 ?_
  unfold F_addr_isLabel; dsimp only
  simp (maxSteps := 1000000) (disch := omega) only [len_s, W_seq, W_region, W_cond, W_block, W_skip, W_label, W_exit, W_goto, W_ret, WO_cons, WO_consG3, guardV_bool, guardT_tt, guardT_ff, guardT_tf, guardT_ft, condW_imp, imp_tt, imp_ff, imp_tf, imp_ft, imp_F, imp_T, implies_true, Decidable.not_not, forall_const, and_self, Bool.not_eq_false', WO_nil, evOp, ev_tmp, ev_const, ev_fn, WN_some, WN_none, updO_some, updO_none, upd_eq,
 ↓reduceIte, Nat.reduceEqDiff, List.nil_append, List.cons_append, List.append_nil, List.map_cons, List.map_nil, env0_zero, env0_succ, env0_nil, Option.map_some, Option.map_none, seqQ_normal, seqQ_ret, seqQ_exit, seqQ_goto, blockQ_normal, blockQ_ret, blockQ_exit, blockQ_goto, loopQ_ret, loopQ_exit, loopQ_goto, endQ_ret, endQ_normal, keep_mk, keep_st,
 lss_i, leq_i, gtr_i, geq_i, eql_i, neq_i, eql_8, neq_8, lss_8, leq_8, gtr_8, geq_8, eql_s, neq_s, eql_b, neq_b, not_b, by_bys, by_nils, load_cp1, beq_true, beq_false, Bool.not_eq_true', decide_eq_true_eq, decide_eq_false_iff_not, decide_true, decide_false,
 Int.toNat_natCast, Int.ofNat_lt, Int.ofNat_le, Int.natCast_inj, Bool.false_eq_true, Bool.true_eq_false, extPV, List.getElem?_cons_zero, List.getElem?_cons_succ, nilckPV, Int.reduceToNat, Int.reduceLE, true_and, and_true, reduceCtorEq, or_false, false_or, or_true, Option.some.injEq, exists_eq_left', Bool.not_true, Bool.not_false, ne_eq, Int.reduceEq, not_true_eq_false, not_false_eq_true, Int.reduceLT, UInt8.reduceLT, UInt8.reduceLE, UInt8.reduceToNat]
  obtain ⟨I, hI⟩ : ∃ I : Nat → Env → St → Prop, I = fun k e s' => ∃ (i : Nat), k = l.length - i ∧ i ≤ l.length ∧ Kept st s' ∧ (∀ j, j < i → labC (l.getD j 0) = true) ∧ e 0 = .str l ∧ e 5 = .int .i64 (l.length : Int) ∧ e 6 = .int .i64 (i : Int) := ⟨_, rfl⟩
  refine W_loop I ?_ (n := l.length) (by
    rw [hI]
    exact ⟨0, rfl, by omega, Kept.start, fun j h => by omega, rfl, rfl, rfl⟩)
  intro k e s' hh
  rw [hI] at hh
  obtain ⟨i, rfl, hi, hk, hall, h0, h5, h6⟩ := hh
  by_cases hlt : i < l.length
  · obtain ⟨c, hc⟩ : ∃ c, c = l.getD i 0 := ⟨_, rfl⟩
    have bad : labC c = false → ∀ E : Env, E 2 = .bool false → ∃ rv, resOf E s' [.tmp 2] = some rv ∧ leave st s' rv = (.bool (labB l), st) := fun h E k2 =>
      retB k2 hk (by simp only [labB, all_bad (p := labC) hlt (by rw [← hc]; exact h), Bool.false_and])
    have next : labC c = true → ∀ E : Env, E 0 = .str l → E 5 = .int .i64 (l.length : Int) → E 6 = .int .i64 ((i + 1 : Nat) : Int) → ∃ m, m < l.length - i ∧ I m E s' := fun h E k0 k5 k6 =>
      ⟨l.length - (i + 1), by omega, by
        rw [hI]
        refine ⟨i + 1, rfl, by omega, hk, fun j hj => ?_, k0, k5, k6⟩
        by_cases hji : j = i
        · subst hji; rw [← hc]; exact h
        · exact hall j (by omega)⟩
    simp (maxSteps := 1000000) (disch := omega) only [h0, h5, h6, hlt, idx_s, ← hc, alnum_spec, add_n, loopQ_normal, W_seq, W_region, W_cond, W_block, W_skip, W_label, W_exit, W_goto, W_ret, WO_cons, WO_consG3, guardV_bool, guardT_tt, guardT_ff, guardT_tf, guardT_ft, condW_imp, imp_tt, imp_ff, imp_tf, imp_ft, imp_F, imp_T, implies_true, Decidable.not_not, forall_const, and_self, Bool.not_eq_false', WO_nil, evOp, ev_tmp, ev_const, ev_fn, WN_some, WN_none, updO_some, updO_none, upd_eq,
 ↓reduceIte, Nat.reduceEqDiff, List.nil_append, List.cons_append, List.append_nil, List.map_cons, List.map_nil, env0_zero, env0_succ, env0_nil, Option.map_some, Option.map_none, seqQ_normal, seqQ_ret, seqQ_exit, seqQ_goto, blockQ_normal, blockQ_ret, blockQ_exit, blockQ_goto, loopQ_ret, loopQ_exit, loopQ_goto, endQ_ret, endQ_normal, keep_mk, keep_st,
 lss_i, leq_i, gtr_i, geq_i, eql_i, neq_i, eql_8, neq_8, lss_8, leq_8, gtr_8, geq_8, eql_s, neq_s, eql_b, neq_b, not_b, by_bys, by_nils, load_cp1, beq_true, beq_false, Bool.not_eq_true', decide_eq_true_eq, decide_eq_false_iff_not, decide_true, decide_false,
 Int.toNat_natCast, Int.ofNat_lt, Int.ofNat_le, Int.natCast_inj, Bool.false_eq_true, Bool.true_eq_false, extPV, List.getElem?_cons_zero, List.getElem?_cons_succ, nilckPV, Int.reduceToNat, Int.reduceLE, true_and, and_true, reduceCtorEq, or_false, false_or, or_true, Option.some.injEq, exists_eq_left', Bool.not_true, Bool.not_false, ne_eq, Int.reduceEq, not_true_eq_false, not_false_eq_true, Int.reduceLT, UInt8.reduceLT, UInt8.reduceLE, UInt8.reduceToNat]
    clear hc hall hI
    repeat' (first | refine And.intro ?_ ?_ | intro q)
    all_goals first | exact bad (by simp only [labC, *, decide_true, decide_false, Bool.and_true, Bool.true_and, Bool.and_false, Bool.false_and, Bool.or_true, Bool.true_or, Bool.or_false, Bool.false_or, Bool.not_true, Bool.not_false, not_true_eq_false, not_false_eq_true]) _ rfl | exact next (by simp only [labC, *, decide_true, decide_false, Bool.and_true, Bool.true_and, Bool.and_false, Bool.false_and, Bool.or_true, Bool.true_or, Bool.or_false, Bool.false_or, Bool.not_true, Bool.not_false, not_true_eq_false, not_false_eq_true]) _ h0 h5 rfl | (exfalso; simp_all; done)
  · obtain rfl : i = l.length := by omega
    have ha := all_getD (p := labC) hall
    by_cases hn : l = []
    · simp (maxSteps := 1000000) (disch := omega) only [h0, h5, h6, hlt, eq_true hn, W_seq, W_region, W_cond, W_block, W_skip, W_label, W_exit, W_goto, W_ret, WO_cons, WO_consG3, guardV_bool, guardT_tt, guardT_ff, guardT_tf, guardT_ft, condW_imp, imp_tt, imp_ff, imp_tf, imp_ft, imp_F, imp_T, implies_true, Decidable.not_not, forall_const, and_self, Bool.not_eq_false', WO_nil, evOp, ev_tmp, ev_const, ev_fn, WN_some, WN_none, updO_some, updO_none, upd_eq,
 ↓reduceIte, Nat.reduceEqDiff, List.nil_append, List.cons_append, List.append_nil, List.map_cons, List.map_nil, env0_zero, env0_succ, env0_nil, Option.map_some, Option.map_none, seqQ_normal, seqQ_ret, seqQ_exit, seqQ_goto, blockQ_normal, blockQ_ret, blockQ_exit, blockQ_goto, loopQ_ret, loopQ_exit, loopQ_goto, endQ_ret, endQ_normal, keep_mk, keep_st,
 lss_i, leq_i, gtr_i, geq_i, eql_i, neq_i, eql_8, neq_8, lss_8, leq_8, gtr_8, geq_8, eql_s, neq_s, eql_b, neq_b, not_b, by_bys, by_nils, load_cp1, beq_true, beq_false, Bool.not_eq_true', decide_eq_true_eq, decide_eq_false_iff_not, decide_true, decide_false,
 Int.toNat_natCast, Int.ofNat_lt, Int.ofNat_le, Int.natCast_inj, Bool.false_eq_true, Bool.true_eq_false, extPV, List.getElem?_cons_zero, List.getElem?_cons_succ, nilckPV, Int.reduceToNat, Int.reduceLE, true_and, and_true, reduceCtorEq, or_false, false_or, or_true, Option.some.injEq, exists_eq_left', Bool.not_true, Bool.not_false, ne_eq, Int.reduceEq, not_true_eq_false, not_false_eq_true, Int.reduceLT, UInt8.reduceLT, UInt8.reduceLE, UInt8.reduceToNat]
      exact retB rfl hk (by simp [labB, hn])
    · have hp := List.length_pos_iff.2 hn
      have hsub : ∀ ek, binPV .sub ek (.int .i64 (l.length : Int)) (.int .i64 1) = some (.int .i64 ((l.length - 1 : Nat) : Int)) := fun ek => by
        rw [sub_n (by omega) (by simp; omega) (by omega)]; rfl
      have he : l.isEmpty = false := by cases l with | nil => exact absurd rfl hn | cons a r => rfl
      by_cases h63 : l.length ≤ 63
      · have e63 : (l.length : Int) ≤ 63 := by omega
        simp (maxSteps := 1000000) (disch := omega) only [h0, h5, h6, hlt, hn, len_s, idx_s, hsub, e63, W_seq, W_region, W_cond, W_block, W_skip, W_label, W_exit, W_goto, W_ret, WO_cons, WO_consG3, guardV_bool, guardT_tt, guardT_ff, guardT_tf, guardT_ft, condW_imp, imp_tt, imp_ff, imp_tf, imp_ft, imp_F, imp_T, implies_true, Decidable.not_not, forall_const, and_self, Bool.not_eq_false', WO_nil, evOp, ev_tmp, ev_const, ev_fn, WN_some, WN_none, updO_some, updO_none, upd_eq,
 ↓reduceIte, Nat.reduceEqDiff, List.nil_append, List.cons_append, List.append_nil, List.map_cons, List.map_nil, env0_zero, env0_succ, env0_nil, Option.map_some, Option.map_none, seqQ_normal, seqQ_ret, seqQ_exit, seqQ_goto, blockQ_normal, blockQ_ret, blockQ_exit, blockQ_goto, loopQ_ret, loopQ_exit, loopQ_goto, endQ_ret, endQ_normal, keep_mk, keep_st,
 lss_i, leq_i, gtr_i, geq_i, eql_i, neq_i, eql_8, neq_8, lss_8, leq_8, gtr_8, geq_8, eql_s, neq_s, eql_b, neq_b, not_b, by_bys, by_nils, load_cp1, beq_true, beq_false, Bool.not_eq_true', decide_eq_true_eq, decide_eq_false_iff_not, decide_true, decide_false,
 Int.toNat_natCast, Int.ofNat_lt, Int.ofNat_le, Int.natCast_inj, Bool.false_eq_true, Bool.true_eq_false, extPV, List.getElem?_cons_zero, List.getElem?_cons_succ, nilckPV, Int.reduceToNat, Int.reduceLE, true_and, and_true, reduceCtorEq, or_false, false_or, or_true, Option.some.injEq, exists_eq_left', Bool.not_true, Bool.not_false, ne_eq, Int.reduceEq, not_true_eq_false, not_false_eq_true, Int.reduceLT, UInt8.reduceLT, UInt8.reduceLE, UInt8.reduceToNat]
        clear hall hI h0 h5 h6
        repeat' (first | refine And.intro ?_ ?_ | intro q)
        all_goals exact retB rfl hk (by simp only [labB, ha, he, *, decide_not, decide_true, decide_false, Bool.and_true, Bool.true_and, Bool.and_false, Bool.false_and, Bool.or_true, Bool.true_or, Bool.or_false, Bool.false_or, Bool.not_true, Bool.not_false, not_true_eq_false, not_false_eq_true])
      · have e63 : ¬ (l.length : Int) ≤ 63 := by omega
        simp (maxSteps := 1000000) (disch := omega) only [h0, h5, h6, hlt, hn, len_s, idx_s, hsub, e63, W_seq, W_region, W_cond, W_block, W_skip, W_label, W_exit, W_goto, W_ret, WO_cons, WO_consG3, guardV_bool, guardT_tt, guardT_ff, guardT_tf, guardT_ft, condW_imp, imp_tt, imp_ff, imp_tf, imp_ft, imp_F, imp_T, implies_true, Decidable.not_not, forall_const, and_self, Bool.not_eq_false', WO_nil, evOp, ev_tmp, ev_const, ev_fn, WN_some, WN_none, updO_some, updO_none, upd_eq,
 ↓reduceIte, Nat.reduceEqDiff, List.nil_append, List.cons_append, List.append_nil, List.map_cons, List.map_nil, env0_zero, env0_succ, env0_nil, Option.map_some, Option.map_none, seqQ_normal, seqQ_ret, seqQ_exit, seqQ_goto, blockQ_normal, blockQ_ret, blockQ_exit, blockQ_goto, loopQ_ret, loopQ_exit, loopQ_goto, endQ_ret, endQ_normal, keep_mk, keep_st,
 lss_i, leq_i, gtr_i, geq_i, eql_i, neq_i, eql_8, neq_8, lss_8, leq_8, gtr_8, geq_8, eql_s, neq_s, eql_b, neq_b, not_b, by_bys, by_nils, load_cp1, beq_true, beq_false, Bool.not_eq_true', decide_eq_true_eq, decide_eq_false_iff_not, decide_true, decide_false,
 Int.toNat_natCast, Int.ofNat_lt, Int.ofNat_le, Int.natCast_inj, Bool.false_eq_true, Bool.true_eq_false, extPV, List.getElem?_cons_zero, List.getElem?_cons_succ, nilckPV, Int.reduceToNat, Int.reduceLE, true_and, and_true, reduceCtorEq, or_false, false_or, or_true, Option.some.injEq, exists_eq_left', Bool.not_true, Bool.not_false, ne_eq, Int.reduceEq, not_true_eq_false, not_false_eq_true, Int.reduceLT, UInt8.reduceLT, UInt8.reduceLE, UInt8.reduceToNat]
        exact retB rfl hk (by simp only [labB, h63, decide_true, decide_false, Bool.and_true, Bool.true_and, Bool.and_false, Bool.false_and, Bool.or_true, Bool.true_or, Bool.or_false, Bool.false_or, Bool.not_true, Bool.not_false, not_true_eq_false, not_false_eq_true])

theorem isNm_spec {l : List UInt8} (hl : l.length ≤ 100000000) : call prog (.fn 127 []) [.str l] st = some (.bool (nmA l), st) := by
  refine call_of_W prog_127 ?_
  unfold F_addr_isName; dsimp only
  simp (maxSteps := 1000000) (disch := omega) only [len_s, W_seq, W_region, W_cond, W_block, W_skip, W_label, W_exit, W_goto, W_ret, WO_cons, WO_consG3, guardV_bool, guardT_tt, guardT_ff, guardT_tf, guardT_ft, condW_imp, imp_tt, imp_ff, imp_tf, imp_ft, imp_F, imp_T, implies_true, Decidable.not_not, forall_const, and_self, Bool.not_eq_false', WO_nil, evOp, ev_tmp, ev_const, ev_fn, WN_some, WN_none, updO_some, updO_none, upd_eq,
 ↓reduceIte, Nat.reduceEqDiff, List.nil_append, List.cons_append, List.append_nil, List.map_cons, List.map_nil, env0_zero, env0_succ, env0_nil, Option.map_some, Option.map_none, seqQ_normal, seqQ_ret, seqQ_exit, seqQ_goto, blockQ_normal, blockQ_ret, blockQ_exit, blockQ_goto, loopQ_ret, loopQ_exit, loopQ_goto, endQ_ret, endQ_normal, keep_mk, keep_st,
 lss_i, leq_i, gtr_i, geq_i, eql_i, neq_i, eql_8, neq_8, lss_8, leq_8, gtr_8, geq_8, eql_s, neq_s, eql_b, neq_b, not_b, by_bys, by_nils, load_cp1, beq_true, beq_false, Bool.not_eq_true', decide_eq_true_eq, decide_eq_false_iff_not, decide_true, decide_false,
 Int.toNat_natCast, Int.ofNat_lt, Int.ofNat_le, Int.natCast_inj, Bool.false_eq_true, Bool.true_eq_false, extPV, List.getElem?_cons_zero, List.getElem?_cons_succ, nilckPV, Int.reduceToNat, Int.reduceLE, true_and, and_true, reduceCtorEq, or_false, false_or, or_true, Option.some.injEq, exists_eq_left', Bool.not_true, Bool.not_false, ne_eq, Int.reduceEq, not_true_eq_false, not_false_eq_true, Int.reduceLT, UInt8.reduceLT, UInt8.reduceLE, UInt8.reduceToNat]
  obtain ⟨I, hI⟩ : ∃ I : Nat → Env → St → Prop, I = fun k e s' => ∃ (i : Nat), k = l.length - i ∧ i ≤ l.length ∧ Kept st s' ∧ (∀ j, j < i → prC (l.getD j 0) = true) ∧ e 0 = .str l ∧ e 5 = .int .i64 (l.length : Int) ∧ e 6 = .int .i64 (i : Int) := ⟨_, rfl⟩
  refine W_loop I ?_ (n := l.length) (by
    rw [hI]
    exact ⟨0, rfl, by omega, Kept.start, fun j h => by omega, rfl, rfl, rfl⟩)
  intro k e s' hh
  rw [hI] at hh
  obtain ⟨i, rfl, hi, hk, hall, h0, h5, h6⟩ := hh
  by_cases hlt : i < l.length
  · obtain ⟨c, hc⟩ : ∃ c, c = l.getD i 0 := ⟨_, rfl⟩
    have bad : prC c = false → ∀ E : Env, E 2 = .bool false → ∃ rv, resOf E s' [.tmp 2] = some rv ∧ leave st s' rv = (.bool (nmA l), st) := fun h E k2 =>
      retB k2 hk (by simp only [nmA, all_bad (p := prC) hlt (by rw [← hc]; exact h), Bool.false_and])
    have next : prC c = true → ∀ E : Env, E 0 = .str l → E 5 = .int .i64 (l.length : Int) → E 6 = .int .i64 ((i + 1 : Nat) : Int) → ∃ m, m < l.length - i ∧ I m E s' := fun h E k0 k5 k6 =>
      ⟨l.length - (i + 1), by omega, by
        rw [hI]
        refine ⟨i + 1, rfl, by omega, hk, fun j hj => ?_, k0, k5, k6⟩
        by_cases hji : j = i
        · subst hji; rw [← hc]; exact h
        · exact hall j (by omega)⟩
    simp (maxSteps := 1000000) (disch := omega) only [h0, h5, h6, hlt, idx_s, ← hc, add_n, loopQ_normal, W_seq, W_region, W_cond, W_block, W_skip, W_label, W_exit, W_goto, W_ret, WO_cons, WO_consG3, guardV_bool, guardT_tt, guardT_ff, guardT_tf, guardT_ft, condW_imp, imp_tt, imp_ff, imp_tf, imp_ft, imp_F, imp_T, implies_true, Decidable.not_not, forall_const, and_self, Bool.not_eq_false', WO_nil, evOp, ev_tmp, ev_const, ev_fn, WN_some, WN_none, updO_some, updO_none, upd_eq,
 ↓reduceIte, Nat.reduceEqDiff, List.nil_append, List.cons_append, List.append_nil, List.map_cons, List.map_nil, env0_zero, env0_succ, env0_nil, Option.map_some, Option.map_none, seqQ_normal, seqQ_ret, seqQ_exit, seqQ_goto, blockQ_normal, blockQ_ret, blockQ_exit, blockQ_goto, loopQ_ret, loopQ_exit, loopQ_goto, endQ_ret, endQ_normal, keep_mk, keep_st,
 lss_i, leq_i, gtr_i, geq_i, eql_i, neq_i, eql_8, neq_8, lss_8, leq_8, gtr_8, geq_8, eql_s, neq_s, eql_b, neq_b, not_b, by_bys, by_nils, load_cp1, beq_true, beq_false, Bool.not_eq_true', decide_eq_true_eq, decide_eq_false_iff_not, decide_true, decide_false,
 Int.toNat_natCast, Int.ofNat_lt, Int.ofNat_le, Int.natCast_inj, Bool.false_eq_true, Bool.true_eq_false, extPV, List.getElem?_cons_zero, List.getElem?_cons_succ, nilckPV, Int.reduceToNat, Int.reduceLE, true_and, and_true, reduceCtorEq, or_false, false_or, or_true, Option.some.injEq, exists_eq_left', Bool.not_true, Bool.not_false, ne_eq, Int.reduceEq, not_true_eq_false, not_false_eq_true, Int.reduceLT, UInt8.reduceLT, UInt8.reduceLE, UInt8.reduceToNat]
    clear hc hall hI
    repeat' (first | refine And.intro ?_ ?_ | intro q)
    all_goals first | exact bad (by simp only [prC, *, decide_true, decide_false, Bool.and_true, Bool.true_and, Bool.and_false, Bool.false_and, Bool.or_true, Bool.true_or, Bool.or_false, Bool.false_or, Bool.not_true, Bool.not_false, not_true_eq_false, not_false_eq_true]) _ rfl | exact next (by simp only [prC, *, decide_true, decide_false, Bool.and_true, Bool.true_and, Bool.and_false, Bool.false_and, Bool.or_true, Bool.true_or, Bool.or_false, Bool.false_or, Bool.not_true, Bool.not_false, not_true_eq_false, not_false_eq_true]) _ h0 h5 rfl
  · obtain rfl : i = l.length := by omega
    simp (maxSteps := 1000000) (disch := omega) only [h0, h5, h6, hlt, len_s, W_seq, W_region, W_cond, W_block, W_skip, W_label, W_exit, W_goto, W_ret, WO_cons, WO_consG3, guardV_bool, guardT_tt, guardT_ff, guardT_tf, guardT_ft, condW_imp, imp_tt, imp_ff, imp_tf, imp_ft, imp_F, imp_T, implies_true, Decidable.not_not, forall_const, and_self, Bool.not_eq_false', WO_nil, evOp, ev_tmp, ev_const, ev_fn, WN_some, WN_none, updO_some, updO_none, upd_eq,
 ↓reduceIte, Nat.reduceEqDiff, List.nil_append, List.cons_append, List.append_nil, List.map_cons, List.map_nil, env0_zero, env0_succ, env0_nil, Option.map_some, Option.map_none, seqQ_normal, seqQ_ret, seqQ_exit, seqQ_goto, blockQ_normal, blockQ_ret, blockQ_exit, blockQ_goto, loopQ_ret, loopQ_exit, loopQ_goto, endQ_ret, endQ_normal, keep_mk, keep_st,
 lss_i, leq_i, gtr_i, geq_i, eql_i, neq_i, eql_8, neq_8, lss_8, leq_8, gtr_8, geq_8, eql_s, neq_s, eql_b, neq_b, not_b, by_bys, by_nils, load_cp1, beq_true, beq_false, Bool.not_eq_true', decide_eq_true_eq, decide_eq_false_iff_not, decide_true, decide_false,
 Int.toNat_natCast, Int.ofNat_lt, Int.ofNat_le, Int.natCast_inj, Bool.false_eq_true, Bool.true_eq_false, extPV, List.getElem?_cons_zero, List.getElem?_cons_succ, nilckPV, Int.reduceToNat, Int.reduceLE, true_and, and_true, reduceCtorEq, or_false, false_or, or_true, Option.some.injEq, exists_eq_left', Bool.not_true, Bool.not_false, ne_eq, Int.reduceEq, not_true_eq_false, not_false_eq_true, Int.reduceLT, UInt8.reduceLT, UInt8.reduceLE, UInt8.reduceToNat]
    refine retB rfl hk ?_
    simp only [nmA, all_getD (p := prC) hall, Bool.true_and]
    by_cases h : l.length ≤ 128
    · rw [decide_eq_true h, decide_eq_true (by omega)]
    · rw [decide_eq_false h, decide_eq_false (by omega)]
end Go.Ab

/-
  What may be an address; its normal form; an address without a name.
-/
namespace Go.Ab
set_option linter.unusedVariables false
set_option linter.unusedSimpArgs false
variable {st s : St} {e : Env}

theorem split_len {sep : UInt8} : ∀ (l acc : Bs), ∀ x ∈ splitOn sep acc l, x.length ≤ acc.length + l.length := by
  intro l
  induction l with
  | nil => intro acc x hx; simp [splitOn] at hx; subst hx; simp
  | cons d r ih =>
    intro acc x hx
    simp only [splitOn] at hx
    split at hx
    · rcases List.mem_cons.1 hx with rfl | hx
      · simp
      · have := ih [] x hx; simp at this ⊢; omega
    · have := ih (acc ++ [d]) x hx; simp at this ⊢; omega
theorem split_num {sep : UInt8} : ∀ (l acc : Bs), (splitOn sep acc l).length ≤ l.length + 1 := by
  intro l
  induction l with
  | nil => intro acc; simp [splitOn]
  | cons d r ih =>
    intro acc
    simp only [splitOn]
    split
    · have := ih []; simp; omega
    · have := ih (acc ++ [d]); simp; omega
theorem Split_spec {l : Bs} {c : UInt8} (hl : l.length ≤ 100000000) : call prog (.fn 133 []) [.str l, .str [c]] st = some (.sl 1 .no ((splitOn c [] l).map .str), st) := by
  rw [call_prim prog_133]
  simp [pStrSplit]
  omega
theorem iaddr_t {x : PV} {xs : List Bs} {k : IntKind} {c : Int} (h : x.vs 1 = some (xs.map .str)) (h1 : 0 ≤ c) (h2 : c.toNat < xs.length) : iaddrPV 1 x (.int k c) = some (.cp [.str (xs.getD c.toNat [])]) := by
  rw [iaddr_vs h h1 (by simpa using h2)]
  simp [List.getD, h2, PV.cells]
theorem all_getD' {p : Bs → Bool} {xs : List Bs} (h : ∀ j, j < xs.length → p (xs.getD j []) = true) : xs.all p = true := by
  rw [List.all_eq_true]
  intro x hx
  obtain ⟨i, hi, rfl⟩ := List.mem_iff_getElem.1 hx
  have := h i hi
  simpa [List.getD, hi] using this
theorem all_bad' {p : Bs → Bool} {xs : List Bs} {j : Nat} (hj : j < xs.length) (h : p (xs.getD j []) = false) : xs.all p = false := by
  rw [List.all_eq_false]
  exact ⟨xs.getD j [], by simp [List.getD, hj], by rw [h]; simp⟩

theorem parts_spec {l : Bs} {c : UInt8} {f : Nat} {p : Bs → Bool} (hl : l.length ≤ 100000000) (hf : ∀ (S : St) (x : Bs), x.length ≤ 100000000 → call prog (.fn f []) [.str x] S = some (.bool (p x), S)) :
    call prog (.fn 124 []) [.str l, .str [c], .fn f []] st = some (.bool (partsB c p l), st) := by
  refine call_of_W prog_124 ?_
  unfold F_addr_parts; dsimp only
  obtain ⟨xs, hxs⟩ : ∃ xs, xs = splitOn c [] l := ⟨_, rfl⟩
  have hsp : ∀ S : St, call prog (.fn 133 []) [.str l, .str [c]] S = some (.sl 1 .no (xs.map .str), S) := fun S => by rw [hxs]; exact Split_spec hl
  have hlen : lenPV false (.sl 1 .no (xs.map .str)) = some (.int .i64 (xs.length : Int)) := by simp [lenPV]
  have hvs : (PV.sl 1 .no (xs.map .str)).vs 1 = some (xs.map .str) := by simp [PV.vs]
  have hp : partsB c p l = xs.all p := by rw [hxs]; rfl
  have hxl : ∀ j, j < xs.length → (xs.getD j []).length ≤ 100000000 := fun j hj => by
    have hm : xs.getD j [] ∈ splitOn c [] l := by rw [← hxs]; simp [List.getD, hj]
    have := split_len l [] _ hm
    simp at this ⊢; omega
  have hnum : xs.length ≤ 100000001 := by
    have := split_num (sep := c) l []
    rw [← hxs] at this; omega
  rw [hp]
  simp (maxSteps := 1000000) (disch := omega) only [hsp, hlen, W_seq, W_region, W_cond, W_block, W_skip, W_label, W_exit, W_goto, W_ret, WO_cons, WO_consG3, guardV_bool, guardT_tt, guardT_ff, guardT_tf, guardT_ft, condW_imp, imp_tt, imp_ff, imp_tf, imp_ft, imp_F, imp_T, implies_true, Decidable.not_not, forall_const, and_self, Bool.not_eq_false', WO_nil, evOp, ev_tmp, ev_const, ev_fn, WN_some, WN_none, updO_some, updO_none, upd_eq,
 ↓reduceIte, Nat.reduceEqDiff, List.nil_append, List.cons_append, List.append_nil, List.map_cons, List.map_nil, env0_zero, env0_succ, env0_nil, Option.map_some, Option.map_none, seqQ_normal, seqQ_ret, seqQ_exit, seqQ_goto, blockQ_normal, blockQ_ret, blockQ_exit, blockQ_goto, loopQ_ret, loopQ_exit, loopQ_goto, endQ_ret, endQ_normal, keep_mk, keep_st,
 lss_i, leq_i, gtr_i, geq_i, eql_i, neq_i, eql_8, neq_8, lss_8, leq_8, gtr_8, geq_8, eql_s, neq_s, eql_b, neq_b, not_b, by_bys, by_nils, load_cp1, beq_true, beq_false, Bool.not_eq_true', decide_eq_true_eq, decide_eq_false_iff_not, decide_true, decide_false,
 Int.toNat_natCast, Int.ofNat_lt, Int.ofNat_le, Int.natCast_inj, Bool.false_eq_true, Bool.true_eq_false, extPV, List.getElem?_cons_zero, List.getElem?_cons_succ, nilckPV, Int.reduceToNat, Int.reduceLE, true_and, and_true, reduceCtorEq, or_false, false_or, or_true, Option.some.injEq, exists_eq_left', Bool.not_true, Bool.not_false, ne_eq, Int.reduceEq, not_true_eq_false, not_false_eq_true, Int.reduceLT, UInt8.reduceLT, UInt8.reduceLE, UInt8.reduceToNat]
  obtain ⟨I, hI⟩ : ∃ I : Nat → Env → St → Prop, I = fun k e s' => ∃ (i : Nat), k = xs.length - i ∧ i ≤ xs.length ∧ Kept st s' ∧ (∀ j, j < i → p (xs.getD j []) = true) ∧ e 2 = .fn f [] ∧ e 11 = .sl 1 .no (xs.map .str) ∧ e 12 = .int .i64 (xs.length : Int) ∧ e 13 = .int .i64 (i : Int) := ⟨_, rfl⟩
  refine W_loop I ?_ (n := xs.length) (by
    rw [hI]
    exact ⟨0, rfl, by omega, Kept.start, fun j h => by omega, rfl, rfl, rfl, rfl⟩)
  intro k e s' hh
  rw [hI] at hh
  obtain ⟨i, rfl, hi, hk, hall, h2, h11, h12, h13⟩ := hh
  by_cases hlt : i < xs.length
  · obtain ⟨x, hx⟩ : ∃ x, x = xs.getD i [] := ⟨_, rfl⟩
    have hfx := fun S : St => hf S x (by rw [hx]; exact hxl i hlt)
    cases hpx : p x with
    | false =>
      rw [hpx] at hfx
      simp (maxSteps := 1000000) (disch := omega) only [h2, h11, h12, h13, hlt, iaddr_t hvs, ← hx, load_cp1, hfx, W_seq, W_region, W_cond, W_block, W_skip, W_label, W_exit, W_goto, W_ret, WO_cons, WO_consG3, guardV_bool, guardT_tt, guardT_ff, guardT_tf, guardT_ft, condW_imp, imp_tt, imp_ff, imp_tf, imp_ft, imp_F, imp_T, implies_true, Decidable.not_not, forall_const, and_self, Bool.not_eq_false', WO_nil, evOp, ev_tmp, ev_const, ev_fn, WN_some, WN_none, updO_some, updO_none, upd_eq,
 ↓reduceIte, Nat.reduceEqDiff, List.nil_append, List.cons_append, List.append_nil, List.map_cons, List.map_nil, env0_zero, env0_succ, env0_nil, Option.map_some, Option.map_none, seqQ_normal, seqQ_ret, seqQ_exit, seqQ_goto, blockQ_normal, blockQ_ret, blockQ_exit, blockQ_goto, loopQ_ret, loopQ_exit, loopQ_goto, endQ_ret, endQ_normal, keep_mk, keep_st,
 lss_i, leq_i, gtr_i, geq_i, eql_i, neq_i, eql_8, neq_8, lss_8, leq_8, gtr_8, geq_8, eql_s, neq_s, eql_b, neq_b, not_b, by_bys, by_nils, load_cp1, beq_true, beq_false, Bool.not_eq_true', decide_eq_true_eq, decide_eq_false_iff_not, decide_true, decide_false,
 Int.toNat_natCast, Int.ofNat_lt, Int.ofNat_le, Int.natCast_inj, Bool.false_eq_true, Bool.true_eq_false, extPV, List.getElem?_cons_zero, List.getElem?_cons_succ, nilckPV, Int.reduceToNat, Int.reduceLE, true_and, and_true, reduceCtorEq, or_false, false_or, or_true, Option.some.injEq, exists_eq_left', Bool.not_true, Bool.not_false, ne_eq, Int.reduceEq, not_true_eq_false, not_false_eq_true, Int.reduceLT, UInt8.reduceLT, UInt8.reduceLE, UInt8.reduceToNat]
      exact retB rfl hk (all_bad' hlt (by rw [← hx]; exact hpx)).symm
    | true =>
      rw [hpx] at hfx
      simp (maxSteps := 1000000) (disch := omega) only [h2, h11, h12, h13, hlt, iaddr_t hvs, ← hx, load_cp1, hfx, add_n, W_seq, W_region, W_cond, W_block, W_skip, W_label, W_exit, W_goto, W_ret, WO_cons, WO_consG3, guardV_bool, guardT_tt, guardT_ff, guardT_tf, guardT_ft, condW_imp, imp_tt, imp_ff, imp_tf, imp_ft, imp_F, imp_T, implies_true, Decidable.not_not, forall_const, and_self, Bool.not_eq_false', WO_nil, evOp, ev_tmp, ev_const, ev_fn, WN_some, WN_none, updO_some, updO_none, upd_eq,
 ↓reduceIte, Nat.reduceEqDiff, List.nil_append, List.cons_append, List.append_nil, List.map_cons, List.map_nil, env0_zero, env0_succ, env0_nil, Option.map_some, Option.map_none, seqQ_normal, seqQ_ret, seqQ_exit, seqQ_goto, blockQ_normal, blockQ_ret, blockQ_exit, blockQ_goto, loopQ_ret, loopQ_exit, loopQ_goto, endQ_ret, endQ_normal, keep_mk, keep_st,
 lss_i, leq_i, gtr_i, geq_i, eql_i, neq_i, eql_8, neq_8, lss_8, leq_8, gtr_8, geq_8, eql_s, neq_s, eql_b, neq_b, not_b, by_bys, by_nils, load_cp1, beq_true, beq_false, Bool.not_eq_true', decide_eq_true_eq, decide_eq_false_iff_not, decide_true, decide_false,
 Int.toNat_natCast, Int.ofNat_lt, Int.ofNat_le, Int.natCast_inj, Bool.false_eq_true, Bool.true_eq_false, extPV, List.getElem?_cons_zero, List.getElem?_cons_succ, nilckPV, Int.reduceToNat, Int.reduceLE, true_and, and_true, reduceCtorEq, or_false, false_or, or_true, Option.some.injEq, exists_eq_left', Bool.not_true, Bool.not_false, ne_eq, Int.reduceEq, not_true_eq_false, not_false_eq_true, Int.reduceLT, UInt8.reduceLT, UInt8.reduceLE, UInt8.reduceToNat]
      refine loopQ_intro (m := xs.length - (i + 1)) (by omega) ?_
      rw [hI]
      refine ⟨i + 1, rfl, by omega, hk, fun j hj => ?_, h2, h11, h12, rfl⟩
      by_cases hji : j = i
      · subst hji; rw [← hx]; exact hpx
      · exact hall j (by omega)
  · obtain rfl : i = xs.length := by omega
    simp (maxSteps := 1000000) (disch := omega) only [h2, h11, h12, h13, hlt, W_seq, W_region, W_cond, W_block, W_skip, W_label, W_exit, W_goto, W_ret, WO_cons, WO_consG3, guardV_bool, guardT_tt, guardT_ff, guardT_tf, guardT_ft, condW_imp, imp_tt, imp_ff, imp_tf, imp_ft, imp_F, imp_T, implies_true, Decidable.not_not, forall_const, and_self, Bool.not_eq_false', WO_nil, evOp, ev_tmp, ev_const, ev_fn, WN_some, WN_none, updO_some, updO_none, upd_eq,
 ↓reduceIte, Nat.reduceEqDiff, List.nil_append, List.cons_append, List.append_nil, List.map_cons, List.map_nil, env0_zero, env0_succ, env0_nil, Option.map_some, Option.map_none, seqQ_normal, seqQ_ret, seqQ_exit, seqQ_goto, blockQ_normal, blockQ_ret, blockQ_exit, blockQ_goto, loopQ_ret, loopQ_exit, loopQ_goto, endQ_ret, endQ_normal, keep_mk, keep_st,
 lss_i, leq_i, gtr_i, geq_i, eql_i, neq_i, eql_8, neq_8, lss_8, leq_8, gtr_8, geq_8, eql_s, neq_s, eql_b, neq_b, not_b, by_bys, by_nils, load_cp1, beq_true, beq_false, Bool.not_eq_true', decide_eq_true_eq, decide_eq_false_iff_not, decide_true, decide_false,
 Int.toNat_natCast, Int.ofNat_lt, Int.ofNat_le, Int.natCast_inj, Bool.false_eq_true, Bool.true_eq_false, extPV, List.getElem?_cons_zero, List.getElem?_cons_succ, nilckPV, Int.reduceToNat, Int.reduceLE, true_and, and_true, reduceCtorEq, or_false, false_or, or_true, Option.some.injEq, exists_eq_left', Bool.not_true, Bool.not_false, ne_eq, Int.reduceEq, not_true_eq_false, not_false_eq_true, Int.reduceLT, UInt8.reduceLT, UInt8.reduceLE, UInt8.reduceToNat]
    exact retB rfl hk (all_getD' hall).symm

theorem atoms_spec {l : Bs} {c : UInt8} (hl : l.length ≤ 100000000) : call prog (.fn 124 []) [.str l, .str [c], .fn 125 []] st = some (.bool (partsB c atomB l), st) :=
  parts_spec hl (fun S x hx => isAtom_spec hx)
theorem labels_spec {l : Bs} {c : UInt8} (hl : l.length ≤ 100000000) : call prog (.fn 124 []) [.str l, .str [c], .fn 126 []] st = some (.bool (partsB c labB l), st) :=
  parts_spec hl (fun S x hx => isLabel_spec hx)

/-! ### Three texts in a box -/
variable {B : List (List PV)} {T : List Bool} {L : List LoopS} {lo : Nat} {a b c : Bs}
abbrev cA (a b c : Bs) : List PV := [.str a, .str b, .str c]
theorem inB_a {m : Nat} : (PV.agg [.str a, .str b, .str c]).inB m = true := rfl
theorem all_a : List.all [PV.str a, .str b, .str c] leafOk = true := rfl
theorem ld_a0 : loadPV ⟨B ++ [cA a b c], T, L, lo⟩ false 1 (.ptr B.length 0) = some (.str a) := by simp [loadPV, readCells]
theorem ld_a1 : loadPV ⟨B ++ [cA a b c], T, L, lo⟩ false 1 (.ptr B.length 1) = some (.str b) := by simp [loadPV, readCells]
theorem ld_a2 : loadPV ⟨B ++ [cA a b c], T, L, lo⟩ false 1 (.ptr B.length 2) = some (.str c) := by simp [loadPV, readCells]
theorem ld_aa : loadPV ⟨B ++ [cA a b c], T, L, lo⟩ true 3 (.ptr B.length 0) = some (.agg (cA a b c)) := by simp [loadPV, readCells]
theorem st_aa {a' b' c' : Bs} : storePV ⟨B ++ [cA a b c], T, L, lo⟩ 3 (.ptr B.length 0) (.agg (cA a' b' c')) = some ⟨B ++ [cA a' b' c'], T, L, lo⟩ := by
  simp [storePV, PV.cells, PV.inB, PV.inB.inBAll, setCells, hasTok, tokOf, leafOk]
theorem cells_agg {cs : List PV} : (PV.agg cs).cells = cs := rfl
theorem Kept.box1 {z : List PV} : Kept st ⟨st.boxes ++ [z], st.toks, st.loops, st.boxes.length⟩ := Kept.start.alloc

structure okA (a : Adr) : Prop where
  n : a.1.length ≤ 100000000
  l : a.2.1.length ≤ 100000000
  d : a.2.2.length ≤ 100000000

theorem Right_spec {a : Adr} (h : okA a) : call prog (.fn 111 []) [aV a] st = some (.bool (rightA a), st) := by
  refine call_of_W prog_111 ?_
  unfold F_addr_Right; dsimp only
  obtain ⟨n, l, d⟩ := a
  have hn := h.n; have hl := h.l; have hd := h.d
  simp only at hn hl hd
  have e64 : ((l.length : Int) ≤ 64) = (l.length ≤ 64) := by apply propext; omega
  have e253 : ((d.length : Int) ≤ 253) = (d.length ≤ 253) := by apply propext; omega
  have hA := fun S : St => atoms_spec (st := S) (c := 46) hl
  have hD := fun S : St => labels_spec (st := S) (c := 46) hd
  have hN := fun S : St => isNm_spec (st := S) hn
  simp (maxSteps := 1000000) (disch := omega) only [aV, inB_a, all_a, allocPV, cells_agg, faP, Nat.zero_add, ld_a0, ld_a1, ld_a2, len_s, e64, e253, hA, hD, hN, W_seq, W_region, W_cond, W_block, W_skip, W_label, W_exit, W_goto, W_ret, WO_cons, WO_consG3, guardV_bool, guardT_tt, guardT_ff, guardT_tf, guardT_ft, condW_imp, imp_tt, imp_ff, imp_tf, imp_ft, imp_F, imp_T, implies_true, Decidable.not_not, forall_const, and_self, Bool.not_eq_false', WO_nil, evOp, ev_tmp, ev_const, ev_fn, WN_some, WN_none, updO_some, updO_none, upd_eq,
 ↓reduceIte, Nat.reduceEqDiff, List.nil_append, List.cons_append, List.append_nil, List.map_cons, List.map_nil, env0_zero, env0_succ, env0_nil, Option.map_some, Option.map_none, seqQ_normal, seqQ_ret, seqQ_exit, seqQ_goto, blockQ_normal, blockQ_ret, blockQ_exit, blockQ_goto, loopQ_ret, loopQ_exit, loopQ_goto, endQ_ret, endQ_normal, keep_mk, keep_st,
 lss_i, leq_i, gtr_i, geq_i, eql_i, neq_i, eql_8, neq_8, lss_8, leq_8, gtr_8, geq_8, eql_s, neq_s, eql_b, neq_b, not_b, by_bys, by_nils, load_cp1, beq_true, beq_false, Bool.not_eq_true', decide_eq_true_eq, decide_eq_false_iff_not, decide_true, decide_false,
 Int.toNat_natCast, Int.ofNat_lt, Int.ofNat_le, Int.natCast_inj, Bool.false_eq_true, Bool.true_eq_false, extPV, List.getElem?_cons_zero, List.getElem?_cons_succ, nilckPV, Int.reduceToNat, Int.reduceLE, true_and, and_true, reduceCtorEq, or_false, false_or, or_true, Option.some.injEq, exists_eq_left', Bool.not_true, Bool.not_false, ne_eq, Int.reduceEq, not_true_eq_false, not_false_eq_true, Int.reduceLT, UInt8.reduceLT, UInt8.reduceLE, UInt8.reduceToNat]
  clear hA hD hN
  repeat' (first | refine And.intro ?_ ?_ | intro q)
  all_goals exact retB rfl Kept.box1 (by simp only [rightA, *, decide_true, decide_false, Bool.and_true, Bool.true_and, Bool.and_false, Bool.false_and, Bool.or_true, Bool.true_or, Bool.or_false, Bool.false_or, Bool.not_true, Bool.not_false, not_true_eq_false, not_false_eq_true])

/-! ### The normal form -/
theorem Plain_spec {s : Bs} (h : s.length ≤ 100000000) : call prog (.fn 115 []) [.str s] st = some (.tup [aV (plainA s).1, .int .i64 (plainA s).2], st) := by
  refine call_of_W prog_115 ?_
  unfold F_addr_Plain; dsimp only
  have hcut : ∀ S : St, call prog (.fn 128 []) [.str s, .str [64]] S = some (cutAt s [64], S) := fun S => Cut_spec (by omega) (by simp)
  obtain ⟨a, ha⟩ : ∃ a, a = cutA s := ⟨_, rfl⟩
  obtain ⟨t, hct⟩ : ∃ t, cutAt s [64] = .tup [.str a.2.1, .str a.2.2, .bool t] := by
    rw [ha]
    unfold cutAt cutA
    split
    · exact ⟨true, rfl⟩
    · exact ⟨false, rfl⟩
  have ha1 : a.1 = [] := by rw [ha]; unfold cutA; split <;> rfl
  have hok : okA a := by
    rw [ha]
    unfold cutA
    split
    · exact ⟨by simp, by simp; omega, by simp; omega⟩
    · exact ⟨by simp, h, by simp⟩
  rw [hct] at hcut
  obtain ⟨n, l, d⟩ := a
  simp only at ha1 hcut
  subst ha1
  have hR := fun S : St => Right_spec (st := S) hok
  simp only [aV] at hR
  have hbuild : buildCells [.str [], .str [], .str []] [(1, 1, .str l), (2, 1, .str d)] = some (cA [] l d) := rfl
  have hb0 : buildCells [.str [], .str [], .str []] [] = some (cA [] [] []) := rfl
  have hlen1 : (st.boxes ++ [cA [] [] []]).length = st.boxes.length + 1 := by simp
  have hs2 : ∀ T L lo, storePV ⟨st.boxes ++ [cA [] [] []] ++ [cA [] [] []], T, L, lo⟩ 3 (.ptr (st.boxes.length + 1) 0) (.agg (cA [] l d)) = some ⟨st.boxes ++ [cA [] [] []] ++ [cA [] l d], T, L, lo⟩ := fun T L lo => by
    have := st_aa (B := st.boxes ++ [cA [] [] []]) (T := T) (L := L) (lo := lo) (a := []) (b := []) (c := []) (a' := []) (b' := l) (c' := d)
    rw [hlen1] at this; exact this
  have hl2 : ∀ x T L lo, loadPV ⟨st.boxes ++ [x] ++ [cA [] l d], T, L, lo⟩ true 3 (.ptr (st.boxes.length + 1) 0) = some (.agg (cA [] l d)) := fun x T L lo => by
    have := ld_aa (B := st.boxes ++ [x]) (T := T) (L := L) (lo := lo) (a := []) (b := l) (c := d)
    simpa using this
  have hs0 : ∀ (x y z : Bs) (w : List PV) T L lo, storePV ⟨st.boxes ++ [cA [] [] []] ++ [w], T, L, lo⟩ 3 (.ptr st.boxes.length 0) (.agg (cA x y z)) = some ⟨st.boxes ++ [cA x y z] ++ [w], T, L, lo⟩ := fun x y z w T L lo => by
    simp [storePV, PV.cells, PV.inB, PV.inB.inBAll, setCells, hasTok, tokOf, leafOk]
  have fin : ∀ (E : Env) (x y z : Bs) (w : List PV) (c : Int), E 2 = .ptr st.boxes.length 0 → E 3 = .int .i64 c → plainA s = ((x, y, z), c) →
      ∃ rv, resOf E ⟨st.boxes ++ [cA x y z] ++ [w], st.toks, st.loops, st.boxes.length⟩ [.cell 2 true 3, .tmp 3] = some rv ∧ leave st ⟨st.boxes ++ [cA x y z] ++ [w], st.toks, st.loops, st.boxes.length⟩ rv = (.tup [aV (plainA s).1, .int .i64 (plainA s).2], st) := by
    intro E x y z w c k2 k3 hp
    have hk : Kept st ⟨st.boxes ++ [cA x y z] ++ [w], st.toks, st.loops, st.boxes.length⟩ := (Kept.box1 (st := st) (z := cA x y z)).alloc
    refine ⟨.tup [.agg (cA x y z), .int .i64 c], ?_, ?_⟩
    · simp [resOf, rvAll, rv1, k2, k3, loadPV, readCells, notTup, packRes]
    · rw [hp]; exact hk.leave rfl (fun _ _ => rfl)
  cases hr : rightA ([], l, d) with
  | true =>
    rw [hr] at hR
    simp (maxSteps := 1000000) (disch := omega) only [allocPV, hcut, hbuild, hlen1, hs2, hl2, hR, hs0, W_seq, W_region, W_cond, W_block, W_skip, W_label, W_exit, W_goto, W_ret, WO_cons, WO_consG3, guardV_bool, guardT_tt, guardT_ff, guardT_tf, guardT_ft, condW_imp, imp_tt, imp_ff, imp_tf, imp_ft, imp_F, imp_T, implies_true, Decidable.not_not, forall_const, and_self, Bool.not_eq_false', WO_nil, evOp, ev_tmp, ev_const, ev_fn, WN_some, WN_none, updO_some, updO_none, upd_eq,
 ↓reduceIte, Nat.reduceEqDiff, List.nil_append, List.cons_append, List.append_nil, List.map_cons, List.map_nil, env0_zero, env0_succ, env0_nil, Option.map_some, Option.map_none, seqQ_normal, seqQ_ret, seqQ_exit, seqQ_goto, blockQ_normal, blockQ_ret, blockQ_exit, blockQ_goto, loopQ_ret, loopQ_exit, loopQ_goto, endQ_ret, endQ_normal, keep_mk, keep_st,
 lss_i, leq_i, gtr_i, geq_i, eql_i, neq_i, eql_8, neq_8, lss_8, leq_8, gtr_8, geq_8, eql_s, neq_s, eql_b, neq_b, not_b, by_bys, by_nils, load_cp1, beq_true, beq_false, Bool.not_eq_true', decide_eq_true_eq, decide_eq_false_iff_not, decide_true, decide_false,
 Int.toNat_natCast, Int.ofNat_lt, Int.ofNat_le, Int.natCast_inj, Bool.false_eq_true, Bool.true_eq_false, extPV, List.getElem?_cons_zero, List.getElem?_cons_succ, nilckPV, Int.reduceToNat, Int.reduceLE, true_and, and_true, reduceCtorEq, or_false, false_or, or_true, Option.some.injEq, exists_eq_left', Bool.not_true, Bool.not_false, ne_eq, Int.reduceEq, not_true_eq_false, not_false_eq_true, Int.reduceLT, UInt8.reduceLT, UInt8.reduceLE, UInt8.reduceToNat]
    exact fin _ [] l d _ 0 rfl rfl (by simp [plainA, ← ha, hr])
  | false =>
    rw [hr] at hR
    simp (maxSteps := 1000000) (disch := omega) only [allocPV, hcut, hbuild, hb0, hlen1, hs2, hl2, hR, hs0, W_seq, W_region, W_cond, W_block, W_skip, W_label, W_exit, W_goto, W_ret, WO_cons, WO_consG3, guardV_bool, guardT_tt, guardT_ff, guardT_tf, guardT_ft, condW_imp, imp_tt, imp_ff, imp_tf, imp_ft, imp_F, imp_T, implies_true, Decidable.not_not, forall_const, and_self, Bool.not_eq_false', WO_nil, evOp, ev_tmp, ev_const, ev_fn, WN_some, WN_none, updO_some, updO_none, upd_eq,
 ↓reduceIte, Nat.reduceEqDiff, List.nil_append, List.cons_append, List.append_nil, List.map_cons, List.map_nil, env0_zero, env0_succ, env0_nil, Option.map_some, Option.map_none, seqQ_normal, seqQ_ret, seqQ_exit, seqQ_goto, blockQ_normal, blockQ_ret, blockQ_exit, blockQ_goto, loopQ_ret, loopQ_exit, loopQ_goto, endQ_ret, endQ_normal, keep_mk, keep_st,
 lss_i, leq_i, gtr_i, geq_i, eql_i, neq_i, eql_8, neq_8, lss_8, leq_8, gtr_8, geq_8, eql_s, neq_s, eql_b, neq_b, not_b, by_bys, by_nils, load_cp1, beq_true, beq_false, Bool.not_eq_true', decide_eq_true_eq, decide_eq_false_iff_not, decide_true, decide_false,
 Int.toNat_natCast, Int.ofNat_lt, Int.ofNat_le, Int.natCast_inj, Bool.false_eq_true, Bool.true_eq_false, extPV, List.getElem?_cons_zero, List.getElem?_cons_succ, nilckPV, Int.reduceToNat, Int.reduceLE, true_and, and_true, reduceCtorEq, or_false, false_or, or_true, Option.some.injEq, exists_eq_left', Bool.not_true, Bool.not_false, ne_eq, Int.reduceEq, not_true_eq_false, not_false_eq_true, Int.reduceLT, UInt8.reduceLT, UInt8.reduceLE, UInt8.reduceToNat]
    exact fin _ [] [] [] _ 60 rfl rfl (by simp [plainA, ← ha, hr, noA])
end Go.Ab

/-
  Layer 20: what must come of fixed calls; weekdays.
-/
namespace Go.Ab
set_option linter.unusedVariables false
set_option linter.unusedSimpArgs false
set_option maxRecDepth 20000
variable {st s : St} {e : Env}

theorem al20_0 : evV prog 400 (.fn 260 []) [] ⟨[], [], [], 0⟩ = some (.bool true, ⟨[], [], [], 0⟩) := by kernel_rfl

theorem retV2 {a b : Nat} {v w : PV} (ha : e a = v) (hb : e b = w) (h1 : notTup v = true) (h2 : notTup w = true) (hk : Kept st s) (hf : Flat (.tup [v, w])) : ∃ rv, resOf e s [.tmp a, .tmp b] = some rv ∧ leave st s rv = (.tup [v, w], st) :=
  ⟨.tup [v, w], by simp [resOf, rvAll, rv1, ha, hb, h1, h2, packRes], hk.leave' hf⟩
theorem retTI {a b : Nat} {t u : Bs} {n m : Int} (ha : e a = .str t) (hb : e b = .int .i64 n) (hk : Kept st s) (h1 : t = u) (h2 : n = m) : ∃ rv, resOf e s [.tmp a, .tmp b] = some rv ∧ leave st s rv = (.tup [.str u, .int .i64 m], st) := by
  subst h1 h2; exact retV2 ha hb rfl rfl hk ⟨fun _ => rfl, fun _ _ => rfl⟩

theorem rem_i {k : IntKind} {ek : EK} {a : Int} {c : Int} (h : c ≠ 0) : binPV .rem ek (.int k a) (.int k c) = some (.int k (a.tmod c)) := by simp [binPV, binI, h]
end Go.Ab

/-
  Ids are written.
-/
namespace Go.Ab
set_option linter.unusedVariables false
set_option linter.unusedSimpArgs false
set_option maxRecDepth 20000
variable {st s : St} {e : Env}

theorem wrapU {n : Int} (h1 : 0 ≤ n) (h2 : n < 18446744073709551616) : IntKind.u64.wrap n = n := by
  unfold IntKind.wrap
  simp only [IntKind.signed, IntKind.bits]
  simp
  omega
theorem and31 {ek : EK} {m : Nat} (h : m < 18446744073709551616) : binPV .and ek (.int .u64 (m : Int)) (.int .u64 31) = some (.int .u64 ((m % 32 : Nat) : Int)) := by
  simp only [binPV, binI, reduceIte, Option.some.injEq]
  have e1 : (BitVec.ofInt IntKind.u64.bits (m : Int) &&& BitVec.ofInt IntKind.u64.bits 31).toNat = m % 32 := by
    rw [BitVec.toNat_and]
    have a1 : (BitVec.ofInt IntKind.u64.bits (m : Int)).toNat = m := by
      simp only [IntKind.bits, BitVec.ofInt_natCast, BitVec.toNat_ofNat]
      exact Nat.mod_eq_of_lt h
    have a2 : (BitVec.ofInt IntKind.u64.bits 31).toNat = 31 := by decide
    rw [a1, a2]
    exact Nat.and_two_pow_sub_one_eq_mod m 5
  rw [e1, wrapU (by omega) (by omega)]
theorem shr5 {ek : EK} {m : Nat} (h : m < 18446744073709551616) : binPV .shr ek (.int .u64 (m : Int)) (.int .u64 5) = some (.int .u64 ((m / 32 : Nat) : Int)) := by
  have e1 : (m : Int).fdiv (2 ^ (min (5 : Int).toNat IntKind.u64.bits)) = ((m / 32 : Nat) : Int) := by
    rw [show (2 : Int) ^ (min (5 : Int).toNat IntKind.u64.bits) = 32 by decide]
    rw [Int.fdiv_eq_ediv_of_nonneg _ (by decide)]; omega
  simp only [binPV, shI, e1]
  rfl
theorem addU {ek : EK} {a : Nat} {c : Int} (h1 : 0 ≤ c) (h2 : a + c.toNat < 18446744073709551616) : binPV .add ek (.int .u64 (a : Int)) (.int .u64 c) = some (.int .u64 ((a + c.toNat : Nat) : Int)) := by
  simp only [binPV, binI, reduceIte, Option.some.injEq]
  rw [wrapU (by omega) (by omega)]
  congr 1; omega
def sgT : Bs := [48, 49, 50, 51, 52, 53, 54, 55, 56, 57, 97, 98, 99, 100, 101, 102, 103, 104, 105, 106, 107, 108, 109, 110, 111, 112, 113, 114, 115, 116, 117, 118]
theorem sgT_at {m : Nat} (h : m < 32) : slcPV 0 (.str sgT) (some (.int .u64 (m : Int))) (some (.int .u64 ((m + 1 : Nat) : Int))) none = some (.str [sgC m]) := by
  rw [slc_s (by omega) (by omega) (by simp [sgT]; omega)]
  have := List.all_eq_true.1 (show (List.range 32).all (fun m => (sgT.take (m + 1)).drop m == [sgC m]) = true by kernel_rfl) m (List.mem_range.2 h)
  simp only [beq_iff_eq] at this
  simp only [Int.toNat_natCast, this]

theorem five_spec {n : Nat} (hn : n < 9223372036854775808) : call prog (.fn 303 []) [.int .u64 (n : Int)] st = some (.str (sg32 n), st) := by
  refine call_of_W prog_303 ?_
  unfold F_date_five; dsimp only
  have hlen := sg_len 12 n (Nat.lt_of_lt_of_le hn (by decide))
  rw [show ([48, 49, 50, 51, 52, 53, 54, 55, 56, 57, 97, 98, 99, 100, 101, 102, 103, 104, 105, 106, 107, 108, 109, 110, 111, 112, 113, 114, 115, 116, 117, 118] : List UInt8) = sgT from rfl]
  simp (maxSteps := 1000000) (disch := omega) only [W_seq, W_region, W_cond, W_block, W_skip, W_label, W_exit, W_goto, W_ret, WO_cons, WO_consG3, guardV_bool, guardT_tt, guardT_ff, guardT_tf, guardT_ft, condW_imp, imp_tt, imp_ff, imp_tf, imp_ft, imp_F, imp_T, implies_true, Decidable.not_not, forall_const, and_self, Bool.not_eq_false', WO_nil, evOp, ev_tmp, ev_const, ev_fn, WN_some, WN_none, updO_some, updO_none, upd_eq,
 ↓reduceIte, Nat.reduceEqDiff, List.nil_append, List.cons_append, List.append_nil, List.map_cons, List.map_nil, env0_zero, env0_succ, env0_nil, Option.map_some, Option.map_none, seqQ_normal, seqQ_ret, seqQ_exit, seqQ_goto, blockQ_normal, blockQ_ret, blockQ_exit, blockQ_goto, loopQ_ret, loopQ_exit, loopQ_goto, endQ_ret, endQ_normal, keep_mk, keep_st,
 lss_i, leq_i, gtr_i, geq_i, eql_i, neq_i, eql_8, neq_8, lss_8, leq_8, gtr_8, geq_8, eql_s, neq_s, eql_b, neq_b, not_b, by_bys, by_nils, load_cp1, beq_true, beq_false, Bool.not_eq_true', decide_eq_true_eq, decide_eq_false_iff_not, decide_true, decide_false,
 Int.toNat_natCast, Int.ofNat_lt, Int.ofNat_le, Int.natCast_inj, Bool.false_eq_true, Bool.true_eq_false, extPV, List.getElem?_cons_zero, List.getElem?_cons_succ, nilckPV, Int.reduceToNat, Int.reduceLE, true_and, and_true, reduceCtorEq, or_false, false_or, or_true, Option.some.injEq, exists_eq_left', Bool.not_true, Bool.not_false, ne_eq, Int.reduceEq, not_true_eq_false, not_false_eq_true, Int.reduceLT, UInt8.reduceLT, UInt8.reduceLE, UInt8.reduceToNat]
  obtain ⟨I, hI⟩ : ∃ I : Nat → Env → St → Prop, I = fun k e s' => ∃ (acc : Bs), k ≤ n ∧ Kept st s' ∧ sg32 n = sg32 k ++ acc ∧ e 0 = .int .u64 (k : Int) ∧ e 3 = .str acc := ⟨_, rfl⟩
  refine W_loop I ?_ (n := n) (by
    rw [hI]
    exact ⟨[], Nat.le_refl _, Kept.start, by simp, rfl, rfl⟩)
  intro k e s' hh
  rw [hI] at hh
  obtain ⟨acc, hk, hke, hsg, h0, h3⟩ := hh
  have hl2 : acc.length ≤ 13 := by have := congrArg List.length hsg; simp at this; omega
  have hs := @sgT_at (k % 32) (Nat.mod_lt _ (by omega))
  have hone : ([sgC (k % 32)] : Bs).length = 1 := rfl
  have hz : ((k / 32 : Nat) : Int) = 0 ↔ k / 32 = 0 := by omega
  have fin : k / 32 = 0 → ∀ E : Env, E 2 = .str ([sgC (k % 32)] ++ acc) → ∃ rv, resOf E s' [.tmp 2] = some rv ∧ leave st s' rv = (.str (sg32 n), st) := fun h E k2 =>
    retS k2 hke (by rw [hsg, sg_lt (show k < 32 by omega), show k % 32 = k by omega])
  have next : ¬ k / 32 = 0 → ∀ E : Env, E 0 = .int .u64 ((k / 32 : Nat) : Int) → E 3 = .str ([sgC (k % 32)] ++ acc) → ∃ m, m < k ∧ I m E s' := fun h E k0 k3 =>
    ⟨k / 32, by omega, by
      rw [hI]
      exact ⟨_, by omega, hke, by rw [hsg, sg_ge (show ¬ k < 32 by omega)]; simp, k0, k3⟩⟩
  clear hI
  simp (maxSteps := 1000000) (disch := omega) only [h0, h3, and31, addU, shr5, Int.toNat_one, hs, adds, hone, hz, loopQ_normal, W_seq, W_region, W_cond, W_block, W_skip, W_label, W_exit, W_goto, W_ret, WO_cons, WO_consG3, guardV_bool, guardT_tt, guardT_ff, guardT_tf, guardT_ft, condW_imp, imp_tt, imp_ff, imp_tf, imp_ft, imp_F, imp_T, implies_true, Decidable.not_not, forall_const, and_self, Bool.not_eq_false', WO_nil, evOp, ev_tmp, ev_const, ev_fn, WN_some, WN_none, updO_some, updO_none, upd_eq,
 ↓reduceIte, Nat.reduceEqDiff, List.nil_append, List.cons_append, List.append_nil, List.map_cons, List.map_nil, env0_zero, env0_succ, env0_nil, Option.map_some, Option.map_none, seqQ_normal, seqQ_ret, seqQ_exit, seqQ_goto, blockQ_normal, blockQ_ret, blockQ_exit, blockQ_goto, loopQ_ret, loopQ_exit, loopQ_goto, endQ_ret, endQ_normal, keep_mk, keep_st,
 lss_i, leq_i, gtr_i, geq_i, eql_i, neq_i, eql_8, neq_8, lss_8, leq_8, gtr_8, geq_8, eql_s, neq_s, eql_b, neq_b, not_b, by_bys, by_nils, load_cp1, beq_true, beq_false, Bool.not_eq_true', decide_eq_true_eq, decide_eq_false_iff_not, decide_true, decide_false,
 Int.toNat_natCast, Int.ofNat_lt, Int.ofNat_le, Int.natCast_inj, Bool.false_eq_true, Bool.true_eq_false, extPV, List.getElem?_cons_zero, List.getElem?_cons_succ, nilckPV, Int.reduceToNat, Int.reduceLE, true_and, and_true, reduceCtorEq, or_false, false_or, or_true, Option.some.injEq, exists_eq_left', Bool.not_true, Bool.not_false, ne_eq, Int.reduceEq, not_true_eq_false, not_false_eq_true, Int.reduceLT, UInt8.reduceLT, UInt8.reduceLE, UInt8.reduceToNat]
  refine And.intro (fun q => ?_) (fun q => ?_)
  · exact fin q _ rfl
  · exact next q _ rfl rfl

theorem isDomain_spec {d : Bs} (h : d.length ≤ 100000000) : call prog (.fn 302 []) [.str d] st = some (.bool (rightA ([], [120], d)), st) := by
  refine call_of_W prog_302 ?_
  unfold F_date_isDomain; dsimp only
  have hR := fun S : St => Right_spec (st := S) (a := ([], [120], d)) ⟨by simp, by simp, h⟩
  simp only [aV] at hR
  have hb : buildCells [.str [], .str [], .str []] [(1, 1, .str [120]), (2, 1, .str d)] = some [.str [], .str [120], .str d] := by
    simp [buildCells, PV.cells, setCells, leafOk]
  simp (maxSteps := 1000000) (disch := omega) only [hb, hR, W_seq, W_region, W_cond, W_block, W_skip, W_label, W_exit, W_goto, W_ret, WO_cons, WO_consG, WO_nil, wantedA_eq, wantB, evOp, ev_tmp, ev_const, ev_fn, WN_some, WN_none, updO_some, updO_none, upd_eq,
 ↓reduceIte, Nat.reduceEqDiff, List.nil_append, List.cons_append, List.append_nil, List.map_cons, List.map_nil, env0_zero, env0_succ, env0_nil, Option.map_some, Option.map_none, seqQ_normal, seqQ_ret, seqQ_exit, seqQ_goto, blockQ_normal, blockQ_ret, blockQ_exit, blockQ_goto, condW_bool, loopQ_ret, loopQ_exit, loopQ_goto, endQ_ret, endQ_normal, keep_mk, keep_st,
 lss_i, leq_i, gtr_i, geq_i, eql_i, neq_i, eql_8, neq_8, lss_8, leq_8, gtr_8, geq_8, eql_s, neq_s, eql_b, neq_b, not_b, by_bys, by_nils, load_cp1, beq_true, beq_false, Bool.not_eq_true', decide_eq_true_eq, decide_eq_false_iff_not, decide_true, decide_false,
 Int.toNat_natCast, Int.ofNat_lt, Int.ofNat_le, Int.natCast_inj, Bool.false_eq_true, Bool.true_eq_false, extPV, List.getElem?_cons_zero, List.getElem?_cons_succ, nilckPV, Int.reduceToNat, Int.reduceLE, true_and, and_true, reduceCtorEq, or_false, false_or, or_true, Option.some.injEq, exists_eq_left', Bool.not_true, Bool.not_false, ne_eq, Int.reduceEq, not_true_eq_false, not_false_eq_true, Int.reduceLT, UInt8.reduceLT, UInt8.reduceLE, UInt8.reduceToNat]
  exact retB rfl Kept.start rfl

theorem cU64 {n : Nat} (h : n < 9223372036854775808) : cIntPV .u64 (.int .i64 (n : Int)) = some (.int .u64 (n : Int)) := by
  simp only [cIntPV, Option.some.injEq]
  rw [wrapU (by omega) (by omega)]
theorem Right_w {t : Int} : call prog (.fn 199 []) [.int .i64 t] st = some (.bool (decide (0 ≤ t ∧ t ≤ 253402300799)), st) := by
  refine call_of_W prog_199 ?_
  unfold F_when_Right; dsimp only
  by_cases h1 : 0 ≤ t
  · by_cases h2 : t ≤ 253402300799
    · simp (maxSteps := 1000000) (disch := omega) only [h1, h2, W_seq, W_region, W_cond, W_block, W_skip, W_label, W_exit, W_goto, W_ret, WO_cons, WO_consG, WO_nil, wantedA_eq, wantB, evOp, ev_tmp, ev_const, ev_fn, WN_some, WN_none, updO_some, updO_none, upd_eq,
 ↓reduceIte, Nat.reduceEqDiff, List.nil_append, List.cons_append, List.append_nil, List.map_cons, List.map_nil, env0_zero, env0_succ, env0_nil, Option.map_some, Option.map_none, seqQ_normal, seqQ_ret, seqQ_exit, seqQ_goto, blockQ_normal, blockQ_ret, blockQ_exit, blockQ_goto, condW_bool, loopQ_ret, loopQ_exit, loopQ_goto, endQ_ret, endQ_normal, keep_mk, keep_st,
 lss_i, leq_i, gtr_i, geq_i, eql_i, neq_i, eql_8, neq_8, lss_8, leq_8, gtr_8, geq_8, eql_s, neq_s, eql_b, neq_b, not_b, by_bys, by_nils, load_cp1, beq_true, beq_false, Bool.not_eq_true', decide_eq_true_eq, decide_eq_false_iff_not, decide_true, decide_false,
 Int.toNat_natCast, Int.ofNat_lt, Int.ofNat_le, Int.natCast_inj, Bool.false_eq_true, Bool.true_eq_false, extPV, List.getElem?_cons_zero, List.getElem?_cons_succ, nilckPV, Int.reduceToNat, Int.reduceLE, true_and, and_true, reduceCtorEq, or_false, false_or, or_true, Option.some.injEq, exists_eq_left', Bool.not_true, Bool.not_false, ne_eq, Int.reduceEq, not_true_eq_false, not_false_eq_true, Int.reduceLT, UInt8.reduceLT, UInt8.reduceLE, UInt8.reduceToNat]
      exact retB rfl Kept.start (by simp [h1, h2])
    · simp (maxSteps := 1000000) (disch := omega) only [h1, h2, W_seq, W_region, W_cond, W_block, W_skip, W_label, W_exit, W_goto, W_ret, WO_cons, WO_consG, WO_nil, wantedA_eq, wantB, evOp, ev_tmp, ev_const, ev_fn, WN_some, WN_none, updO_some, updO_none, upd_eq,
 ↓reduceIte, Nat.reduceEqDiff, List.nil_append, List.cons_append, List.append_nil, List.map_cons, List.map_nil, env0_zero, env0_succ, env0_nil, Option.map_some, Option.map_none, seqQ_normal, seqQ_ret, seqQ_exit, seqQ_goto, blockQ_normal, blockQ_ret, blockQ_exit, blockQ_goto, condW_bool, loopQ_ret, loopQ_exit, loopQ_goto, endQ_ret, endQ_normal, keep_mk, keep_st,
 lss_i, leq_i, gtr_i, geq_i, eql_i, neq_i, eql_8, neq_8, lss_8, leq_8, gtr_8, geq_8, eql_s, neq_s, eql_b, neq_b, not_b, by_bys, by_nils, load_cp1, beq_true, beq_false, Bool.not_eq_true', decide_eq_true_eq, decide_eq_false_iff_not, decide_true, decide_false,
 Int.toNat_natCast, Int.ofNat_lt, Int.ofNat_le, Int.natCast_inj, Bool.false_eq_true, Bool.true_eq_false, extPV, List.getElem?_cons_zero, List.getElem?_cons_succ, nilckPV, Int.reduceToNat, Int.reduceLE, true_and, and_true, reduceCtorEq, or_false, false_or, or_true, Option.some.injEq, exists_eq_left', Bool.not_true, Bool.not_false, ne_eq, Int.reduceEq, not_true_eq_false, not_false_eq_true, Int.reduceLT, UInt8.reduceLT, UInt8.reduceLE, UInt8.reduceToNat]
      exact retB rfl Kept.start (by simp [h1, h2])
  · simp (maxSteps := 1000000) (disch := omega) only [h1, W_seq, W_region, W_cond, W_block, W_skip, W_label, W_exit, W_goto, W_ret, WO_cons, WO_consG, WO_nil, wantedA_eq, wantB, evOp, ev_tmp, ev_const, ev_fn, WN_some, WN_none, updO_some, updO_none, upd_eq,
 ↓reduceIte, Nat.reduceEqDiff, List.nil_append, List.cons_append, List.append_nil, List.map_cons, List.map_nil, env0_zero, env0_succ, env0_nil, Option.map_some, Option.map_none, seqQ_normal, seqQ_ret, seqQ_exit, seqQ_goto, blockQ_normal, blockQ_ret, blockQ_exit, blockQ_goto, condW_bool, loopQ_ret, loopQ_exit, loopQ_goto, endQ_ret, endQ_normal, keep_mk, keep_st,
 lss_i, leq_i, gtr_i, geq_i, eql_i, neq_i, eql_8, neq_8, lss_8, leq_8, gtr_8, geq_8, eql_s, neq_s, eql_b, neq_b, not_b, by_bys, by_nils, load_cp1, beq_true, beq_false, Bool.not_eq_true', decide_eq_true_eq, decide_eq_false_iff_not, decide_true, decide_false,
 Int.toNat_natCast, Int.ofNat_lt, Int.ofNat_le, Int.natCast_inj, Bool.false_eq_true, Bool.true_eq_false, extPV, List.getElem?_cons_zero, List.getElem?_cons_succ, nilckPV, Int.reduceToNat, Int.reduceLE, true_and, and_true, reduceCtorEq, or_false, false_or, or_true, Option.some.injEq, exists_eq_left', Bool.not_true, Bool.not_false, ne_eq, Int.reduceEq, not_true_eq_false, not_false_eq_true, Int.reduceLT, UInt8.reduceLT, UInt8.reduceLE, UInt8.reduceToNat]
    exact retB rfl Kept.start (by simp [h1])

def idV (t c : Int) (d : Bs) : Bs × Int := if (0 ≤ t ∧ t ≤ 253402300799) ∧ 0 ≤ c ∧ rightA ([], [120], d) = true then (idT t.toNat c.toNat d, 0) else ([], 1)
theorem ID_spec {t c : Int} {d : Bs} (h : d.length ≤ 100000000) (hc : c < 9223372036854775808) : call prog (.fn 265 []) [.int .i64 t, .int .i64 c, .str d] st = some (.tup [.str (idV t c d).1, .int .i64 (idV t c d).2], st) := by
  refine call_of_W prog_265 ?_
  unfold F_date_ID; dsimp only
  have hR := fun S : St => Right_w (st := S) (t := t)
  have hD := fun S : St => isDomain_spec (st := S) h
  by_cases h1 : 0 ≤ t ∧ t ≤ 253402300799
  · rw [show decide (0 ≤ t ∧ t ≤ 253402300799) = true from decide_eq_true h1] at hR
    by_cases h2 : c < 0
    · rw [show idV t c d = ([], 1) by unfold idV; rw [if_neg (by omega)]]
      simp (maxSteps := 1000000) (disch := omega) only [hR, h2, W_seq, W_region, W_cond, W_block, W_skip, W_label, W_exit, W_goto, W_ret, WO_cons, WO_consG, WO_nil, wantedA_eq, wantB, evOp, ev_tmp, ev_const, ev_fn, WN_some, WN_none, updO_some, updO_none, upd_eq,
 ↓reduceIte, Nat.reduceEqDiff, List.nil_append, List.cons_append, List.append_nil, List.map_cons, List.map_nil, env0_zero, env0_succ, env0_nil, Option.map_some, Option.map_none, seqQ_normal, seqQ_ret, seqQ_exit, seqQ_goto, blockQ_normal, blockQ_ret, blockQ_exit, blockQ_goto, condW_bool, loopQ_ret, loopQ_exit, loopQ_goto, endQ_ret, endQ_normal, keep_mk, keep_st,
 lss_i, leq_i, gtr_i, geq_i, eql_i, neq_i, eql_8, neq_8, lss_8, leq_8, gtr_8, geq_8, eql_s, neq_s, eql_b, neq_b, not_b, by_bys, by_nils, load_cp1, beq_true, beq_false, Bool.not_eq_true', decide_eq_true_eq, decide_eq_false_iff_not, decide_true, decide_false,
 Int.toNat_natCast, Int.ofNat_lt, Int.ofNat_le, Int.natCast_inj, Bool.false_eq_true, Bool.true_eq_false, extPV, List.getElem?_cons_zero, List.getElem?_cons_succ, nilckPV, Int.reduceToNat, Int.reduceLE, true_and, and_true, reduceCtorEq, or_false, false_or, or_true, Option.some.injEq, exists_eq_left', Bool.not_true, Bool.not_false, ne_eq, Int.reduceEq, not_true_eq_false, not_false_eq_true, Int.reduceLT, UInt8.reduceLT, UInt8.reduceLE, UInt8.reduceToNat]
      exact retTI rfl rfl Kept.start rfl rfl
    · cases h3 : rightA ([], [120], d) with
      | false =>
        rw [h3] at hD
        rw [show idV t c d = ([], 1) by unfold idV; rw [if_neg (by rw [h3]; simp)]]
        simp (maxSteps := 1000000) (disch := omega) only [hR, h2, hD, W_seq, W_region, W_cond, W_block, W_skip, W_label, W_exit, W_goto, W_ret, WO_cons, WO_consG, WO_nil, wantedA_eq, wantB, evOp, ev_tmp, ev_const, ev_fn, WN_some, WN_none, updO_some, updO_none, upd_eq,
 ↓reduceIte, Nat.reduceEqDiff, List.nil_append, List.cons_append, List.append_nil, List.map_cons, List.map_nil, env0_zero, env0_succ, env0_nil, Option.map_some, Option.map_none, seqQ_normal, seqQ_ret, seqQ_exit, seqQ_goto, blockQ_normal, blockQ_ret, blockQ_exit, blockQ_goto, condW_bool, loopQ_ret, loopQ_exit, loopQ_goto, endQ_ret, endQ_normal, keep_mk, keep_st,
 lss_i, leq_i, gtr_i, geq_i, eql_i, neq_i, eql_8, neq_8, lss_8, leq_8, gtr_8, geq_8, eql_s, neq_s, eql_b, neq_b, not_b, by_bys, by_nils, load_cp1, beq_true, beq_false, Bool.not_eq_true', decide_eq_true_eq, decide_eq_false_iff_not, decide_true, decide_false,
 Int.toNat_natCast, Int.ofNat_lt, Int.ofNat_le, Int.natCast_inj, Bool.false_eq_true, Bool.true_eq_false, extPV, List.getElem?_cons_zero, List.getElem?_cons_succ, nilckPV, Int.reduceToNat, Int.reduceLE, true_and, and_true, reduceCtorEq, or_false, false_or, or_true, Option.some.injEq, exists_eq_left', Bool.not_true, Bool.not_false, ne_eq, Int.reduceEq, not_true_eq_false, not_false_eq_true, Int.reduceLT, UInt8.reduceLT, UInt8.reduceLE, UInt8.reduceToNat]
        exact retTI rfl rfl Kept.start rfl rfl
      | true =>
        rw [h3] at hD
        rw [show idV t c d = (idT t.toNat c.toNat d, 0) by unfold idV; rw [if_pos ⟨h1, by omega, h3⟩]]
        obtain ⟨tn, rfl⟩ : ∃ n : Nat, t = (n : Int) := ⟨t.toNat, by omega⟩
        obtain ⟨cn, rfl⟩ : ∃ n : Nat, c = (n : Int) := ⟨c.toNat, by omega⟩
        have l1 := sg_len 12 tn (Nat.lt_of_lt_of_le (show tn < 9223372036854775808 by omega) (by decide))
        have l2 := sg_len 12 cn (Nat.lt_of_lt_of_le (show cn < 9223372036854775808 by omega) (by decide))
        simp (maxSteps := 1000000) (disch := first | omega | (simp only [List.length_append, List.length_cons, List.length_nil]; omega)) only [hR, h2, hD, cU64, five_spec, adds, W_seq, W_region, W_cond, W_block, W_skip, W_label, W_exit, W_goto, W_ret, WO_cons, WO_consG, WO_nil, wantedA_eq, wantB, evOp, ev_tmp, ev_const, ev_fn, WN_some, WN_none, updO_some, updO_none, upd_eq,
 ↓reduceIte, Nat.reduceEqDiff, List.nil_append, List.cons_append, List.append_nil, List.map_cons, List.map_nil, env0_zero, env0_succ, env0_nil, Option.map_some, Option.map_none, seqQ_normal, seqQ_ret, seqQ_exit, seqQ_goto, blockQ_normal, blockQ_ret, blockQ_exit, blockQ_goto, condW_bool, loopQ_ret, loopQ_exit, loopQ_goto, endQ_ret, endQ_normal, keep_mk, keep_st,
 lss_i, leq_i, gtr_i, geq_i, eql_i, neq_i, eql_8, neq_8, lss_8, leq_8, gtr_8, geq_8, eql_s, neq_s, eql_b, neq_b, not_b, by_bys, by_nils, load_cp1, beq_true, beq_false, Bool.not_eq_true', decide_eq_true_eq, decide_eq_false_iff_not, decide_true, decide_false,
 Int.toNat_natCast, Int.ofNat_lt, Int.ofNat_le, Int.natCast_inj, Bool.false_eq_true, Bool.true_eq_false, extPV, List.getElem?_cons_zero, List.getElem?_cons_succ, nilckPV, Int.reduceToNat, Int.reduceLE, true_and, and_true, reduceCtorEq, or_false, false_or, or_true, Option.some.injEq, exists_eq_left', Bool.not_true, Bool.not_false, ne_eq, Int.reduceEq, not_true_eq_false, not_false_eq_true, Int.reduceLT, UInt8.reduceLT, UInt8.reduceLE, UInt8.reduceToNat]
        exact retTI rfl rfl Kept.start (by simp [idT, locT]) rfl
  · rw [show decide (0 ≤ t ∧ t ≤ 253402300799) = false from decide_eq_false h1] at hR
    rw [show idV t c d = ([], 1) by unfold idV; rw [if_neg (fun q => h1 q.1)]]
    simp (maxSteps := 1000000) (disch := omega) only [hR, W_seq, W_region, W_cond, W_block, W_skip, W_label, W_exit, W_goto, W_ret, WO_cons, WO_consG, WO_nil, wantedA_eq, wantB, evOp, ev_tmp, ev_const, ev_fn, WN_some, WN_none, updO_some, updO_none, upd_eq,
 ↓reduceIte, Nat.reduceEqDiff, List.nil_append, List.cons_append, List.append_nil, List.map_cons, List.map_nil, env0_zero, env0_succ, env0_nil, Option.map_some, Option.map_none, seqQ_normal, seqQ_ret, seqQ_exit, seqQ_goto, blockQ_normal, blockQ_ret, blockQ_exit, blockQ_goto, condW_bool, loopQ_ret, loopQ_exit, loopQ_goto, endQ_ret, endQ_normal, keep_mk, keep_st,
 lss_i, leq_i, gtr_i, geq_i, eql_i, neq_i, eql_8, neq_8, lss_8, leq_8, gtr_8, geq_8, eql_s, neq_s, eql_b, neq_b, not_b, by_bys, by_nils, load_cp1, beq_true, beq_false, Bool.not_eq_true', decide_eq_true_eq, decide_eq_false_iff_not, decide_true, decide_false,
 Int.toNat_natCast, Int.ofNat_lt, Int.ofNat_le, Int.natCast_inj, Bool.false_eq_true, Bool.true_eq_false, extPV, List.getElem?_cons_zero, List.getElem?_cons_succ, nilckPV, Int.reduceToNat, Int.reduceLE, true_and, and_true, reduceCtorEq, or_false, false_or, or_true, Option.some.injEq, exists_eq_left', Bool.not_true, Bool.not_false, ne_eq, Int.reduceEq, not_true_eq_false, not_false_eq_true, Int.reduceLT, UInt8.reduceLT, UInt8.reduceLE, UInt8.reduceToNat]
    exact retTI rfl rfl Kept.start rfl rfl
end Go.Ab

/-
  Rows of one's own in a state that keeps what the caller has.
-/
namespace Go.Ab
set_option linter.unusedVariables false
set_option linter.unusedSimpArgs false
variable {st s : St} {e : Env}

/-! ### Rows of one's own in a state that keeps what the caller has -/
theorem Kept.appV {esz : Nat} {v u w : PV} {xs : List PV} (hk : Kept st s) (h : Own st s esz v xs) (hl : xs.length + 1 ≤ room) :
    ∃ v' s', Ab.appV esz s.tok1 v (.sl esz (.own s.toks.length) [u]) = some (v', s') ∧ Kept st s' ∧ Own st s' esz v' (xs ++ [u]) ∧ s'.boxes = s.boxes := by
  have hk1 := hk.tok1
  have hg : GrewAt s.tok1.boxes st.toks s.tok1.loops s.tok1.low s.tok1 := ⟨rfl, rfl, rfl, hk1.tk⟩
  have h1 := h.tok1
  obtain ⟨g2, o2⟩ := Own.app (ys := xs ++ [u]) hg h1
  refine ⟨_, _, appV_own h1 hl, ⟨?_, ?_, ?_, g2.tk⟩, o2, g2.bx⟩
  · rw [g2.bx]; exact hk1.bx
  · rw [g2.lp]; exact hk1.lp
  · rw [g2.lw]; exact hk1.lw
theorem Kept.leaveOwn {esz : Nat} {v : PV} {xs : List PV} {k : IntKind} {n : Int} (hk : Kept st s) (h : Own st s esz v xs) (hne : xs = [] → v = .nils) :
    Ab.leave st s (.tup [v, .int k n]) = (.tup [newSl st esz xs, .int k n], newS st xs.isEmpty) := by
  have e1 := hk.bx; have e2 := hk.lp; have e3 := hk.tk
  rcases h with ⟨rfl, rfl⟩ | ⟨i, rfl, h2, h3⟩
  · simp [Ab.leave, PV.inB, PV.inB.inBAll, hk.lw, keepRes, keepVals, keepVal, keepLeaf, newSl, newS, e1, e2, e3]
  · by_cases hx : xs = []
    · have := hne hx; cases this
    · simp [Ab.leave, PV.inB, PV.inB.inBAll, hk.lw, keepRes, keepVals, keepVal, keepLeaf, keepTok, newSl, newS, hx, h3, show ¬ i < st.toks.length by omega, e1, e2, e3, St.tok1]
theorem Kept.leaveOwn1 {esz : Nat} {v : PV} {xs : List PV} (hk : Kept st s) (h : Own st s esz v xs) (hne : xs = [] → v = .nils) : Ab.leave st s v = (newSl st esz xs, newS st xs.isEmpty) := by
  have e1 := hk.bx; have e2 := hk.lp; have e3 := hk.tk
  rcases h with ⟨rfl, rfl⟩ | ⟨i, rfl, h2, h3⟩
  · simp [Ab.leave, PV.inB, hk.lw, keepRes, keepVal, keepLeaf, newSl, newS, e1, e2, e3]
  · by_cases hx : xs = []
    · have := hne hx; cases this
    · simp [Ab.leave, PV.inB, hk.lw, keepRes, keepVal, keepLeaf, keepTok, newSl, newS, hx, h3, show ¬ i < st.toks.length by omega, e1, e2, e3, St.tok1]
theorem lit_s {x : Bs} : litFill 1 (List.replicate 1 (.str [])) [(0, .str x)] = some [.str x] := rfl
end Go.Ab

/-
  Ids are read; the law DateUnlike.
-/
namespace Go.Ab
set_option linter.unusedVariables false
set_option linter.unusedSimpArgs false
set_option maxRecDepth 20000
variable {st s : St} {e : Env}

theorem ret2sb {a b : Nat} {t u : Bs} {p q : Bool} (ha : e a = .str t) (hb : e b = .bool p) (hk : Kept st s) (h1 : t = u) (h2 : p = q) : ∃ rv, resOf e s [.tmp a, .tmp b] = some rv ∧ leave st s rv = (.tup [.str u, .bool q], st) := by
  subst h1 h2; exact retV2 ha hb rfl rfl hk ⟨fun _ => rfl, fun _ _ => rfl⟩

theorem hasPrefix_c {a : Bs} {c : UInt8} : decide ([c] <+: a) = decide (a.head? = some c) := by
  cases a with
  | nil => simp
  | cons x r => simp [List.cons_prefix_cons, eq_comm]

theorem sCutPrefix_spec {a : Bs} {c : UInt8} (h : a.length < 4294967281) : call prog (.fn 314 []) [.str a, .str [c]] st = some (.tup [.str (if a.head? = some c then a.drop 1 else a), .bool (decide (a.head? = some c))], st) := by
  refine call_of_W prog_314 ?_
  unfold F_internal_stringslite_CutPrefix; dsimp only
  have hP := fun S : St => slHasPrefix_spec (st := S) (a := a) (b := [c])
  have hl1 : ((([c] : Bs).length : Nat) : Int) = 1 := rfl
  by_cases hc : a.head? = some c
  · have h0 : 1 ≤ a.length := by cases a with | nil => simp at hc | cons x r => simp
    rw [if_pos hc]
    simp only [hasPrefix_c, hc, decide_true] at hP
    simp (maxSteps := 1000000) (disch := omega) only [hP, hc, len_s, hl1, Int.toNat_one, slc_s_lo, W_seq, W_region, W_cond, W_block, W_skip, W_label, W_exit, W_goto, W_ret, WO_cons, WO_consG, WO_nil, wantedA_eq, wantB, evOp, ev_tmp, ev_const, ev_fn, WN_some, WN_none, updO_some, updO_none, upd_eq,
 ↓reduceIte, Nat.reduceEqDiff, List.nil_append, List.cons_append, List.append_nil, List.map_cons, List.map_nil, env0_zero, env0_succ, env0_nil, Option.map_some, Option.map_none, seqQ_normal, seqQ_ret, seqQ_exit, seqQ_goto, blockQ_normal, blockQ_ret, blockQ_exit, blockQ_goto, condW_bool, loopQ_ret, loopQ_exit, loopQ_goto, endQ_ret, endQ_normal, keep_mk, keep_st,
 lss_i, leq_i, gtr_i, geq_i, eql_i, neq_i, eql_8, neq_8, lss_8, leq_8, gtr_8, geq_8, eql_s, neq_s, eql_b, neq_b, not_b, by_bys, by_nils, load_cp1, beq_true, beq_false, Bool.not_eq_true', decide_eq_true_eq, decide_eq_false_iff_not, decide_true, decide_false,
 Int.toNat_natCast, Int.ofNat_lt, Int.ofNat_le, Int.natCast_inj, Bool.false_eq_true, Bool.true_eq_false, extPV, List.getElem?_cons_zero, List.getElem?_cons_succ, nilckPV, Int.reduceToNat, Int.reduceLE, true_and, and_true, reduceCtorEq, or_false, false_or, or_true, Option.some.injEq, exists_eq_left', Bool.not_true, Bool.not_false, ne_eq, Int.reduceEq, not_true_eq_false, not_false_eq_true, Int.reduceLT, UInt8.reduceLT, UInt8.reduceLE, UInt8.reduceToNat]
    exact ret2sb rfl rfl Kept.start rfl rfl
  · rw [if_neg hc]
    simp only [hasPrefix_c, hc, decide_false] at hP
    simp (maxSteps := 1000000) (disch := omega) only [hP, hc, W_seq, W_region, W_cond, W_block, W_skip, W_label, W_exit, W_goto, W_ret, WO_cons, WO_consG, WO_nil, wantedA_eq, wantB, evOp, ev_tmp, ev_const, ev_fn, WN_some, WN_none, updO_some, updO_none, upd_eq,
 ↓reduceIte, Nat.reduceEqDiff, List.nil_append, List.cons_append, List.append_nil, List.map_cons, List.map_nil, env0_zero, env0_succ, env0_nil, Option.map_some, Option.map_none, seqQ_normal, seqQ_ret, seqQ_exit, seqQ_goto, blockQ_normal, blockQ_ret, blockQ_exit, blockQ_goto, condW_bool, loopQ_ret, loopQ_exit, loopQ_goto, endQ_ret, endQ_normal, keep_mk, keep_st,
 lss_i, leq_i, gtr_i, geq_i, eql_i, neq_i, eql_8, neq_8, lss_8, leq_8, gtr_8, geq_8, eql_s, neq_s, eql_b, neq_b, not_b, by_bys, by_nils, load_cp1, beq_true, beq_false, Bool.not_eq_true', decide_eq_true_eq, decide_eq_false_iff_not, decide_true, decide_false,
 Int.toNat_natCast, Int.ofNat_lt, Int.ofNat_le, Int.natCast_inj, Bool.false_eq_true, Bool.true_eq_false, extPV, List.getElem?_cons_zero, List.getElem?_cons_succ, nilckPV, Int.reduceToNat, Int.reduceLE, true_and, and_true, reduceCtorEq, or_false, false_or, or_true, Option.some.injEq, exists_eq_left', Bool.not_true, Bool.not_false, ne_eq, Int.reduceEq, not_true_eq_false, not_false_eq_true, Int.reduceLT, UInt8.reduceLT, UInt8.reduceLE, UInt8.reduceToNat]
    exact ret2sb rfl rfl Kept.start rfl rfl
theorem CutPrefix_spec {a : Bs} {c : UInt8} (h : a.length < 4294967281) : call prog (.fn 305 []) [.str a, .str [c]] st = some (.tup [.str (if a.head? = some c then a.drop 1 else a), .bool (decide (a.head? = some c))], st) := by
  refine call_of_W prog_305 ?_
  unfold F_strings_CutPrefix; dsimp only
  have hP := fun S : St => sCutPrefix_spec (st := S) (c := c) h
  simp (maxSteps := 1000000) (disch := omega) only [hP, W_seq, W_region, W_cond, W_block, W_skip, W_label, W_exit, W_goto, W_ret, WO_cons, WO_consG, WO_nil, wantedA_eq, wantB, evOp, ev_tmp, ev_const, ev_fn, WN_some, WN_none, updO_some, updO_none, upd_eq,
 ↓reduceIte, Nat.reduceEqDiff, List.nil_append, List.cons_append, List.append_nil, List.map_cons, List.map_nil, env0_zero, env0_succ, env0_nil, Option.map_some, Option.map_none, seqQ_normal, seqQ_ret, seqQ_exit, seqQ_goto, blockQ_normal, blockQ_ret, blockQ_exit, blockQ_goto, condW_bool, loopQ_ret, loopQ_exit, loopQ_goto, endQ_ret, endQ_normal, keep_mk, keep_st,
 lss_i, leq_i, gtr_i, geq_i, eql_i, neq_i, eql_8, neq_8, lss_8, leq_8, gtr_8, geq_8, eql_s, neq_s, eql_b, neq_b, not_b, by_bys, by_nils, load_cp1, beq_true, beq_false, Bool.not_eq_true', decide_eq_true_eq, decide_eq_false_iff_not, decide_true, decide_false,
 Int.toNat_natCast, Int.ofNat_lt, Int.ofNat_le, Int.natCast_inj, Bool.false_eq_true, Bool.true_eq_false, extPV, List.getElem?_cons_zero, List.getElem?_cons_succ, nilckPV, Int.reduceToNat, Int.reduceLE, true_and, and_true, reduceCtorEq, or_false, false_or, or_true, Option.some.injEq, exists_eq_left', Bool.not_true, Bool.not_false, ne_eq, Int.reduceEq, not_true_eq_false, not_false_eq_true, Int.reduceLT, UInt8.reduceLT, UInt8.reduceLE, UInt8.reduceToNat]
  exact ret2sb rfl rfl Kept.start rfl rfl

theorem ids_cut {inner rest : Bs} {acc : List Bs} {m : Nat} (hn : ∀ c ∈ inner, c ≠ 62) : idsGo (m + 1) (60 :: (inner ++ 62 :: rest)) acc = if (plainA inner).2 = 0 then idsGo m rest (acc ++ [60 :: (inner ++ [62])]) else ([], 3) := by
  have hix : Lib.index (60 :: (inner ++ 62 :: rest)) [62] = ((60 :: inner).length : Int) := by
    rw [show 60 :: (inner ++ 62 :: rest) = (60 :: inner) ++ 62 :: rest by simp]
    refine index_chr _ _ fun c hc => ?_
    rcases List.mem_cons.1 hc with h | h
    · rw [h]; decide
    · exact hn c h
  have e1 : (Int.toNat ((60 :: inner).length : Int)) = inner.length + 1 := by simp
  have e2 : ((60 :: (inner ++ 62 :: rest)).take (inner.length + 1)).drop 1 = inner := by simp
  have e3 : (60 :: (inner ++ 62 :: rest)).drop (inner.length + 1 + 1) = rest := by simp [List.drop_append]
  have e4 : (60 :: (inner ++ 62 :: rest)).take (inner.length + 1) ++ [62] = 60 :: (inner ++ [62]) := by simp
  rw [idsGo, if_neg (by decide), hix, e1, e2, e3, e4]
  by_cases h : (plainA inner).2 = 0
  · rw [if_pos ⟨by omega, rfl, h⟩, if_pos h]
  · rw [if_neg (fun q => h q.2.2), if_neg h]
theorem ids_no {c : UInt8} {t : Bs} {acc : List Bs} {m : Nat} (h1 : ¬ (c = 32 ∨ c = 9)) (h2 : Lib.index (c :: t) [62] < 0 ∨ c ≠ 60) : idsGo (m + 1) (c :: t) acc = ([], 3) := by
  rw [idsGo, if_neg h1, if_neg]
  rintro ⟨q1, q2, _⟩
  rcases h2 with h | h
  · omega
  · exact h q2

set_option maxHeartbeats 2000000 in
theorem IDs_spec {s : Bs} (hl : s.length ≤ 100000000) : call prog (.fn 267 []) [.str s] st = some (.tup [newSl st 1 ((idsOf s).1.map .str), .int .i64 (idsOf s).2], newS st ((idsOf s).1.map PV.str).isEmpty) := by
  refine call_of_W prog_267 ?_
  unfold F_date_IDs; dsimp only
  obtain ⟨T, hT⟩ : ∃ T, T = idsOf s := ⟨_, rfl⟩
  rw [← hT]
  simp (maxSteps := 1000000) (disch := omega) only [W_seq, W_region, W_cond, W_block, W_skip, W_label, W_exit, W_goto, W_ret, WO_cons, WO_consG, WO_nil, wantedA_eq, wantB, evOp, ev_tmp, ev_const, ev_fn, WN_some, WN_none, updO_some, updO_none, upd_eq,
 ↓reduceIte, Nat.reduceEqDiff, List.nil_append, List.cons_append, List.append_nil, List.map_cons, List.map_nil, env0_zero, env0_succ, env0_nil, Option.map_some, Option.map_none, seqQ_normal, seqQ_ret, seqQ_exit, seqQ_goto, blockQ_normal, blockQ_ret, blockQ_exit, blockQ_goto, condW_bool, loopQ_ret, loopQ_exit, loopQ_goto, endQ_ret, endQ_normal, keep_mk, keep_st,
 lss_i, leq_i, gtr_i, geq_i, eql_i, neq_i, eql_8, neq_8, lss_8, leq_8, gtr_8, geq_8, eql_s, neq_s, eql_b, neq_b, not_b, by_bys, by_nils, load_cp1, beq_true, beq_false, Bool.not_eq_true', decide_eq_true_eq, decide_eq_false_iff_not, decide_true, decide_false,
 Int.toNat_natCast, Int.ofNat_lt, Int.ofNat_le, Int.natCast_inj, Bool.false_eq_true, Bool.true_eq_false, extPV, List.getElem?_cons_zero, List.getElem?_cons_succ, nilckPV, Int.reduceToNat, Int.reduceLE, true_and, and_true, reduceCtorEq, or_false, false_or, or_true, Option.some.injEq, exists_eq_left', Bool.not_true, Bool.not_false, ne_eq, Int.reduceEq, not_true_eq_false, not_false_eq_true, Int.reduceLT, UInt8.reduceLT, UInt8.reduceLE, UInt8.reduceToNat]
  obtain ⟨Q0, hQ0⟩ : ∃ Q0 : Ex → Env → St → Prop, Q0 = endQ st [.tmp 2, .tmp 3] (.tup [newSl st 1 (T.1.map .str), .int .i64 T.2], newS st (T.1.map PV.str).isEmpty) := ⟨_, rfl⟩
  rw [← hQ0]
  obtain ⟨I, hI⟩ : ∃ I : Nat → Env → St → Prop, I = fun k E S => ∃ (r : Bs) (j : Nat) (v : PV) (acc : List Bs), k = r.length ∧ Kept st S ∧ Own st S 1 v (acc.map .str) ∧ (acc = [] → v = .nils) ∧ acc.length + r.length ≤ s.length ∧ T = idsGo (r.length + j + 1) r acc ∧ E 0 = .str r ∧ E 4 = v := ⟨_, rfl⟩
  refine W_loop I ?_ (n := s.length) (by
    rw [hI]
    exact ⟨s, 0, .nils, [], rfl, Kept.start, .inl ⟨rfl, rfl⟩, fun _ => rfl, by simp, hT, rfl, rfl⟩)
  intro k E S hh
  rw [hI] at hh
  obtain ⟨r, j, v, acc, rfl, hk, ho, hne, hal, hTT, h0, h4⟩ := hh
  have hlen : lenPV false v = some (.int .i64 (acc.length : Int)) := by 
    rcases ho with ⟨rfl, h⟩ | ⟨i, rfl, _⟩
    · simp at h; subst h; rfl
    · simp [lenPV]
  have hst : ∀ (n l d : Bs) (B : List (List PV)) T L lo, storePV ⟨B ++ [cA [] [] []], T, L, lo⟩ 3 (.ptr B.length 0) (.agg [.str n, .str l, .str d]) = some ⟨B ++ [cA n l d], T, L, lo⟩ := fun n l d B T L lo => st_aa
  have bad : T = ([], 3) → ∀ (E : Env) (z : List PV), E 2 = .nils → E 3 = .int .i64 3 → Q0 .ret E ⟨S.boxes ++ [z], S.toks, S.loops, S.low⟩ := fun h E z k2 k3 => by
    rw [hQ0, endQ_ret, h]
    exact ⟨.tup [.nils, .int .i64 3], by simp [resOf, rvAll, rv1, k2, k3, notTup, packRes], hk.alloc.leave rfl (fun _ _ => rfl)⟩
  match r, hTT, h0, hal with
  | [], hTT, h0, hal =>
    have e0 : ¬ (([] : Bs) ≠ []) := by simp
    by_cases h64 : 64 < acc.length
    · have e64 : (64 : Int) < (acc.length : Int) := by omega
      have hr : T = ([], 2) := by rw [hTT]; simp [idsGo, h64]
      simp (maxSteps := 1000000) (disch := omega) only [h0, h4, e0, hlen, e64, W_seq, W_region, W_cond, W_block, W_skip, W_label, W_exit, W_goto, W_ret, WO_cons, WO_consG, WO_nil, wantedA_eq, wantB, evOp, ev_tmp, ev_const, ev_fn, WN_some, WN_none, updO_some, updO_none, upd_eq,
 ↓reduceIte, Nat.reduceEqDiff, List.nil_append, List.cons_append, List.append_nil, List.map_cons, List.map_nil, env0_zero, env0_succ, env0_nil, Option.map_some, Option.map_none, seqQ_normal, seqQ_ret, seqQ_exit, seqQ_goto, blockQ_normal, blockQ_ret, blockQ_exit, blockQ_goto, condW_bool, loopQ_ret, loopQ_exit, loopQ_goto, endQ_ret, endQ_normal, keep_mk, keep_st,
 lss_i, leq_i, gtr_i, geq_i, eql_i, neq_i, eql_8, neq_8, lss_8, leq_8, gtr_8, geq_8, eql_s, neq_s, eql_b, neq_b, not_b, by_bys, by_nils, load_cp1, beq_true, beq_false, Bool.not_eq_true', decide_eq_true_eq, decide_eq_false_iff_not, decide_true, decide_false,
 Int.toNat_natCast, Int.ofNat_lt, Int.ofNat_le, Int.natCast_inj, Bool.false_eq_true, Bool.true_eq_false, extPV, List.getElem?_cons_zero, List.getElem?_cons_succ, nilckPV, Int.reduceToNat, Int.reduceLE, true_and, and_true, reduceCtorEq, or_false, false_or, or_true, Option.some.injEq, exists_eq_left', Bool.not_true, Bool.not_false, ne_eq, Int.reduceEq, not_true_eq_false, not_false_eq_true, Int.reduceLT, UInt8.reduceLT, UInt8.reduceLE, UInt8.reduceToNat]
      rw [hQ0, endQ_ret, hr]
      exact ⟨.tup [.nils, .int .i64 2], by simp [resOf, rvAll, rv1, upd_eq, notTup, packRes], hk.leave rfl (fun _ _ => rfl)⟩
    · have e64 : ¬ (64 : Int) < (acc.length : Int) := by omega
      have hr : T = (acc, 0) := by rw [hTT]; simp [idsGo, h64]
      simp (maxSteps := 1000000) (disch := omega) only [h0, h4, e0, hlen, e64, W_seq, W_region, W_cond, W_block, W_skip, W_label, W_exit, W_goto, W_ret, WO_cons, WO_consG, WO_nil, wantedA_eq, wantB, evOp, ev_tmp, ev_const, ev_fn, WN_some, WN_none, updO_some, updO_none, upd_eq,
 ↓reduceIte, Nat.reduceEqDiff, List.nil_append, List.cons_append, List.append_nil, List.map_cons, List.map_nil, env0_zero, env0_succ, env0_nil, Option.map_some, Option.map_none, seqQ_normal, seqQ_ret, seqQ_exit, seqQ_goto, blockQ_normal, blockQ_ret, blockQ_exit, blockQ_goto, condW_bool, loopQ_ret, loopQ_exit, loopQ_goto, endQ_ret, endQ_normal, keep_mk, keep_st,
 lss_i, leq_i, gtr_i, geq_i, eql_i, neq_i, eql_8, neq_8, lss_8, leq_8, gtr_8, geq_8, eql_s, neq_s, eql_b, neq_b, not_b, by_bys, by_nils, load_cp1, beq_true, beq_false, Bool.not_eq_true', decide_eq_true_eq, decide_eq_false_iff_not, decide_true, decide_false,
 Int.toNat_natCast, Int.ofNat_lt, Int.ofNat_le, Int.natCast_inj, Bool.false_eq_true, Bool.true_eq_false, extPV, List.getElem?_cons_zero, List.getElem?_cons_succ, nilckPV, Int.reduceToNat, Int.reduceLE, true_and, and_true, reduceCtorEq, or_false, false_or, or_true, Option.some.injEq, exists_eq_left', Bool.not_true, Bool.not_false, ne_eq, Int.reduceEq, not_true_eq_false, not_false_eq_true, Int.reduceLT, UInt8.reduceLT, UInt8.reduceLE, UInt8.reduceToNat]
      rw [hQ0, endQ_ret, hr]
      refine ⟨.tup [v, .int .i64 0], by rcases ho with ⟨hv, _⟩ | ⟨j, hv, _⟩ <;> simp [resOf, rvAll, rv1, upd_eq, h4, hv, notTup, packRes], ?_⟩
      exact hk.leaveOwn ho (fun h => hne (by simpa using h))
  | c :: t, hTT, h0, hal =>
    have e0 : (c :: t) ≠ [] := by simp
    have hi0 : idxSPV (.str (c :: t)) (.int .i64 0) = some (.b8 c) := by simp [idxSPV, intOf]
    have hlt : (c :: t).length ≤ s.length := by omega
    have hs1 : slcPV 0 (.str (c :: t)) (some (.int .i64 1)) none none = some (.str t) := by
      rw [slc_s_lo (by omega) (by simp)]; rfl
    have next : ∀ (r' : Bs) (v' : PV) (acc' : List Bs) (S' : St) (j' : Nat), r'.length < (c :: t).length → Kept st S' → Own st S' 1 v' (acc'.map .str) → (acc' = [] → v' = .nils) → acc'.length + r'.length ≤ s.length → T = idsGo (r'.length + j' + 1) r' acc' → ∀ E : Env, E 0 = .str r' → E 4 = v' → ∃ m, m < (c :: t).length ∧ I m E S' := fun r' v' acc' S' j' q1 q2 q3 q4 q5 q6 E k0 k4 =>
      ⟨r'.length, q1, by rw [hI]; exact ⟨r', j', v', acc', rfl, q2, q3, q4, q5, q6, k0, k4⟩⟩
    by_cases hb : c = 32 ∨ c = 9
    · have hnx : T = idsGo (t.length + j + 1) t acc := by
        rw [hTT, show (c :: t).length + j + 1 = (t.length + j + 1) + 1 by simp; omega, ids_blank hb]
      by_cases h32 : c = 32
      · have e32 : (c = 32) = True := eq_true h32
        simp (maxSteps := 1000000) (disch := omega) only [h0, h4, eq_true e0, hi0, e32, hs1, loopQ_normal, W_seq, W_region, W_cond, W_block, W_skip, W_label, W_exit, W_goto, W_ret, WO_cons, WO_consG, WO_nil, wantedA_eq, wantB, evOp, ev_tmp, ev_const, ev_fn, WN_some, WN_none, updO_some, updO_none, upd_eq,
 ↓reduceIte, Nat.reduceEqDiff, List.nil_append, List.cons_append, List.append_nil, List.map_cons, List.map_nil, env0_zero, env0_succ, env0_nil, Option.map_some, Option.map_none, seqQ_normal, seqQ_ret, seqQ_exit, seqQ_goto, blockQ_normal, blockQ_ret, blockQ_exit, blockQ_goto, condW_bool, loopQ_ret, loopQ_exit, loopQ_goto, endQ_ret, endQ_normal, keep_mk, keep_st,
 lss_i, leq_i, gtr_i, geq_i, eql_i, neq_i, eql_8, neq_8, lss_8, leq_8, gtr_8, geq_8, eql_s, neq_s, eql_b, neq_b, not_b, by_bys, by_nils, load_cp1, beq_true, beq_false, Bool.not_eq_true', decide_eq_true_eq, decide_eq_false_iff_not, decide_true, decide_false,
 Int.toNat_natCast, Int.ofNat_lt, Int.ofNat_le, Int.natCast_inj, Bool.false_eq_true, Bool.true_eq_false, extPV, List.getElem?_cons_zero, List.getElem?_cons_succ, nilckPV, Int.reduceToNat, Int.reduceLE, true_and, and_true, reduceCtorEq, or_false, false_or, or_true, Option.some.injEq, exists_eq_left', Bool.not_true, Bool.not_false, ne_eq, Int.reduceEq, not_true_eq_false, not_false_eq_true, Int.reduceLT, UInt8.reduceLT, UInt8.reduceLE, UInt8.reduceToNat]
        exact next t v acc S j (by simp) hk ho hne (by simp at hal; omega) hnx _ rfl h4
      · have e9 : (c = 9) = True := eq_true (by rcases hb with h | h; exact absurd h h32; exact h)
        simp (maxSteps := 1000000) (disch := omega) only [h0, h4, eq_true e0, hi0, h32, e9, hs1, loopQ_normal, W_seq, W_region, W_cond, W_block, W_skip, W_label, W_exit, W_goto, W_ret, WO_cons, WO_consG, WO_nil, wantedA_eq, wantB, evOp, ev_tmp, ev_const, ev_fn, WN_some, WN_none, updO_some, updO_none, upd_eq,
 ↓reduceIte, Nat.reduceEqDiff, List.nil_append, List.cons_append, List.append_nil, List.map_cons, List.map_nil, env0_zero, env0_succ, env0_nil, Option.map_some, Option.map_none, seqQ_normal, seqQ_ret, seqQ_exit, seqQ_goto, blockQ_normal, blockQ_ret, blockQ_exit, blockQ_goto, condW_bool, loopQ_ret, loopQ_exit, loopQ_goto, endQ_ret, endQ_normal, keep_mk, keep_st,
 lss_i, leq_i, gtr_i, geq_i, eql_i, neq_i, eql_8, neq_8, lss_8, leq_8, gtr_8, geq_8, eql_s, neq_s, eql_b, neq_b, not_b, by_bys, by_nils, load_cp1, beq_true, beq_false, Bool.not_eq_true', decide_eq_true_eq, decide_eq_false_iff_not, decide_true, decide_false,
 Int.toNat_natCast, Int.ofNat_lt, Int.ofNat_le, Int.natCast_inj, Bool.false_eq_true, Bool.true_eq_false, extPV, List.getElem?_cons_zero, List.getElem?_cons_succ, nilckPV, Int.reduceToNat, Int.reduceLE, true_and, and_true, reduceCtorEq, or_false, false_or, or_true, Option.some.injEq, exists_eq_left', Bool.not_true, Bool.not_false, ne_eq, Int.reduceEq, not_true_eq_false, not_false_eq_true, Int.reduceLT, UInt8.reduceLT, UInt8.reduceLE, UInt8.reduceToNat]
        exact next t v acc S j (by simp) hk ho hne (by simp at hal; omega) hnx _ rfl h4
    · have n32 : ¬ c = 32 := fun h => hb (.inl h)
      have n9 : ¬ c = 9 := fun h => hb (.inr h)
      have hcut : ∀ S : St, call prog (.fn 128 []) [.str (c :: t), .str [62]] S = some (cutAt (c :: t) [62], S) := fun S => Cut_spec (by omega) (by simp)
      have fuel : (c :: t).length + j + 1 = (t.length + j + 1) + 1 := by simp; omega
      rw [fuel] at hTT
      rcases chr_split 62 (c :: t) with ⟨q1, q2⟩ | ⟨n, r, q1, q2⟩
      · have hc1 : cutAt (c :: t) [62] = .tup [.str (c :: t), .str [], .bool false] := by unfold cutAt; rw [q2, if_neg (by decide)]
        rw [hc1] at hcut
        have hT3 : T = ([], 3) := by rw [hTT]; exact ids_no hb (.inl (by rw [q2]; decide))
        have hcp := fun S : St => CutPrefix_spec (st := S) (a := c :: t) (c := 60) (by omega)
        obtain ⟨x, hx⟩ : ∃ x, x = (if (c :: t).head? = some 60 then (c :: t).drop 1 else (c :: t)) := ⟨_, rfl⟩
        have hxl : x.length ≤ 100000000 := by rw [hx]; split <;> simp at hlt ⊢ <;> omega
        rw [← hx] at hcp
        have hP := fun S : St => Plain_spec (st := S) hxl
        obtain ⟨⟨⟨a1, a2, a3⟩, a4⟩, ha⟩ : ∃ q, q = plainA x := ⟨_, rfl⟩
        rw [← ha] at hP
        simp only [aV] at hP
        simp (maxSteps := 1000000) (disch := omega) only [h0, h4, eq_true e0, hi0, n32, n9, hcut, hcp, hP, allocPV, hst, W_seq, W_region, W_cond, W_block, W_skip, W_label, W_exit, W_goto, W_ret, WO_cons, WO_consG, WO_nil, wantedA_eq, wantB, evOp, ev_tmp, ev_const, ev_fn, WN_some, WN_none, updO_some, updO_none, upd_eq,
 ↓reduceIte, Nat.reduceEqDiff, List.nil_append, List.cons_append, List.append_nil, List.map_cons, List.map_nil, env0_zero, env0_succ, env0_nil, Option.map_some, Option.map_none, seqQ_normal, seqQ_ret, seqQ_exit, seqQ_goto, blockQ_normal, blockQ_ret, blockQ_exit, blockQ_goto, condW_bool, loopQ_ret, loopQ_exit, loopQ_goto, endQ_ret, endQ_normal, keep_mk, keep_st,
 lss_i, leq_i, gtr_i, geq_i, eql_i, neq_i, eql_8, neq_8, lss_8, leq_8, gtr_8, geq_8, eql_s, neq_s, eql_b, neq_b, not_b, by_bys, by_nils, load_cp1, beq_true, beq_false, Bool.not_eq_true', decide_eq_true_eq, decide_eq_false_iff_not, decide_true, decide_false,
 Int.toNat_natCast, Int.ofNat_lt, Int.ofNat_le, Int.natCast_inj, Bool.false_eq_true, Bool.true_eq_false, extPV, List.getElem?_cons_zero, List.getElem?_cons_succ, nilckPV, Int.reduceToNat, Int.reduceLE, true_and, and_true, reduceCtorEq, or_false, false_or, or_true, Option.some.injEq, exists_eq_left', Bool.not_true, Bool.not_false, ne_eq, Int.reduceEq, not_true_eq_false, not_false_eq_true, Int.reduceLT, UInt8.reduceLT, UInt8.reduceLE, UInt8.reduceToNat]
        exact bad hT3 _ _ rfl rfl
      · have hix : Lib.index (c :: t) [62] = (n.length : Int) := by rw [q1]; exact index_chr _ _ q2
        have hn62 : n.length + 1 + r.length = (c :: t).length := by rw [q1]; simp; omega
        have hc1 : cutAt (c :: t) [62] = .tup [.str n, .str r, .bool true] := by
          unfold cutAt
          rw [hix, if_pos (by omega), Int.toNat_natCast, q1]
          simp [List.drop_append]
        rw [hc1] at hcut
        have hcp := fun S : St => CutPrefix_spec (st := S) (a := n) (c := 60) (by omega)
        by_cases hh : n.head? = some 60
        · obtain ⟨inner, rfl⟩ : ∃ inner, n = 60 :: inner := by
            cases n with
            | nil => simp at hh
            | cons y z => simp at hh; exact ⟨z, by rw [hh]⟩
          simp only [List.head?_cons, if_true, List.drop_succ_cons, List.drop_zero, decide_true] at hcp
          have hin : ∀ x ∈ inner, x ≠ 62 := fun x hx => q2 x (by simp [hx])
          simp only [List.cons_append, List.cons.injEq] at q1
          obtain ⟨rfl, rfl⟩ := q1
          rw [ids_cut hin] at hTT
          have hxl : inner.length ≤ 100000000 := by simp at hn62 hlt; omega
          have hP := fun S : St => Plain_spec (st := S) hxl
          obtain ⟨⟨⟨a1, a2, a3⟩, a4⟩, ha⟩ : ∃ q, q = plainA inner := ⟨_, rfl⟩
          rw [← ha] at hP hTT
          simp only [aV] at hP
          by_cases h40 : a4 = 0
          · subst h40
            simp only [if_true] at hTT
            have hkb : Kept st ⟨S.boxes ++ [cA a1 a2 a3], S.toks, S.loops, S.low⟩ := hk.alloc
            have hob : Own st ⟨S.boxes ++ [cA a1 a2 a3], S.toks, S.loops, S.low⟩ 1 v (acc.map .str) := ho
            have hx62 : ((60 :: inner).length + ([62] : Bs).length) ≤ 9223372036854775807 := by simp at hn62 hlt ⊢; omega
            obtain ⟨v1, S1, b1, k1, o1, _⟩ := hkb.appV (u := .str (60 :: (inner ++ [62]))) (w := v) hob (by simp only [List.length_map, room]; omega)
            simp (maxSteps := 1000000) (disch := omega) only [h0, h4, eq_true e0, hi0, n32, n9, hcut, hcp, hP, allocPV, hst, adds hx62, lit_s, freshT_eq, b1, loopQ_normal, W_seq, W_region, W_cond, W_block, W_skip, W_label, W_exit, W_goto, W_ret, WO_cons, WO_consG, WO_nil, wantedA_eq, wantB, evOp, ev_tmp, ev_const, ev_fn, WN_some, WN_none, updO_some, updO_none, upd_eq,
 ↓reduceIte, Nat.reduceEqDiff, List.nil_append, List.cons_append, List.append_nil, List.map_cons, List.map_nil, env0_zero, env0_succ, env0_nil, Option.map_some, Option.map_none, seqQ_normal, seqQ_ret, seqQ_exit, seqQ_goto, blockQ_normal, blockQ_ret, blockQ_exit, blockQ_goto, condW_bool, loopQ_ret, loopQ_exit, loopQ_goto, endQ_ret, endQ_normal, keep_mk, keep_st,
 lss_i, leq_i, gtr_i, geq_i, eql_i, neq_i, eql_8, neq_8, lss_8, leq_8, gtr_8, geq_8, eql_s, neq_s, eql_b, neq_b, not_b, by_bys, by_nils, load_cp1, beq_true, beq_false, Bool.not_eq_true', decide_eq_true_eq, decide_eq_false_iff_not, decide_true, decide_false,
 Int.toNat_natCast, Int.ofNat_lt, Int.ofNat_le, Int.natCast_inj, Bool.false_eq_true, Bool.true_eq_false, extPV, List.getElem?_cons_zero, List.getElem?_cons_succ, nilckPV, Int.reduceToNat, Int.reduceLE, true_and, and_true, reduceCtorEq, or_false, false_or, or_true, Option.some.injEq, exists_eq_left', Bool.not_true, Bool.not_false, ne_eq, Int.reduceEq, not_true_eq_false, not_false_eq_true, Int.reduceLT, UInt8.reduceLT, UInt8.reduceLE, UInt8.reduceToNat]
            exact next r v1 (acc ++ [60 :: (inner ++ [62])]) S1 ((inner ++ 62 :: r).length + j - r.length) (by simp at hn62 ⊢; omega) k1 (by rw [List.map_append]; exact o1) (fun h => by simp at h) (by simp at hal hn62 ⊢; omega) (by rw [hTT]; congr 1; simp at hn62 ⊢; omega) _ rfl rfl
          · rw [if_neg h40] at hTT
            simp (maxSteps := 1000000) (disch := omega) only [h0, h4, eq_true e0, hi0, n32, n9, hcut, hcp, hP, allocPV, hst, h40, W_seq, W_region, W_cond, W_block, W_skip, W_label, W_exit, W_goto, W_ret, WO_cons, WO_consG, WO_nil, wantedA_eq, wantB, evOp, ev_tmp, ev_const, ev_fn, WN_some, WN_none, updO_some, updO_none, upd_eq,
 ↓reduceIte, Nat.reduceEqDiff, List.nil_append, List.cons_append, List.append_nil, List.map_cons, List.map_nil, env0_zero, env0_succ, env0_nil, Option.map_some, Option.map_none, seqQ_normal, seqQ_ret, seqQ_exit, seqQ_goto, blockQ_normal, blockQ_ret, blockQ_exit, blockQ_goto, condW_bool, loopQ_ret, loopQ_exit, loopQ_goto, endQ_ret, endQ_normal, keep_mk, keep_st,
 lss_i, leq_i, gtr_i, geq_i, eql_i, neq_i, eql_8, neq_8, lss_8, leq_8, gtr_8, geq_8, eql_s, neq_s, eql_b, neq_b, not_b, by_bys, by_nils, load_cp1, beq_true, beq_false, Bool.not_eq_true', decide_eq_true_eq, decide_eq_false_iff_not, decide_true, decide_false,
 Int.toNat_natCast, Int.ofNat_lt, Int.ofNat_le, Int.natCast_inj, Bool.false_eq_true, Bool.true_eq_false, extPV, List.getElem?_cons_zero, List.getElem?_cons_succ, nilckPV, Int.reduceToNat, Int.reduceLE, true_and, and_true, reduceCtorEq, or_false, false_or, or_true, Option.some.injEq, exists_eq_left', Bool.not_true, Bool.not_false, ne_eq, Int.reduceEq, not_true_eq_false, not_false_eq_true, Int.reduceLT, UInt8.reduceLT, UInt8.reduceLE, UInt8.reduceToNat]
            exact bad hTT _ _ rfl rfl
        · rw [if_neg hh, show decide (n.head? = some 60) = false from decide_eq_false hh] at hcp
          have hT3 : T = ([], 3) := by
            rw [hTT]
            refine ids_no hb (.inr ?_)
            rintro rfl
            cases n with
            | nil => simp at q1
            | cons y z => simp at q1 hh; exact hh q1.1.symm
          have hP := fun S : St => Plain_spec (st := S) (s := n) (by omega)
          obtain ⟨⟨⟨a1, a2, a3⟩, a4⟩, ha⟩ : ∃ q, q = plainA n := ⟨_, rfl⟩
          rw [← ha] at hP
          simp only [aV] at hP
          simp (maxSteps := 1000000) (disch := omega) only [h0, h4, eq_true e0, hi0, n32, n9, hcut, hcp, hP, allocPV, hst, W_seq, W_region, W_cond, W_block, W_skip, W_label, W_exit, W_goto, W_ret, WO_cons, WO_consG, WO_nil, wantedA_eq, wantB, evOp, ev_tmp, ev_const, ev_fn, WN_some, WN_none, updO_some, updO_none, upd_eq,
 ↓reduceIte, Nat.reduceEqDiff, List.nil_append, List.cons_append, List.append_nil, List.map_cons, List.map_nil, env0_zero, env0_succ, env0_nil, Option.map_some, Option.map_none, seqQ_normal, seqQ_ret, seqQ_exit, seqQ_goto, blockQ_normal, blockQ_ret, blockQ_exit, blockQ_goto, condW_bool, loopQ_ret, loopQ_exit, loopQ_goto, endQ_ret, endQ_normal, keep_mk, keep_st,
 lss_i, leq_i, gtr_i, geq_i, eql_i, neq_i, eql_8, neq_8, lss_8, leq_8, gtr_8, geq_8, eql_s, neq_s, eql_b, neq_b, not_b, by_bys, by_nils, load_cp1, beq_true, beq_false, Bool.not_eq_true', decide_eq_true_eq, decide_eq_false_iff_not, decide_true, decide_false,
 Int.toNat_natCast, Int.ofNat_lt, Int.ofNat_le, Int.natCast_inj, Bool.false_eq_true, Bool.true_eq_false, extPV, List.getElem?_cons_zero, List.getElem?_cons_succ, nilckPV, Int.reduceToNat, Int.reduceLE, true_and, and_true, reduceCtorEq, or_false, false_or, or_true, Option.some.injEq, exists_eq_left', Bool.not_true, Bool.not_false, ne_eq, Int.reduceEq, not_true_eq_false, not_false_eq_true, Int.reduceLT, UInt8.reduceLT, UInt8.reduceLE, UInt8.reduceToNat]
          exact bad hT3 _ _ rfl rfl

theorem al20_2 : evV prog 400 (.fn 260 []) [] ⟨[], [true, true], [], 0⟩ = some (.bool true, ⟨[], [true, true], [], 0⟩) := by kernel_rfl

end Go.Ab

/-
  The document's addresses: parts, letters, atoms, domains.
-/
namespace Go.Ab
set_option linter.unusedVariables false
set_option linter.unusedSimpArgs false
set_option maxRecDepth 20000
variable {st s : St} {e : Env}

theorem split_step {l : Bs} {by_ : UInt8} {i f : Nat} (hf : f ≤ i) (hi : i < l.length) (hb : l.getD i 0 = by_) : splitOn by_ ((l.take i).drop f) (l.drop i) = (l.take i).drop f :: splitOn by_ ((l.take (i + 1)).drop (i + 1)) (l.drop (i + 1)) := by
  have hd : l.drop i = l.getD i 0 :: l.drop (i + 1) := by rw [List.drop_eq_getElem_cons hi]; simp [List.getD, hi]
  rw [hd, splitOn, if_pos hb, List.drop_of_length_le (l := l.take (i + 1)) (by simp; omega)]
theorem split_go {l : Bs} {by_ : UInt8} {i f : Nat} (hf : f ≤ i) (hi : i < l.length) (hb : ¬ l.getD i 0 = by_) : splitOn by_ ((l.take i).drop f) (l.drop i) = splitOn by_ ((l.take (i + 1)).drop f) (l.drop (i + 1)) := by
  have hd : l.drop i = l.getD i 0 :: l.drop (i + 1) := by rw [List.drop_eq_getElem_cons hi]; simp [List.getD, hi]
  rw [hd, splitOn, if_neg hb]
  congr 1
  rw [List.take_add_one, List.drop_append_of_le_length (by simp; omega)]
  simp [List.getD, hi]

set_option maxHeartbeats 1000000 in
theorem Parts_spec {l : Bs} {c : UInt8} (hl : l.length ≤ 100000000) : call prog (.fn 215 []) [.str l, .b8 c] st = some (newSl st 1 ((splitOn c [] l).map .str), st.tok1) := by
  refine call_of_W prog_215 ?_
  unfold F_posthornref04_Parts; dsimp only
  obtain ⟨T, hT⟩ : ∃ T, T = splitOn c [] l := ⟨_, rfl⟩
  rw [← hT]
  simp (maxSteps := 1000000) (disch := omega) only [W_seq, W_region, W_cond, W_block, W_skip, W_label, W_exit, W_goto, W_ret, WO_cons, WO_consG, WO_nil, wantedA_eq, wantB, evOp, ev_tmp, ev_const, ev_fn, WN_some, WN_none, updO_some, updO_none, upd_eq,
 ↓reduceIte, Nat.reduceEqDiff, List.nil_append, List.cons_append, List.append_nil, List.map_cons, List.map_nil, env0_zero, env0_succ, env0_nil, Option.map_some, Option.map_none, seqQ_normal, seqQ_ret, seqQ_exit, seqQ_goto, blockQ_normal, blockQ_ret, blockQ_exit, blockQ_goto, condW_bool, loopQ_ret, loopQ_exit, loopQ_goto, endQ_ret, endQ_normal, keep_mk, keep_st,
 lss_i, leq_i, gtr_i, geq_i, eql_i, neq_i, eql_8, neq_8, lss_8, leq_8, gtr_8, geq_8, eql_s, neq_s, eql_b, neq_b, not_b, by_bys, by_nils, load_cp1, beq_true, beq_false, Bool.not_eq_true', decide_eq_true_eq, decide_eq_false_iff_not, decide_true, decide_false,
 Int.toNat_natCast, Int.ofNat_lt, Int.ofNat_le, Int.natCast_inj, Bool.false_eq_true, Bool.true_eq_false, extPV, List.getElem?_cons_zero, List.getElem?_cons_succ, nilckPV, Int.reduceToNat, Int.reduceLE, true_and, and_true, reduceCtorEq, or_false, false_or, or_true, Option.some.injEq, exists_eq_left', Bool.not_true, Bool.not_false, ne_eq, Int.reduceEq, not_true_eq_false, not_false_eq_true, Int.reduceLT, UInt8.reduceLT, UInt8.reduceLE, UInt8.reduceToNat]
  obtain ⟨Q0, hQ0⟩ : ∃ Q0 : Ex → Env → St → Prop, Q0 = endQ st [.tmp 4] (newSl st 1 (T.map .str), st.tok1) := ⟨_, rfl⟩
  rw [← hQ0]
  obtain ⟨I, hI⟩ : ∃ I : Nat → Env → St → Prop, I = fun k E S => ∃ (i f : Nat) (v : PV) (dn : List Bs), k = l.length + 1 - i ∧ f ≤ i ∧ i ≤ l.length + 1 ∧ Kept st S ∧ Own st S 1 v (dn.map .str) ∧ (dn = [] → v = .nils) ∧ dn.length ≤ i ∧ (if i ≤ l.length then T = dn ++ splitOn c ((l.take i).drop f) (l.drop i) ∧ f ≤ l.length else T = dn ∧ dn ≠ []) ∧ E 0 = .str l ∧ E 1 = .b8 c ∧ E 5 = v ∧ E 6 = .int .i64 (f : Int) ∧ E 7 = .int .i64 (i : Int) := ⟨_, rfl⟩
  refine W_loop I ?_ (n := l.length + 1) (by
    rw [hI]
    exact ⟨0, 0, .nils, [], rfl, by omega, by omega, Kept.start, .inl ⟨rfl, rfl⟩, fun _ => rfl, by simp, by rw [if_pos (by omega)]; exact ⟨by simpa using hT, by omega⟩, rfl, rfl, rfl, rfl, rfl⟩)
  intro k E S hh
  rw [hI] at hh
  obtain ⟨i, f, v, dn, rfl, hfi, hil, hk, ho, hne, hdi, hTT, h0, h1, h5, h6, h7⟩ := hh
  by_cases hlt : i ≤ l.length
  · rw [if_pos hlt] at hTT
    obtain ⟨hTT, hfl⟩ := hTT
    have hs : slcPV 0 (.str l) (some (.int .i64 (f : Int))) (some (.int .i64 (i : Int))) none = some (.str ((l.take i).drop f)) := by
      rw [slc_s (by omega) (by omega) (by omega)]; rfl
    obtain ⟨v1, S1, b1, k1, o1, _⟩ := hk.appV (u := .str ((l.take i).drop f)) (w := v) ho (by simp only [List.length_map, room]; omega)
    by_cases he : i = l.length
    · have he' : ((i : Int) = (l.length : Int)) := by omega
      simp (maxSteps := 1000000) (disch := omega) only [h0, h1, h5, h6, h7, len_s, hlt, eq_true he, hs, lit_s, freshT_eq, b1, add_n, loopQ_normal, W_seq, W_region, W_cond, W_block, W_skip, W_label, W_exit, W_goto, W_ret, WO_cons, WO_consG, WO_nil, wantedA_eq, wantB, evOp, ev_tmp, ev_const, ev_fn, WN_some, WN_none, updO_some, updO_none, upd_eq,
 ↓reduceIte, Nat.reduceEqDiff, List.nil_append, List.cons_append, List.append_nil, List.map_cons, List.map_nil, env0_zero, env0_succ, env0_nil, Option.map_some, Option.map_none, seqQ_normal, seqQ_ret, seqQ_exit, seqQ_goto, blockQ_normal, blockQ_ret, blockQ_exit, blockQ_goto, condW_bool, loopQ_ret, loopQ_exit, loopQ_goto, endQ_ret, endQ_normal, keep_mk, keep_st,
 lss_i, leq_i, gtr_i, geq_i, eql_i, neq_i, eql_8, neq_8, lss_8, leq_8, gtr_8, geq_8, eql_s, neq_s, eql_b, neq_b, not_b, by_bys, by_nils, load_cp1, beq_true, beq_false, Bool.not_eq_true', decide_eq_true_eq, decide_eq_false_iff_not, decide_true, decide_false,
 Int.toNat_natCast, Int.ofNat_lt, Int.ofNat_le, Int.natCast_inj, Bool.false_eq_true, Bool.true_eq_false, extPV, List.getElem?_cons_zero, List.getElem?_cons_succ, nilckPV, Int.reduceToNat, Int.reduceLE, true_and, and_true, reduceCtorEq, or_false, false_or, or_true, Option.some.injEq, exists_eq_left', Bool.not_true, Bool.not_false, ne_eq, Int.reduceEq, not_true_eq_false, not_false_eq_true, Int.reduceLT, UInt8.reduceLT, UInt8.reduceLE, UInt8.reduceToNat]
      refine ⟨l.length + 1 - (i + 1), by omega, ?_⟩
      rw [hI]
      refine ⟨i + 1, i + 1, v1, dn ++ [(l.take i).drop f], rfl, by omega, by omega, k1, by rw [List.map_append]; exact o1, fun h => by simp at h, by simp; omega, ?_, h0, h1, rfl, rfl, rfl⟩
      rw [if_neg (by omega)]
      refine ⟨?_, by simp⟩
      rw [hTT, he, List.drop_length]; simp [splitOn]
    · obtain ⟨x, hx⟩ : ∃ x, x = l.getD i 0 := ⟨_, rfl⟩
      have he2 : ¬ (i = l.length) := he
      by_cases hb : x = c
      · simp (maxSteps := 1000000) (disch := omega) only [h0, h1, h5, h6, h7, len_s, hlt, he2, idx_s, ← hx, eq_true hb, hs, lit_s, freshT_eq, b1, add_n, loopQ_normal, W_seq, W_region, W_cond, W_block, W_skip, W_label, W_exit, W_goto, W_ret, WO_cons, WO_consG, WO_nil, wantedA_eq, wantB, evOp, ev_tmp, ev_const, ev_fn, WN_some, WN_none, updO_some, updO_none, upd_eq,
 ↓reduceIte, Nat.reduceEqDiff, List.nil_append, List.cons_append, List.append_nil, List.map_cons, List.map_nil, env0_zero, env0_succ, env0_nil, Option.map_some, Option.map_none, seqQ_normal, seqQ_ret, seqQ_exit, seqQ_goto, blockQ_normal, blockQ_ret, blockQ_exit, blockQ_goto, condW_bool, loopQ_ret, loopQ_exit, loopQ_goto, endQ_ret, endQ_normal, keep_mk, keep_st,
 lss_i, leq_i, gtr_i, geq_i, eql_i, neq_i, eql_8, neq_8, lss_8, leq_8, gtr_8, geq_8, eql_s, neq_s, eql_b, neq_b, not_b, by_bys, by_nils, load_cp1, beq_true, beq_false, Bool.not_eq_true', decide_eq_true_eq, decide_eq_false_iff_not, decide_true, decide_false,
 Int.toNat_natCast, Int.ofNat_lt, Int.ofNat_le, Int.natCast_inj, Bool.false_eq_true, Bool.true_eq_false, extPV, List.getElem?_cons_zero, List.getElem?_cons_succ, nilckPV, Int.reduceToNat, Int.reduceLE, true_and, and_true, reduceCtorEq, or_false, false_or, or_true, Option.some.injEq, exists_eq_left', Bool.not_true, Bool.not_false, ne_eq, Int.reduceEq, not_true_eq_false, not_false_eq_true, Int.reduceLT, UInt8.reduceLT, UInt8.reduceLE, UInt8.reduceToNat]
        refine ⟨l.length + 1 - (i + 1), by omega, ?_⟩
        rw [hI]
        refine ⟨i + 1, i + 1, v1, dn ++ [(l.take i).drop f], rfl, by omega, by omega, k1, by rw [List.map_append]; exact o1, fun h => by simp at h, by simp; omega, ?_, h0, h1, rfl, rfl, rfl⟩
        rw [if_pos (by omega)]
        refine ⟨?_, by omega⟩
        rw [hTT, split_step hfi (by omega) (by rw [← hx]; exact hb)]; simp
      · simp (maxSteps := 1000000) (disch := omega) only [h0, h1, h5, h6, h7, len_s, hlt, he2, idx_s, ← hx, hb, add_n, loopQ_normal, W_seq, W_region, W_cond, W_block, W_skip, W_label, W_exit, W_goto, W_ret, WO_cons, WO_consG, WO_nil, wantedA_eq, wantB, evOp, ev_tmp, ev_const, ev_fn, WN_some, WN_none, updO_some, updO_none, upd_eq,
 ↓reduceIte, Nat.reduceEqDiff, List.nil_append, List.cons_append, List.append_nil, List.map_cons, List.map_nil, env0_zero, env0_succ, env0_nil, Option.map_some, Option.map_none, seqQ_normal, seqQ_ret, seqQ_exit, seqQ_goto, blockQ_normal, blockQ_ret, blockQ_exit, blockQ_goto, condW_bool, loopQ_ret, loopQ_exit, loopQ_goto, endQ_ret, endQ_normal, keep_mk, keep_st,
 lss_i, leq_i, gtr_i, geq_i, eql_i, neq_i, eql_8, neq_8, lss_8, leq_8, gtr_8, geq_8, eql_s, neq_s, eql_b, neq_b, not_b, by_bys, by_nils, load_cp1, beq_true, beq_false, Bool.not_eq_true', decide_eq_true_eq, decide_eq_false_iff_not, decide_true, decide_false,
 Int.toNat_natCast, Int.ofNat_lt, Int.ofNat_le, Int.natCast_inj, Bool.false_eq_true, Bool.true_eq_false, extPV, List.getElem?_cons_zero, List.getElem?_cons_succ, nilckPV, Int.reduceToNat, Int.reduceLE, true_and, and_true, reduceCtorEq, or_false, false_or, or_true, Option.some.injEq, exists_eq_left', Bool.not_true, Bool.not_false, ne_eq, Int.reduceEq, not_true_eq_false, not_false_eq_true, Int.reduceLT, UInt8.reduceLT, UInt8.reduceLE, UInt8.reduceToNat]
        refine ⟨l.length + 1 - (i + 1), by omega, ?_⟩
        rw [hI]
        refine ⟨i + 1, f, v, dn, rfl, by omega, by omega, hk, ho, hne, by omega, ?_, h0, h1, h5, h6, rfl⟩
        rw [if_pos (by omega)]
        exact ⟨by rw [hTT, split_go hfi (by omega) (by rw [← hx]; exact hb)], hfl⟩
  · rw [if_neg hlt] at hTT
    obtain ⟨hTT, hdn⟩ := hTT
    simp (maxSteps := 1000000) (disch := omega) only [h0, h1, h5, h6, h7, len_s, hlt, W_seq, W_region, W_cond, W_block, W_skip, W_label, W_exit, W_goto, W_ret, WO_cons, WO_consG, WO_nil, wantedA_eq, wantB, evOp, ev_tmp, ev_const, ev_fn, WN_some, WN_none, updO_some, updO_none, upd_eq,
 ↓reduceIte, Nat.reduceEqDiff, List.nil_append, List.cons_append, List.append_nil, List.map_cons, List.map_nil, env0_zero, env0_succ, env0_nil, Option.map_some, Option.map_none, seqQ_normal, seqQ_ret, seqQ_exit, seqQ_goto, blockQ_normal, blockQ_ret, blockQ_exit, blockQ_goto, condW_bool, loopQ_ret, loopQ_exit, loopQ_goto, endQ_ret, endQ_normal, keep_mk, keep_st,
 lss_i, leq_i, gtr_i, geq_i, eql_i, neq_i, eql_8, neq_8, lss_8, leq_8, gtr_8, geq_8, eql_s, neq_s, eql_b, neq_b, not_b, by_bys, by_nils, load_cp1, beq_true, beq_false, Bool.not_eq_true', decide_eq_true_eq, decide_eq_false_iff_not, decide_true, decide_false,
 Int.toNat_natCast, Int.ofNat_lt, Int.ofNat_le, Int.natCast_inj, Bool.false_eq_true, Bool.true_eq_false, extPV, List.getElem?_cons_zero, List.getElem?_cons_succ, nilckPV, Int.reduceToNat, Int.reduceLE, true_and, and_true, reduceCtorEq, or_false, false_or, or_true, Option.some.injEq, exists_eq_left', Bool.not_true, Bool.not_false, ne_eq, Int.reduceEq, not_true_eq_false, not_false_eq_true, Int.reduceLT, UInt8.reduceLT, UInt8.reduceLE, UInt8.reduceToNat]
    rw [hQ0, endQ_ret, hTT]
    refine ⟨v, by rcases ho with ⟨hv, _⟩ | ⟨j, hv, _⟩ <;> simp [resOf, rvAll, rv1, upd_eq, h5, hv, notTup, packRes], ?_⟩
    rw [hk.leaveOwn1 ho (fun h => hne (by simpa using h))]
    cases dn with
    | nil => exact absurd rfl hdn
    | cons a r => rfl

theorem guardV_un {A : AP} {g : Nat} {b : Bool} {d : Option Nat} {op : AOp} {r : List AOper} {Q : Env → St → Prop} : guardV A .undef g b d op r e st Q = WO A r (updO e d .undef) st Q := rfl
theorem Letter_spec {c : UInt8} : call prog (.fn 220 []) [.b8 c] st = some (.bool (alnC c), st) := by
  refine call_of_W prog_220 ?_
  unfold F_posthornref07_Letter; dsimp only
  have fin : ∀ {E : Env} (b : Bool), E 2 = .bool b → b = alnC c → ∃ rv, resOf E { boxes := st.boxes, toks := st.toks, loops := st.loops, low := st.boxes.length } [.tmp 2] = some rv ∧ leave st { boxes := st.boxes, toks := st.toks, loops := st.loops, low := st.boxes.length } rv = (.bool (alnC c), st) :=
    fun b h hb => retB h Kept.start hb
  simp (maxSteps := 1000000) (disch := omega) only [guardV_un, W_seq, W_region, W_cond, W_block, W_skip, W_label, W_exit, W_goto, W_ret, WO_cons, WO_consG3, guardV_bool, guardT_tt, guardT_ff, guardT_tf, guardT_ft, condW_imp, imp_tt, imp_ff, imp_tf, imp_ft, imp_F, imp_T, implies_true, Decidable.not_not, forall_const, and_self, Bool.not_eq_false', WO_nil, evOp, ev_tmp, ev_const, ev_fn, WN_some, WN_none, updO_some, updO_none, upd_eq,
 ↓reduceIte, Nat.reduceEqDiff, List.nil_append, List.cons_append, List.append_nil, List.map_cons, List.map_nil, env0_zero, env0_succ, env0_nil, Option.map_some, Option.map_none, seqQ_normal, seqQ_ret, seqQ_exit, seqQ_goto, blockQ_normal, blockQ_ret, blockQ_exit, blockQ_goto, loopQ_ret, loopQ_exit, loopQ_goto, endQ_ret, endQ_normal, keep_mk, keep_st,
 lss_i, leq_i, gtr_i, geq_i, eql_i, neq_i, eql_8, neq_8, lss_8, leq_8, gtr_8, geq_8, eql_s, neq_s, eql_b, neq_b, not_b, by_bys, by_nils, load_cp1, beq_true, beq_false, Bool.not_eq_true', decide_eq_true_eq, decide_eq_false_iff_not, decide_true, decide_false,
 Int.toNat_natCast, Int.ofNat_lt, Int.ofNat_le, Int.natCast_inj, Bool.false_eq_true, Bool.true_eq_false, extPV, List.getElem?_cons_zero, List.getElem?_cons_succ, nilckPV, Int.reduceToNat, Int.reduceLE, true_and, and_true, reduceCtorEq, or_false, false_or, or_true, Option.some.injEq, exists_eq_left', Bool.not_true, Bool.not_false, ne_eq, Int.reduceEq, not_true_eq_false, not_false_eq_true, Int.reduceLT, UInt8.reduceLT, UInt8.reduceLE, UInt8.reduceToNat]
  repeat' (first | refine And.intro ?_ ?_ | intro q)
  all_goals first | exact fin true rfl (by simp only [alnC, *, decide_true, decide_false, Bool.and_true, Bool.true_and, Bool.and_false, Bool.false_and, Bool.or_true, Bool.true_or, Bool.or_false, Bool.false_or, Bool.not_true, Bool.not_false, not_true_eq_false, not_false_eq_true]) | exact fin false rfl (by simp only [alnC, *, decide_true, decide_false, Bool.and_true, Bool.true_and, Bool.and_false, Bool.false_and, Bool.or_true, Bool.true_or, Bool.or_false, Bool.false_or, Bool.not_true, Bool.not_false, not_true_eq_false, not_false_eq_true]) | exact fin _ rfl (by simp only [alnC, *, decide_true, decide_false, Bool.and_true, Bool.true_and, Bool.and_false, Bool.false_and, Bool.or_true, Bool.true_or, Bool.or_false, Bool.false_or, Bool.not_true, Bool.not_false, not_true_eq_false, not_false_eq_true])

theorem has_one (c : UInt8) : hasB signs [c] = signs.contains c := by
  have := all8 (p := fun c => hasB signs [c] == signs.contains c) (by kernel_rfl) c
  simpa only [beq_iff_eq] using this
theorem take_one {l : Bs} {i : Nat} (h : i < l.length) : (l.take (i + 1)).drop i = [l.getD i 0] := by
  rw [List.take_add_one, List.drop_append_of_le_length (by simp; omega), List.drop_of_length_le (by simp; omega)]
  simp [List.getD, h]

theorem rAtom_spec {l : Bs} (hl : l.length ≤ 100000000) : call prog (.fn 219 []) [.str l] st = some (.bool (atomB l), st) := by
  refine call_of_W prog_219 ?_
  unfold F_posthornref07_Atom; dsimp only
  simp (maxSteps := 1000000) (disch := omega) only [len_s, W_seq, W_region, W_cond, W_block, W_skip, W_label, W_exit, W_goto, W_ret, WO_cons, WO_consG3, guardV_bool, guardT_tt, guardT_ff, guardT_tf, guardT_ft, condW_imp, imp_tt, imp_ff, imp_tf, imp_ft, imp_F, imp_T, implies_true, Decidable.not_not, forall_const, and_self, Bool.not_eq_false', WO_nil, evOp, ev_tmp, ev_const, ev_fn, WN_some, WN_none, updO_some, updO_none, upd_eq,
 ↓reduceIte, Nat.reduceEqDiff, List.nil_append, List.cons_append, List.append_nil, List.map_cons, List.map_nil, env0_zero, env0_succ, env0_nil, Option.map_some, Option.map_none, seqQ_normal, seqQ_ret, seqQ_exit, seqQ_goto, blockQ_normal, blockQ_ret, blockQ_exit, blockQ_goto, loopQ_ret, loopQ_exit, loopQ_goto, endQ_ret, endQ_normal, keep_mk, keep_st,
 lss_i, leq_i, gtr_i, geq_i, eql_i, neq_i, eql_8, neq_8, lss_8, leq_8, gtr_8, geq_8, eql_s, neq_s, eql_b, neq_b, not_b, by_bys, by_nils, load_cp1, beq_true, beq_false, Bool.not_eq_true', decide_eq_true_eq, decide_eq_false_iff_not, decide_true, decide_false,
 Int.toNat_natCast, Int.ofNat_lt, Int.ofNat_le, Int.natCast_inj, Bool.false_eq_true, Bool.true_eq_false, extPV, List.getElem?_cons_zero, List.getElem?_cons_succ, nilckPV, Int.reduceToNat, Int.reduceLE, true_and, and_true, reduceCtorEq, or_false, false_or, or_true, Option.some.injEq, exists_eq_left', Bool.not_true, Bool.not_false, ne_eq, Int.reduceEq, not_true_eq_false, not_false_eq_true, Int.reduceLT, UInt8.reduceLT, UInt8.reduceLE, UInt8.reduceToNat]
  obtain ⟨I, hI⟩ : ∃ I : Nat → Env → St → Prop, I = fun k e s' => ∃ (i : Nat), k = l.length - i ∧ i ≤ l.length ∧ Kept st s' ∧ (∀ j, j < i → atC (l.getD j 0) = true) ∧ e 0 = .str l ∧ e 3 = .int .i64 (i : Int) := ⟨_, rfl⟩
  refine W_loop I ?_ (n := l.length) (by
    rw [hI]
    exact ⟨0, rfl, by omega, Kept.start, fun j h => by omega, rfl, rfl⟩)
  intro k e s' hh
  rw [hI] at hh
  obtain ⟨i, rfl, hi, hk, hall, h0, h3⟩ := hh
  by_cases hlt : i < l.length
  · obtain ⟨c, hc⟩ : ∃ c, c = l.getD i 0 := ⟨_, rfl⟩
    have bad : atC c = false → ∀ E : Env, E 2 = .bool false → ∃ rv, resOf E s' [.tmp 2] = some rv ∧ leave st s' rv = (.bool (atomB l), st) := fun h E k2 =>
      retB k2 hk (by simp only [atomB, all_bad (p := atC) hlt (by rw [← hc]; exact h), Bool.false_and])
    have next : atC c = true → ∀ E : Env, E 0 = .str l → E 3 = .int .i64 ((i + 1 : Nat) : Int) → ∃ m, m < l.length - i ∧ I m E s' := fun h E k0 k3 =>
      ⟨l.length - (i + 1), by omega, by
        rw [hI]
        refine ⟨i + 1, rfl, by omega, hk, fun j hj => ?_, k0, k3⟩
        by_cases hji : j = i
        · subst hji; rw [← hc]; exact h
        · exact hall j (by omega)⟩
    have hs : slcPV 0 (.str l) (some (.int .i64 (i : Int))) (some (.int .i64 ((i + 1 : Nat) : Int))) none = some (.str [c]) := by
      rw [slc_s (by omega) (by omega) (by omega), Int.toNat_natCast, Int.toNat_natCast, take_one hlt, hc]
    have hH := fun S : St => Has_spec (st := S) (a := signs) (b := [c]) (by decide) (by simp)
    simp only [has_one] at hH
    simp only [signs] at hH
    cases ha : alnC c with
    | true =>
      have hL := fun S : St => Letter_spec (st := S) (c := c)
      rw [ha] at hL
      simp (maxSteps := 1000000) (disch := omega) only [h0, h3, hlt, len_s, idx_s, ← hc, hL, add_n, loopQ_normal, W_seq, W_region, W_cond, W_block, W_skip, W_label, W_exit, W_goto, W_ret, WO_cons, WO_consG, WO_nil, wantedA_eq, wantB, evOp, ev_tmp, ev_const, ev_fn, WN_some, WN_none, updO_some, updO_none, upd_eq,
 ↓reduceIte, Nat.reduceEqDiff, List.nil_append, List.cons_append, List.append_nil, List.map_cons, List.map_nil, env0_zero, env0_succ, env0_nil, Option.map_some, Option.map_none, seqQ_normal, seqQ_ret, seqQ_exit, seqQ_goto, blockQ_normal, blockQ_ret, blockQ_exit, blockQ_goto, condW_bool, loopQ_ret, loopQ_exit, loopQ_goto, endQ_ret, endQ_normal, keep_mk, keep_st,
 lss_i, leq_i, gtr_i, geq_i, eql_i, neq_i, eql_8, neq_8, lss_8, leq_8, gtr_8, geq_8, eql_s, neq_s, eql_b, neq_b, not_b, by_bys, by_nils, load_cp1, beq_true, beq_false, Bool.not_eq_true', decide_eq_true_eq, decide_eq_false_iff_not, decide_true, decide_false,
 Int.toNat_natCast, Int.ofNat_lt, Int.ofNat_le, Int.natCast_inj, Bool.false_eq_true, Bool.true_eq_false, extPV, List.getElem?_cons_zero, List.getElem?_cons_succ, nilckPV, Int.reduceToNat, Int.reduceLE, true_and, and_true, reduceCtorEq, or_false, false_or, or_true, Option.some.injEq, exists_eq_left', Bool.not_true, Bool.not_false, ne_eq, Int.reduceEq, not_true_eq_false, not_false_eq_true, Int.reduceLT, UInt8.reduceLT, UInt8.reduceLE, UInt8.reduceToNat]
      exact next (by simp only [atC, ha, decide_true, decide_false, Bool.and_true, Bool.true_and, Bool.and_false, Bool.false_and, Bool.or_true, Bool.true_or, Bool.or_false, Bool.false_or, Bool.not_true, Bool.not_false, not_true_eq_false, not_false_eq_true]) _ h0 rfl
    | false =>
      have hL := fun S : St => Letter_spec (st := S) (c := c)
      rw [ha] at hL
      cases hg : signs.contains c with
      | true =>
        simp only [signs] at hg
        rw [hg] at hH
        simp (maxSteps := 1000000) (disch := omega) only [h0, h3, hlt, len_s, idx_s, ← hc, hL, hs, hH, add_n, loopQ_normal, W_seq, W_region, W_cond, W_block, W_skip, W_label, W_exit, W_goto, W_ret, WO_cons, WO_consG, WO_nil, wantedA_eq, wantB, evOp, ev_tmp, ev_const, ev_fn, WN_some, WN_none, updO_some, updO_none, upd_eq,
 ↓reduceIte, Nat.reduceEqDiff, List.nil_append, List.cons_append, List.append_nil, List.map_cons, List.map_nil, env0_zero, env0_succ, env0_nil, Option.map_some, Option.map_none, seqQ_normal, seqQ_ret, seqQ_exit, seqQ_goto, blockQ_normal, blockQ_ret, blockQ_exit, blockQ_goto, condW_bool, loopQ_ret, loopQ_exit, loopQ_goto, endQ_ret, endQ_normal, keep_mk, keep_st,
 lss_i, leq_i, gtr_i, geq_i, eql_i, neq_i, eql_8, neq_8, lss_8, leq_8, gtr_8, geq_8, eql_s, neq_s, eql_b, neq_b, not_b, by_bys, by_nils, load_cp1, beq_true, beq_false, Bool.not_eq_true', decide_eq_true_eq, decide_eq_false_iff_not, decide_true, decide_false,
 Int.toNat_natCast, Int.ofNat_lt, Int.ofNat_le, Int.natCast_inj, Bool.false_eq_true, Bool.true_eq_false, extPV, List.getElem?_cons_zero, List.getElem?_cons_succ, nilckPV, Int.reduceToNat, Int.reduceLE, true_and, and_true, reduceCtorEq, or_false, false_or, or_true, Option.some.injEq, exists_eq_left', Bool.not_true, Bool.not_false, ne_eq, Int.reduceEq, not_true_eq_false, not_false_eq_true, Int.reduceLT, UInt8.reduceLT, UInt8.reduceLE, UInt8.reduceToNat]
        exact next (by simp only [atC, ha, signs, hg, decide_true, decide_false, Bool.and_true, Bool.true_and, Bool.and_false, Bool.false_and, Bool.or_true, Bool.true_or, Bool.or_false, Bool.false_or, Bool.not_true, Bool.not_false, not_true_eq_false, not_false_eq_true]) _ h0 rfl
      | false =>
        simp only [signs] at hg
        rw [hg] at hH
        simp (maxSteps := 1000000) (disch := omega) only [h0, h3, hlt, len_s, idx_s, ← hc, hL, hs, hH, add_n, W_seq, W_region, W_cond, W_block, W_skip, W_label, W_exit, W_goto, W_ret, WO_cons, WO_consG, WO_nil, wantedA_eq, wantB, evOp, ev_tmp, ev_const, ev_fn, WN_some, WN_none, updO_some, updO_none, upd_eq,
 ↓reduceIte, Nat.reduceEqDiff, List.nil_append, List.cons_append, List.append_nil, List.map_cons, List.map_nil, env0_zero, env0_succ, env0_nil, Option.map_some, Option.map_none, seqQ_normal, seqQ_ret, seqQ_exit, seqQ_goto, blockQ_normal, blockQ_ret, blockQ_exit, blockQ_goto, condW_bool, loopQ_ret, loopQ_exit, loopQ_goto, endQ_ret, endQ_normal, keep_mk, keep_st,
 lss_i, leq_i, gtr_i, geq_i, eql_i, neq_i, eql_8, neq_8, lss_8, leq_8, gtr_8, geq_8, eql_s, neq_s, eql_b, neq_b, not_b, by_bys, by_nils, load_cp1, beq_true, beq_false, Bool.not_eq_true', decide_eq_true_eq, decide_eq_false_iff_not, decide_true, decide_false,
 Int.toNat_natCast, Int.ofNat_lt, Int.ofNat_le, Int.natCast_inj, Bool.false_eq_true, Bool.true_eq_false, extPV, List.getElem?_cons_zero, List.getElem?_cons_succ, nilckPV, Int.reduceToNat, Int.reduceLE, true_and, and_true, reduceCtorEq, or_false, false_or, or_true, Option.some.injEq, exists_eq_left', Bool.not_true, Bool.not_false, ne_eq, Int.reduceEq, not_true_eq_false, not_false_eq_true, Int.reduceLT, UInt8.reduceLT, UInt8.reduceLE, UInt8.reduceToNat]
        exact bad (by simp only [atC, ha, signs, hg, decide_true, decide_false, Bool.and_true, Bool.true_and, Bool.and_false, Bool.false_and, Bool.or_true, Bool.true_or, Bool.or_false, Bool.false_or, Bool.not_true, Bool.not_false, not_true_eq_false, not_false_eq_true]) _ rfl
  · obtain rfl : i = l.length := by omega
    simp (maxSteps := 1000000) (disch := omega) only [h0, h3, hlt, len_s, W_seq, W_region, W_cond, W_block, W_skip, W_label, W_exit, W_goto, W_ret, WO_cons, WO_consG, WO_nil, wantedA_eq, wantB, evOp, ev_tmp, ev_const, ev_fn, WN_some, WN_none, updO_some, updO_none, upd_eq,
 ↓reduceIte, Nat.reduceEqDiff, List.nil_append, List.cons_append, List.append_nil, List.map_cons, List.map_nil, env0_zero, env0_succ, env0_nil, Option.map_some, Option.map_none, seqQ_normal, seqQ_ret, seqQ_exit, seqQ_goto, blockQ_normal, blockQ_ret, blockQ_exit, blockQ_goto, condW_bool, loopQ_ret, loopQ_exit, loopQ_goto, endQ_ret, endQ_normal, keep_mk, keep_st,
 lss_i, leq_i, gtr_i, geq_i, eql_i, neq_i, eql_8, neq_8, lss_8, leq_8, gtr_8, geq_8, eql_s, neq_s, eql_b, neq_b, not_b, by_bys, by_nils, load_cp1, beq_true, beq_false, Bool.not_eq_true', decide_eq_true_eq, decide_eq_false_iff_not, decide_true, decide_false,
 Int.toNat_natCast, Int.ofNat_lt, Int.ofNat_le, Int.natCast_inj, Bool.false_eq_true, Bool.true_eq_false, extPV, List.getElem?_cons_zero, List.getElem?_cons_succ, nilckPV, Int.reduceToNat, Int.reduceLE, true_and, and_true, reduceCtorEq, or_false, false_or, or_true, Option.some.injEq, exists_eq_left', Bool.not_true, Bool.not_false, ne_eq, Int.reduceEq, not_true_eq_false, not_false_eq_true, Int.reduceLT, UInt8.reduceLT, UInt8.reduceLE, UInt8.reduceToNat]
    refine retB rfl hk ?_
    simp only [atomB, all_getD (p := atC) hall, Bool.true_and]
    cases l <;> simp
end Go.Ab

/-
  The document's addresses: domains, plain addresses.
-/
namespace Go.Ab
set_option linter.unusedVariables false
set_option linter.unusedSimpArgs false
set_option maxRecDepth 20000
variable {st s : St} {e : Env}

theorem ratoms_spec {l : Bs} {c : UInt8} (hl : l.length ≤ 100000000) : call prog (.fn 217 []) [.str l, .b8 c] st = some (.bool (partsB c atomB l), st) := by
  refine call_of_W prog_217 ?_
  unfold F_posthornref07_atoms; dsimp only
  obtain ⟨xs, hxs⟩ : ∃ xs, xs = splitOn c [] l := ⟨_, rfl⟩
  have hsp := fun S : St => Parts_spec (st := S) (c := c) hl
  rw [← hxs] at hsp
  have hk1 : Kept st (St.tok1 ⟨st.boxes, st.toks, st.loops, st.boxes.length⟩) := Kept.start.tok1
  have hvs := newSl_vs (st := (⟨st.boxes, st.toks, st.loops, st.boxes.length⟩ : St)) (esz := 1) (xs := xs.map .str)
  obtain ⟨V, hV⟩ : ∃ V, V = newSl (⟨st.boxes, st.toks, st.loops, st.boxes.length⟩ : St) 1 (xs.map .str) := ⟨_, rfl⟩
  have hsp0 := hsp (⟨st.boxes, st.toks, st.loops, st.boxes.length⟩ : St)
  rw [← hV] at hvs hsp0
  have hlen : lenPV false V = some (.int .i64 (xs.length : Int)) := by rw [len_vs hvs, List.length_map]
  have hp : partsB c atomB l = xs.all atomB := by rw [hxs]; rfl
  have hxl : ∀ j, j < xs.length → (xs.getD j []).length ≤ 100000000 := fun j hj => by
    have hm : xs.getD j [] ∈ splitOn c [] l := by rw [← hxs]; simp [List.getD, hj]
    have := split_len l [] _ hm
    simp at this ⊢; omega
  have hnum : xs.length ≤ 100000001 := by
    have := split_num (sep := c) l []
    rw [← hxs] at this; omega
  rw [hp]
  simp (maxSteps := 1000000) (disch := omega) only [hsp0, W_seq, W_region, W_cond, W_block, W_skip, W_label, W_exit, W_goto, W_ret, WO_cons, WO_consG, WO_nil, wantedA_eq, wantB, evOp, ev_tmp, ev_const, ev_fn, WN_some, WN_none, updO_some, updO_none, upd_eq,
 ↓reduceIte, Nat.reduceEqDiff, List.nil_append, List.cons_append, List.append_nil, List.map_cons, List.map_nil, env0_zero, env0_succ, env0_nil, Option.map_some, Option.map_none, seqQ_normal, seqQ_ret, seqQ_exit, seqQ_goto, blockQ_normal, blockQ_ret, blockQ_exit, blockQ_goto, condW_bool, loopQ_ret, loopQ_exit, loopQ_goto, endQ_ret, endQ_normal, keep_mk, keep_st,
 lss_i, leq_i, gtr_i, geq_i, eql_i, neq_i, eql_8, neq_8, lss_8, leq_8, gtr_8, geq_8, eql_s, neq_s, eql_b, neq_b, not_b, by_bys, by_nils, load_cp1, beq_true, beq_false, Bool.not_eq_true', decide_eq_true_eq, decide_eq_false_iff_not, decide_true, decide_false,
 Int.toNat_natCast, Int.ofNat_lt, Int.ofNat_le, Int.natCast_inj, Bool.false_eq_true, Bool.true_eq_false, extPV, List.getElem?_cons_zero, List.getElem?_cons_succ, nilckPV, Int.reduceToNat, Int.reduceLE, true_and, and_true, reduceCtorEq, or_false, false_or, or_true, Option.some.injEq, exists_eq_left', Bool.not_true, Bool.not_false, ne_eq, Int.reduceEq, not_true_eq_false, not_false_eq_true, Int.reduceLT, UInt8.reduceLT, UInt8.reduceLE, UInt8.reduceToNat]
  obtain ⟨I, hI⟩ : ∃ I : Nat → Env → St → Prop, I = fun k e s' => ∃ (i : Nat), k = xs.length - i ∧ i ≤ xs.length ∧ Kept st s' ∧ (∀ j, j < i → atomB (xs.getD j []) = true) ∧ e 5 = V ∧ e 6 = .int .i64 (i : Int) := ⟨_, rfl⟩
  refine W_loop I ?_ (n := xs.length) (by
    rw [hI]
    exact ⟨0, rfl, by omega, hk1, fun j h => by omega, rfl, rfl⟩)
  intro k e s' hh
  rw [hI] at hh
  obtain ⟨i, rfl, hi, hk, hall, h5, h6⟩ := hh
  by_cases hlt : i < xs.length
  · obtain ⟨x, hx⟩ : ∃ x, x = xs.getD i [] := ⟨_, rfl⟩
    have hfx := fun S : St => rAtom_spec (st := S) (l := x) (by rw [hx]; exact hxl i hlt)
    cases hpx : atomB x with
    | false =>
      rw [hpx] at hfx
      simp (maxSteps := 1000000) (disch := omega) only [h5, h6, hlen, hlt, iaddr_t hvs, ← hx, load_cp1, hfx, W_seq, W_region, W_cond, W_block, W_skip, W_label, W_exit, W_goto, W_ret, WO_cons, WO_consG, WO_nil, wantedA_eq, wantB, evOp, ev_tmp, ev_const, ev_fn, WN_some, WN_none, updO_some, updO_none, upd_eq,
 ↓reduceIte, Nat.reduceEqDiff, List.nil_append, List.cons_append, List.append_nil, List.map_cons, List.map_nil, env0_zero, env0_succ, env0_nil, Option.map_some, Option.map_none, seqQ_normal, seqQ_ret, seqQ_exit, seqQ_goto, blockQ_normal, blockQ_ret, blockQ_exit, blockQ_goto, condW_bool, loopQ_ret, loopQ_exit, loopQ_goto, endQ_ret, endQ_normal, keep_mk, keep_st,
 lss_i, leq_i, gtr_i, geq_i, eql_i, neq_i, eql_8, neq_8, lss_8, leq_8, gtr_8, geq_8, eql_s, neq_s, eql_b, neq_b, not_b, by_bys, by_nils, load_cp1, beq_true, beq_false, Bool.not_eq_true', decide_eq_true_eq, decide_eq_false_iff_not, decide_true, decide_false,
 Int.toNat_natCast, Int.ofNat_lt, Int.ofNat_le, Int.natCast_inj, Bool.false_eq_true, Bool.true_eq_false, extPV, List.getElem?_cons_zero, List.getElem?_cons_succ, nilckPV, Int.reduceToNat, Int.reduceLE, true_and, and_true, reduceCtorEq, or_false, false_or, or_true, Option.some.injEq, exists_eq_left', Bool.not_true, Bool.not_false, ne_eq, Int.reduceEq, not_true_eq_false, not_false_eq_true, Int.reduceLT, UInt8.reduceLT, UInt8.reduceLE, UInt8.reduceToNat]
      exact retB rfl hk (all_bad' hlt (by rw [← hx]; exact hpx)).symm
    | true =>
      rw [hpx] at hfx
      simp (maxSteps := 1000000) (disch := omega) only [h5, h6, hlen, hlt, iaddr_t hvs, ← hx, load_cp1, hfx, add_n, W_seq, W_region, W_cond, W_block, W_skip, W_label, W_exit, W_goto, W_ret, WO_cons, WO_consG, WO_nil, wantedA_eq, wantB, evOp, ev_tmp, ev_const, ev_fn, WN_some, WN_none, updO_some, updO_none, upd_eq,
 ↓reduceIte, Nat.reduceEqDiff, List.nil_append, List.cons_append, List.append_nil, List.map_cons, List.map_nil, env0_zero, env0_succ, env0_nil, Option.map_some, Option.map_none, seqQ_normal, seqQ_ret, seqQ_exit, seqQ_goto, blockQ_normal, blockQ_ret, blockQ_exit, blockQ_goto, condW_bool, loopQ_ret, loopQ_exit, loopQ_goto, endQ_ret, endQ_normal, keep_mk, keep_st,
 lss_i, leq_i, gtr_i, geq_i, eql_i, neq_i, eql_8, neq_8, lss_8, leq_8, gtr_8, geq_8, eql_s, neq_s, eql_b, neq_b, not_b, by_bys, by_nils, load_cp1, beq_true, beq_false, Bool.not_eq_true', decide_eq_true_eq, decide_eq_false_iff_not, decide_true, decide_false,
 Int.toNat_natCast, Int.ofNat_lt, Int.ofNat_le, Int.natCast_inj, Bool.false_eq_true, Bool.true_eq_false, extPV, List.getElem?_cons_zero, List.getElem?_cons_succ, nilckPV, Int.reduceToNat, Int.reduceLE, true_and, and_true, reduceCtorEq, or_false, false_or, or_true, Option.some.injEq, exists_eq_left', Bool.not_true, Bool.not_false, ne_eq, Int.reduceEq, not_true_eq_false, not_false_eq_true, Int.reduceLT, UInt8.reduceLT, UInt8.reduceLE, UInt8.reduceToNat]
      refine loopQ_intro (m := xs.length - (i + 1)) (by omega) ?_
      rw [hI]
      refine ⟨i + 1, rfl, by omega, hk, fun j hj => ?_, h5, rfl⟩
      by_cases hji : j = i
      · subst hji; rw [← hx]; exact hpx
      · exact hall j (by omega)
  · obtain rfl : i = xs.length := by omega
    simp (maxSteps := 1000000) (disch := omega) only [h5, h6, hlen, hlt, W_seq, W_region, W_cond, W_block, W_skip, W_label, W_exit, W_goto, W_ret, WO_cons, WO_consG, WO_nil, wantedA_eq, wantB, evOp, ev_tmp, ev_const, ev_fn, WN_some, WN_none, updO_some, updO_none, upd_eq,
 ↓reduceIte, Nat.reduceEqDiff, List.nil_append, List.cons_append, List.append_nil, List.map_cons, List.map_nil, env0_zero, env0_succ, env0_nil, Option.map_some, Option.map_none, seqQ_normal, seqQ_ret, seqQ_exit, seqQ_goto, blockQ_normal, blockQ_ret, blockQ_exit, blockQ_goto, condW_bool, loopQ_ret, loopQ_exit, loopQ_goto, endQ_ret, endQ_normal, keep_mk, keep_st,
 lss_i, leq_i, gtr_i, geq_i, eql_i, neq_i, eql_8, neq_8, lss_8, leq_8, gtr_8, geq_8, eql_s, neq_s, eql_b, neq_b, not_b, by_bys, by_nils, load_cp1, beq_true, beq_false, Bool.not_eq_true', decide_eq_true_eq, decide_eq_false_iff_not, decide_true, decide_false,
 Int.toNat_natCast, Int.ofNat_lt, Int.ofNat_le, Int.natCast_inj, Bool.false_eq_true, Bool.true_eq_false, extPV, List.getElem?_cons_zero, List.getElem?_cons_succ, nilckPV, Int.reduceToNat, Int.reduceLE, true_and, and_true, reduceCtorEq, or_false, false_or, or_true, Option.some.injEq, exists_eq_left', Bool.not_true, Bool.not_false, ne_eq, Int.reduceEq, not_true_eq_false, not_false_eq_true, Int.reduceLT, UInt8.reduceLT, UInt8.reduceLE, UInt8.reduceToNat]
    exact retB rfl hk (all_getD' hall).symm

set_option maxHeartbeats 2000000 in
theorem rDomain_spec {l : Bs} (hl : l.length ≤ 100000000) : call prog (.fn 218 []) [.str l] st = some (.bool (decide (l.length ≤ 253) && partsB 46 labB l), st) := by
  refine call_of_W prog_218 ?_
  unfold F_posthornref07_Domain; dsimp only
  obtain ⟨xs, hxs⟩ : ∃ xs, xs = splitOn 46 [] l := ⟨_, rfl⟩
  have hsp := fun S : St => Parts_spec (st := S) (c := 46) hl
  rw [← hxs] at hsp
  have hk1 : Kept st (St.tok1 ⟨st.boxes, st.toks, st.loops, st.boxes.length⟩) := Kept.start.tok1
  have hvs := newSl_vs (st := (⟨st.boxes, st.toks, st.loops, st.boxes.length⟩ : St)) (esz := 1) (xs := xs.map .str)
  obtain ⟨V, hV⟩ : ∃ V, V = newSl (⟨st.boxes, st.toks, st.loops, st.boxes.length⟩ : St) 1 (xs.map .str) := ⟨_, rfl⟩
  have hsp0 := hsp (⟨st.boxes, st.toks, st.loops, st.boxes.length⟩ : St)
  rw [← hV] at hvs hsp0
  have hlen : lenPV false V = some (.int .i64 (xs.length : Int)) := by rw [len_vs hvs, List.length_map]
  have hp : partsB 46 labB l = xs.all labB := by rw [hxs]; rfl
  have hxl : ∀ j, j < xs.length → (xs.getD j []).length ≤ 100000000 := fun j hj => by
    have hm : xs.getD j [] ∈ splitOn 46 [] l := by rw [← hxs]; simp [List.getD, hj]
    have := split_len l [] _ hm
    simp at this ⊢; omega
  have hnum : xs.length ≤ 100000001 := by
    have := split_num (sep := 46) l []
    rw [← hxs] at this; omega
  rw [hp]
  simp (maxSteps := 1000000) (disch := omega) only [hsp0, W_seq, W_region, W_cond, W_block, W_skip, W_label, W_exit, W_goto, W_ret, WO_cons, WO_consG, WO_nil, wantedA_eq, wantB, evOp, ev_tmp, ev_const, ev_fn, WN_some, WN_none, updO_some, updO_none, upd_eq,
 ↓reduceIte, Nat.reduceEqDiff, List.nil_append, List.cons_append, List.append_nil, List.map_cons, List.map_nil, env0_zero, env0_succ, env0_nil, Option.map_some, Option.map_none, seqQ_normal, seqQ_ret, seqQ_exit, seqQ_goto, blockQ_normal, blockQ_ret, blockQ_exit, blockQ_goto, condW_bool, loopQ_ret, loopQ_exit, loopQ_goto, endQ_ret, endQ_normal, keep_mk, keep_st,
 lss_i, leq_i, gtr_i, geq_i, eql_i, neq_i, eql_8, neq_8, lss_8, leq_8, gtr_8, geq_8, eql_s, neq_s, eql_b, neq_b, not_b, by_bys, by_nils, load_cp1, beq_true, beq_false, Bool.not_eq_true', decide_eq_true_eq, decide_eq_false_iff_not, decide_true, decide_false,
 Int.toNat_natCast, Int.ofNat_lt, Int.ofNat_le, Int.natCast_inj, Bool.false_eq_true, Bool.true_eq_false, extPV, List.getElem?_cons_zero, List.getElem?_cons_succ, nilckPV, Int.reduceToNat, Int.reduceLE, true_and, and_true, reduceCtorEq, or_false, false_or, or_true, Option.some.injEq, exists_eq_left', Bool.not_true, Bool.not_false, ne_eq, Int.reduceEq, not_true_eq_false, not_false_eq_true, Int.reduceLT, UInt8.reduceLT, UInt8.reduceLE, UInt8.reduceToNat]
  obtain ⟨I, hI⟩ : ∃ I : Nat → Env → St → Prop, I = fun k e s' => ∃ (i : Nat), k = xs.length - i ∧ i ≤ xs.length ∧ Kept st s' ∧ (∀ j, j < i → labB (xs.getD j []) = true) ∧ e 0 = .str l ∧ e 3 = V ∧ e 4 = .int .i64 (i : Int) := ⟨_, rfl⟩
  refine W_loop I ?_ (n := xs.length) (by
    rw [hI]
    exact ⟨0, rfl, by omega, hk1, fun j h => by omega, rfl, rfl, rfl⟩)
  intro k e s' hh
  rw [hI] at hh
  obtain ⟨i, rfl, hi, hk, hall, h0, h3, h4⟩ := hh
  by_cases hlt : i < xs.length
  · obtain ⟨x, hx⟩ : ∃ x, x = xs.getD i [] := ⟨_, rfl⟩
    have hxl' : x.length ≤ 100000000 := by rw [hx]; exact hxl i hlt
    have bad : labB x = false → (decide (l.length ≤ 253) && xs.all labB) = false := fun h => by rw [all_bad' hlt (by rw [← hx]; exact h), Bool.and_false]
    have next : labB x = true → ∀ (E : Env) (S : St), Kept st S → E 0 = .str l → E 3 = V → E 4 = .int .i64 ((i + 1 : Nat) : Int) → ∃ m, m < xs.length - i ∧ I m E S := fun h E S q1 q2 q3 q4 =>
      ⟨xs.length - (i + 1), by omega, by
        rw [hI]
        refine ⟨i + 1, rfl, by omega, q1, fun j hj => ?_, q2, q3, q4⟩
        by_cases hji : j = i
        · subst hji; rw [← hx]; exact h
        · exact hall j (by omega)⟩
    clear hI hall
    by_cases n0 : x = []
    · have e0 : (x.length : Int) = 0 := by rw [n0]; rfl
      simp (maxSteps := 1000000) (disch := omega) only [h0, h3, h4, hlen, hlt, iaddr_t hvs, ← hx, load_cp1, len_s, eq_true e0, W_seq, W_region, W_cond, W_block, W_skip, W_label, W_exit, W_goto, W_ret, WO_cons, WO_consG, WO_nil, wantedA_eq, wantB, evOp, ev_tmp, ev_const, ev_fn, WN_some, WN_none, updO_some, updO_none, upd_eq,
 ↓reduceIte, Nat.reduceEqDiff, List.nil_append, List.cons_append, List.append_nil, List.map_cons, List.map_nil, env0_zero, env0_succ, env0_nil, Option.map_some, Option.map_none, seqQ_normal, seqQ_ret, seqQ_exit, seqQ_goto, blockQ_normal, blockQ_ret, blockQ_exit, blockQ_goto, condW_bool, loopQ_ret, loopQ_exit, loopQ_goto, endQ_ret, endQ_normal, keep_mk, keep_st,
 lss_i, leq_i, gtr_i, geq_i, eql_i, neq_i, eql_8, neq_8, lss_8, leq_8, gtr_8, geq_8, eql_s, neq_s, eql_b, neq_b, not_b, by_bys, by_nils, load_cp1, beq_true, beq_false, Bool.not_eq_true', decide_eq_true_eq, decide_eq_false_iff_not, decide_true, decide_false,
 Int.toNat_natCast, Int.ofNat_lt, Int.ofNat_le, Int.natCast_inj, Bool.false_eq_true, Bool.true_eq_false, extPV, List.getElem?_cons_zero, List.getElem?_cons_succ, nilckPV, Int.reduceToNat, Int.reduceLE, true_and, and_true, reduceCtorEq, or_false, false_or, or_true, Option.some.injEq, exists_eq_left', Bool.not_true, Bool.not_false, ne_eq, Int.reduceEq, not_true_eq_false, not_false_eq_true, Int.reduceLT, UInt8.reduceLT, UInt8.reduceLE, UInt8.reduceToNat]
      exact retB rfl hk (bad (by simp [labB, n0])).symm
    have hpos := List.length_pos_iff.2 n0
    have e0 : ¬ (x.length : Int) = 0 := by omega
    by_cases n63 : 63 < x.length
    · have e63 : (63 : Int) < (x.length : Int) := by omega
      simp (maxSteps := 1000000) (disch := omega) only [h0, h3, h4, hlen, hlt, iaddr_t hvs, ← hx, load_cp1, len_s, e0, e63, W_seq, W_region, W_cond, W_block, W_skip, W_label, W_exit, W_goto, W_ret, WO_cons, WO_consG, WO_nil, wantedA_eq, wantB, evOp, ev_tmp, ev_const, ev_fn, WN_some, WN_none, updO_some, updO_none, upd_eq,
 ↓reduceIte, Nat.reduceEqDiff, List.nil_append, List.cons_append, List.append_nil, List.map_cons, List.map_nil, env0_zero, env0_succ, env0_nil, Option.map_some, Option.map_none, seqQ_normal, seqQ_ret, seqQ_exit, seqQ_goto, blockQ_normal, blockQ_ret, blockQ_exit, blockQ_goto, condW_bool, loopQ_ret, loopQ_exit, loopQ_goto, endQ_ret, endQ_normal, keep_mk, keep_st,
 lss_i, leq_i, gtr_i, geq_i, eql_i, neq_i, eql_8, neq_8, lss_8, leq_8, gtr_8, geq_8, eql_s, neq_s, eql_b, neq_b, not_b, by_bys, by_nils, load_cp1, beq_true, beq_false, Bool.not_eq_true', decide_eq_true_eq, decide_eq_false_iff_not, decide_true, decide_false,
 Int.toNat_natCast, Int.ofNat_lt, Int.ofNat_le, Int.natCast_inj, Bool.false_eq_true, Bool.true_eq_false, extPV, List.getElem?_cons_zero, List.getElem?_cons_succ, nilckPV, Int.reduceToNat, Int.reduceLE, true_and, and_true, reduceCtorEq, or_false, false_or, or_true, Option.some.injEq, exists_eq_left', Bool.not_true, Bool.not_false, ne_eq, Int.reduceEq, not_true_eq_false, not_false_eq_true, Int.reduceLT, UInt8.reduceLT, UInt8.reduceLE, UInt8.reduceToNat]
      exact retB rfl hk (bad (by simp [labB, show ¬ x.length ≤ 63 by omega])).symm
    have e63 : ¬ (63 : Int) < (x.length : Int) := by omega
    obtain ⟨a, ha⟩ : ∃ a, a = x.getD 0 0 := ⟨_, rfl⟩
    have i0 : idxSPV (.str x) (.int .i64 0) = some (.b8 a) := by rw [idx_s (by omega) (by simpa using hpos), ha]; rfl
    by_cases f0 : a = 45
    · simp (maxSteps := 1000000) (disch := omega) only [h0, h3, h4, hlen, hlt, iaddr_t hvs, ← hx, load_cp1, len_s, e0, e63, i0, eq_true f0, W_seq, W_region, W_cond, W_block, W_skip, W_label, W_exit, W_goto, W_ret, WO_cons, WO_consG, WO_nil, wantedA_eq, wantB, evOp, ev_tmp, ev_const, ev_fn, WN_some, WN_none, updO_some, updO_none, upd_eq,
 ↓reduceIte, Nat.reduceEqDiff, List.nil_append, List.cons_append, List.append_nil, List.map_cons, List.map_nil, env0_zero, env0_succ, env0_nil, Option.map_some, Option.map_none, seqQ_normal, seqQ_ret, seqQ_exit, seqQ_goto, blockQ_normal, blockQ_ret, blockQ_exit, blockQ_goto, condW_bool, loopQ_ret, loopQ_exit, loopQ_goto, endQ_ret, endQ_normal, keep_mk, keep_st,
 lss_i, leq_i, gtr_i, geq_i, eql_i, neq_i, eql_8, neq_8, lss_8, leq_8, gtr_8, geq_8, eql_s, neq_s, eql_b, neq_b, not_b, by_bys, by_nils, load_cp1, beq_true, beq_false, Bool.not_eq_true', decide_eq_true_eq, decide_eq_false_iff_not, decide_true, decide_false,
 Int.toNat_natCast, Int.ofNat_lt, Int.ofNat_le, Int.natCast_inj, Bool.false_eq_true, Bool.true_eq_false, extPV, List.getElem?_cons_zero, List.getElem?_cons_succ, nilckPV, Int.reduceToNat, Int.reduceLE, true_and, and_true, reduceCtorEq, or_false, false_or, or_true, Option.some.injEq, exists_eq_left', Bool.not_true, Bool.not_false, ne_eq, Int.reduceEq, not_true_eq_false, not_false_eq_true, Int.reduceLT, UInt8.reduceLT, UInt8.reduceLE, UInt8.reduceToNat]
      exact retB rfl hk (bad (by simp only [labB, ← ha, f0, decide_true, decide_false, Bool.and_true, Bool.true_and, Bool.and_false, Bool.false_and, Bool.or_true, Bool.true_or, Bool.or_false, Bool.false_or, Bool.not_true, Bool.not_false, not_true_eq_false, not_false_eq_true])).symm
    obtain ⟨z, hz⟩ : ∃ z, z = x.getD (x.length - 1) 0 := ⟨_, rfl⟩
    have i1 : idxSPV (.str x) (.int .i64 ((x.length - 1 : Nat) : Int)) = some (.b8 z) := by rw [idx_s (by omega) (by rw [Int.toNat_natCast]; omega), hz]; rfl
    have hsub : binPV .sub .no (.int .i64 (x.length : Int)) (.int .i64 1) = some (.int .i64 ((x.length - 1 : Nat) : Int)) := by
      rw [sub_n (by omega) (by simp; omega) (by omega)]; rfl
    by_cases f1 : z = 45
    · simp (maxSteps := 1000000) (disch := omega) only [h0, h3, h4, hlen, hlt, iaddr_t hvs, ← hx, load_cp1, len_s, e0, e63, i0, f0, hsub, i1, eq_true f1, W_seq, W_region, W_cond, W_block, W_skip, W_label, W_exit, W_goto, W_ret, WO_cons, WO_consG, WO_nil, wantedA_eq, wantB, evOp, ev_tmp, ev_const, ev_fn, WN_some, WN_none, updO_some, updO_none, upd_eq,
 ↓reduceIte, Nat.reduceEqDiff, List.nil_append, List.cons_append, List.append_nil, List.map_cons, List.map_nil, env0_zero, env0_succ, env0_nil, Option.map_some, Option.map_none, seqQ_normal, seqQ_ret, seqQ_exit, seqQ_goto, blockQ_normal, blockQ_ret, blockQ_exit, blockQ_goto, condW_bool, loopQ_ret, loopQ_exit, loopQ_goto, endQ_ret, endQ_normal, keep_mk, keep_st,
 lss_i, leq_i, gtr_i, geq_i, eql_i, neq_i, eql_8, neq_8, lss_8, leq_8, gtr_8, geq_8, eql_s, neq_s, eql_b, neq_b, not_b, by_bys, by_nils, load_cp1, beq_true, beq_false, Bool.not_eq_true', decide_eq_true_eq, decide_eq_false_iff_not, decide_true, decide_false,
 Int.toNat_natCast, Int.ofNat_lt, Int.ofNat_le, Int.natCast_inj, Bool.false_eq_true, Bool.true_eq_false, extPV, List.getElem?_cons_zero, List.getElem?_cons_succ, nilckPV, Int.reduceToNat, Int.reduceLE, true_and, and_true, reduceCtorEq, or_false, false_or, or_true, Option.some.injEq, exists_eq_left', Bool.not_true, Bool.not_false, ne_eq, Int.reduceEq, not_true_eq_false, not_false_eq_true, Int.reduceLT, UInt8.reduceLT, UInt8.reduceLE, UInt8.reduceToNat]
      exact retB rfl hk (bad (by simp only [labB, ← hz, f1, decide_true, decide_false, Bool.and_true, Bool.true_and, Bool.and_false, Bool.false_and, Bool.or_true, Bool.true_or, Bool.or_false, Bool.false_or, Bool.not_true, Bool.not_false, not_true_eq_false, not_false_eq_true])).symm
    have he : x.isEmpty = false := by cases x with | nil => exact absurd rfl n0 | cons a r => rfl
    have hlab : labB x = x.all labC := by
      have : x.length ≤ 63 := by omega
      simp only [labB, he, this, ← ha, ← hz, f0, f1, decide_true, decide_false, Bool.and_true, Bool.true_and, Bool.and_false, Bool.false_and, Bool.or_true, Bool.true_or, Bool.or_false, Bool.false_or, Bool.not_true, Bool.not_false, not_true_eq_false, not_false_eq_true]
    simp (maxSteps := 1000000) (disch := omega) only [h0, h3, h4, hlen, hlt, iaddr_t hvs, ← hx, load_cp1, len_s, e0, e63, i0, f0, hsub, i1, f1, W_seq, W_region, W_cond, W_block, W_skip, W_label, W_exit, W_goto, W_ret, WO_cons, WO_consG, WO_nil, wantedA_eq, wantB, evOp, ev_tmp, ev_const, ev_fn, WN_some, WN_none, updO_some, updO_none, upd_eq,
 ↓reduceIte, Nat.reduceEqDiff, List.nil_append, List.cons_append, List.append_nil, List.map_cons, List.map_nil, env0_zero, env0_succ, env0_nil, Option.map_some, Option.map_none, seqQ_normal, seqQ_ret, seqQ_exit, seqQ_goto, blockQ_normal, blockQ_ret, blockQ_exit, blockQ_goto, condW_bool, loopQ_ret, loopQ_exit, loopQ_goto, endQ_ret, endQ_normal, keep_mk, keep_st,
 lss_i, leq_i, gtr_i, geq_i, eql_i, neq_i, eql_8, neq_8, lss_8, leq_8, gtr_8, geq_8, eql_s, neq_s, eql_b, neq_b, not_b, by_bys, by_nils, load_cp1, beq_true, beq_false, Bool.not_eq_true', decide_eq_true_eq, decide_eq_false_iff_not, decide_true, decide_false,
 Int.toNat_natCast, Int.ofNat_lt, Int.ofNat_le, Int.natCast_inj, Bool.false_eq_true, Bool.true_eq_false, extPV, List.getElem?_cons_zero, List.getElem?_cons_succ, nilckPV, Int.reduceToNat, Int.reduceLE, true_and, and_true, reduceCtorEq, or_false, false_or, or_true, Option.some.injEq, exists_eq_left', Bool.not_true, Bool.not_false, ne_eq, Int.reduceEq, not_true_eq_false, not_false_eq_true, Int.reduceLT, UInt8.reduceLT, UInt8.reduceLE, UInt8.reduceToNat]
    refine W_mono (Q := fun y E S => (y = .ret ∧ x.all labC = false ∧ E 2 = .bool false ∧ Kept st S) ∨ (y = .exit 2 ∧ x.all labC = true ∧ Kept st S ∧ E 0 = .str l ∧ E 3 = V ∧ E 4 = .int .i64 (i : Int))) ?_ ?_
    · obtain ⟨J, hJ⟩ : ∃ J : Ex → Env → St → Prop, J = fun y E S => (y = .ret ∧ x.all labC = false ∧ E 2 = .bool false ∧ Kept st S) ∨ (y = .exit 2 ∧ x.all labC = true ∧ Kept st S ∧ E 0 = .str l ∧ E 3 = V ∧ E 4 = .int .i64 (i : Int)) := ⟨_, rfl⟩
      rw [← hJ]
      obtain ⟨I2, hI2⟩ : ∃ I2 : Nat → Env → St → Prop, I2 = fun k E S => ∃ (q : Nat), k = x.length - q ∧ q ≤ x.length ∧ Kept st S ∧ (∀ j, j < q → labC (x.getD j 0) = true) ∧ E 0 = .str l ∧ E 3 = V ∧ E 4 = .int .i64 (i : Int) ∧ E 5 = .str x ∧ E 6 = .int .i64 (q : Int) := ⟨_, rfl⟩
      refine W_loop I2 ?_ (n := x.length) (by
        rw [hI2]
        exact ⟨0, rfl, by omega, hk, fun j h => by omega, h0, h3, h4, rfl, rfl⟩)
      intro k E S hh
      rw [hI2] at hh
      obtain ⟨q, rfl, hq, hk2, hal, g0, g3, g4, g5, g6⟩ := hh
      by_cases hql : q < x.length
      · obtain ⟨c, hc⟩ : ∃ c, c = x.getD q 0 := ⟨_, rfl⟩
        have hL := fun S : St => Letter_spec (st := S) (c := c)
        have nx : labC c = true → ∀ E : Env, E 0 = .str l → E 3 = V → E 4 = .int .i64 (i : Int) → E 5 = .str x → E 6 = .int .i64 ((q + 1 : Nat) : Int) → ∃ m, m < x.length - q ∧ I2 m E S := fun h E q1 q2 q3 q4 q5 =>
          ⟨x.length - (q + 1), by omega, by
            rw [hI2]
            refine ⟨q + 1, rfl, by omega, hk2, fun j hj => ?_, q1, q2, q3, q4, q5⟩
            by_cases hji : j = q
            · subst hji; rw [← hc]; exact h
            · exact hal j (by omega)⟩
        cases hac : alnC c with
        | true =>
          rw [hac] at hL
          simp (maxSteps := 1000000) (disch := omega) only [g0, g3, g4, g5, g6, len_s, hql, idx_s, ← hc, hL, add_n, loopQ_normal, W_seq, W_region, W_cond, W_block, W_skip, W_label, W_exit, W_goto, W_ret, WO_cons, WO_consG, WO_nil, wantedA_eq, wantB, evOp, ev_tmp, ev_const, ev_fn, WN_some, WN_none, updO_some, updO_none, upd_eq,
 ↓reduceIte, Nat.reduceEqDiff, List.nil_append, List.cons_append, List.append_nil, List.map_cons, List.map_nil, env0_zero, env0_succ, env0_nil, Option.map_some, Option.map_none, seqQ_normal, seqQ_ret, seqQ_exit, seqQ_goto, blockQ_normal, blockQ_ret, blockQ_exit, blockQ_goto, condW_bool, loopQ_ret, loopQ_exit, loopQ_goto, endQ_ret, endQ_normal, keep_mk, keep_st,
 lss_i, leq_i, gtr_i, geq_i, eql_i, neq_i, eql_8, neq_8, lss_8, leq_8, gtr_8, geq_8, eql_s, neq_s, eql_b, neq_b, not_b, by_bys, by_nils, load_cp1, beq_true, beq_false, Bool.not_eq_true', decide_eq_true_eq, decide_eq_false_iff_not, decide_true, decide_false,
 Int.toNat_natCast, Int.ofNat_lt, Int.ofNat_le, Int.natCast_inj, Bool.false_eq_true, Bool.true_eq_false, extPV, List.getElem?_cons_zero, List.getElem?_cons_succ, nilckPV, Int.reduceToNat, Int.reduceLE, true_and, and_true, reduceCtorEq, or_false, false_or, or_true, Option.some.injEq, exists_eq_left', Bool.not_true, Bool.not_false, ne_eq, Int.reduceEq, not_true_eq_false, not_false_eq_true, Int.reduceLT, UInt8.reduceLT, UInt8.reduceLE, UInt8.reduceToNat]
          exact nx (by simp only [labC, hac, decide_true, decide_false, Bool.and_true, Bool.true_and, Bool.and_false, Bool.false_and, Bool.or_true, Bool.true_or, Bool.or_false, Bool.false_or, Bool.not_true, Bool.not_false, not_true_eq_false, not_false_eq_true]) _ g0 g3 g4 g5 rfl
        | false =>
          rw [hac] at hL
          by_cases hcd : c = 45
          · simp (maxSteps := 1000000) (disch := omega) only [g0, g3, g4, g5, g6, len_s, hql, idx_s, ← hc, hL, eq_true hcd, add_n, loopQ_normal, W_seq, W_region, W_cond, W_block, W_skip, W_label, W_exit, W_goto, W_ret, WO_cons, WO_consG, WO_nil, wantedA_eq, wantB, evOp, ev_tmp, ev_const, ev_fn, WN_some, WN_none, updO_some, updO_none, upd_eq,
 ↓reduceIte, Nat.reduceEqDiff, List.nil_append, List.cons_append, List.append_nil, List.map_cons, List.map_nil, env0_zero, env0_succ, env0_nil, Option.map_some, Option.map_none, seqQ_normal, seqQ_ret, seqQ_exit, seqQ_goto, blockQ_normal, blockQ_ret, blockQ_exit, blockQ_goto, condW_bool, loopQ_ret, loopQ_exit, loopQ_goto, endQ_ret, endQ_normal, keep_mk, keep_st,
 lss_i, leq_i, gtr_i, geq_i, eql_i, neq_i, eql_8, neq_8, lss_8, leq_8, gtr_8, geq_8, eql_s, neq_s, eql_b, neq_b, not_b, by_bys, by_nils, load_cp1, beq_true, beq_false, Bool.not_eq_true', decide_eq_true_eq, decide_eq_false_iff_not, decide_true, decide_false,
 Int.toNat_natCast, Int.ofNat_lt, Int.ofNat_le, Int.natCast_inj, Bool.false_eq_true, Bool.true_eq_false, extPV, List.getElem?_cons_zero, List.getElem?_cons_succ, nilckPV, Int.reduceToNat, Int.reduceLE, true_and, and_true, reduceCtorEq, or_false, false_or, or_true, Option.some.injEq, exists_eq_left', Bool.not_true, Bool.not_false, ne_eq, Int.reduceEq, not_true_eq_false, not_false_eq_true, Int.reduceLT, UInt8.reduceLT, UInt8.reduceLE, UInt8.reduceToNat]
            exact nx (by simp only [labC, hac, hcd, decide_true, decide_false, Bool.and_true, Bool.true_and, Bool.and_false, Bool.false_and, Bool.or_true, Bool.true_or, Bool.or_false, Bool.false_or, Bool.not_true, Bool.not_false, not_true_eq_false, not_false_eq_true]) _ g0 g3 g4 g5 rfl
          · simp (maxSteps := 1000000) (disch := omega) only [g0, g3, g4, g5, g6, len_s, hql, idx_s, ← hc, hL, hcd, W_seq, W_region, W_cond, W_block, W_skip, W_label, W_exit, W_goto, W_ret, WO_cons, WO_consG, WO_nil, wantedA_eq, wantB, evOp, ev_tmp, ev_const, ev_fn, WN_some, WN_none, updO_some, updO_none, upd_eq,
 ↓reduceIte, Nat.reduceEqDiff, List.nil_append, List.cons_append, List.append_nil, List.map_cons, List.map_nil, env0_zero, env0_succ, env0_nil, Option.map_some, Option.map_none, seqQ_normal, seqQ_ret, seqQ_exit, seqQ_goto, blockQ_normal, blockQ_ret, blockQ_exit, blockQ_goto, condW_bool, loopQ_ret, loopQ_exit, loopQ_goto, endQ_ret, endQ_normal, keep_mk, keep_st,
 lss_i, leq_i, gtr_i, geq_i, eql_i, neq_i, eql_8, neq_8, lss_8, leq_8, gtr_8, geq_8, eql_s, neq_s, eql_b, neq_b, not_b, by_bys, by_nils, load_cp1, beq_true, beq_false, Bool.not_eq_true', decide_eq_true_eq, decide_eq_false_iff_not, decide_true, decide_false,
 Int.toNat_natCast, Int.ofNat_lt, Int.ofNat_le, Int.natCast_inj, Bool.false_eq_true, Bool.true_eq_false, extPV, List.getElem?_cons_zero, List.getElem?_cons_succ, nilckPV, Int.reduceToNat, Int.reduceLE, true_and, and_true, reduceCtorEq, or_false, false_or, or_true, Option.some.injEq, exists_eq_left', Bool.not_true, Bool.not_false, ne_eq, Int.reduceEq, not_true_eq_false, not_false_eq_true, Int.reduceLT, UInt8.reduceLT, UInt8.reduceLE, UInt8.reduceToNat]
            rw [hJ]
            exact .inl ⟨rfl, all_bad (p := labC) hql (by rw [← hc]; simp only [labC, hac, hcd, decide_true, decide_false, Bool.and_true, Bool.true_and, Bool.and_false, Bool.false_and, Bool.or_true, Bool.true_or, Bool.or_false, Bool.false_or, Bool.not_true, Bool.not_false, not_true_eq_false, not_false_eq_true]), rfl, hk2⟩
      · obtain rfl : q = x.length := by omega
        simp (maxSteps := 1000000) (disch := omega) only [g0, g3, g4, g5, g6, len_s, hql, W_seq, W_region, W_cond, W_block, W_skip, W_label, W_exit, W_goto, W_ret, WO_cons, WO_consG, WO_nil, wantedA_eq, wantB, evOp, ev_tmp, ev_const, ev_fn, WN_some, WN_none, updO_some, updO_none, upd_eq,
 ↓reduceIte, Nat.reduceEqDiff, List.nil_append, List.cons_append, List.append_nil, List.map_cons, List.map_nil, env0_zero, env0_succ, env0_nil, Option.map_some, Option.map_none, seqQ_normal, seqQ_ret, seqQ_exit, seqQ_goto, blockQ_normal, blockQ_ret, blockQ_exit, blockQ_goto, condW_bool, loopQ_ret, loopQ_exit, loopQ_goto, endQ_ret, endQ_normal, keep_mk, keep_st,
 lss_i, leq_i, gtr_i, geq_i, eql_i, neq_i, eql_8, neq_8, lss_8, leq_8, gtr_8, geq_8, eql_s, neq_s, eql_b, neq_b, not_b, by_bys, by_nils, load_cp1, beq_true, beq_false, Bool.not_eq_true', decide_eq_true_eq, decide_eq_false_iff_not, decide_true, decide_false,
 Int.toNat_natCast, Int.ofNat_lt, Int.ofNat_le, Int.natCast_inj, Bool.false_eq_true, Bool.true_eq_false, extPV, List.getElem?_cons_zero, List.getElem?_cons_succ, nilckPV, Int.reduceToNat, Int.reduceLE, true_and, and_true, reduceCtorEq, or_false, false_or, or_true, Option.some.injEq, exists_eq_left', Bool.not_true, Bool.not_false, ne_eq, Int.reduceEq, not_true_eq_false, not_false_eq_true, Int.reduceLT, UInt8.reduceLT, UInt8.reduceLE, UInt8.reduceToNat]
        rw [hJ]
        exact .inr ⟨rfl, all_getD (p := labC) hal, hk2, g0, g3, g4⟩
    · rintro y E S (⟨rfl, hb, g2, hk2⟩ | ⟨rfl, hb, hk2, g0, g3, g4⟩)
      · simp (maxSteps := 1000000) (disch := omega) only [W_seq, W_region, W_cond, W_block, W_skip, W_label, W_exit, W_goto, W_ret, WO_cons, WO_consG, WO_nil, wantedA_eq, wantB, evOp, ev_tmp, ev_const, ev_fn, WN_some, WN_none, updO_some, updO_none, upd_eq,
 ↓reduceIte, Nat.reduceEqDiff, List.nil_append, List.cons_append, List.append_nil, List.map_cons, List.map_nil, env0_zero, env0_succ, env0_nil, Option.map_some, Option.map_none, seqQ_normal, seqQ_ret, seqQ_exit, seqQ_goto, blockQ_normal, blockQ_ret, blockQ_exit, blockQ_goto, condW_bool, loopQ_ret, loopQ_exit, loopQ_goto, endQ_ret, endQ_normal, keep_mk, keep_st,
 lss_i, leq_i, gtr_i, geq_i, eql_i, neq_i, eql_8, neq_8, lss_8, leq_8, gtr_8, geq_8, eql_s, neq_s, eql_b, neq_b, not_b, by_bys, by_nils, load_cp1, beq_true, beq_false, Bool.not_eq_true', decide_eq_true_eq, decide_eq_false_iff_not, decide_true, decide_false,
 Int.toNat_natCast, Int.ofNat_lt, Int.ofNat_le, Int.natCast_inj, Bool.false_eq_true, Bool.true_eq_false, extPV, List.getElem?_cons_zero, List.getElem?_cons_succ, nilckPV, Int.reduceToNat, Int.reduceLE, true_and, and_true, reduceCtorEq, or_false, false_or, or_true, Option.some.injEq, exists_eq_left', Bool.not_true, Bool.not_false, ne_eq, Int.reduceEq, not_true_eq_false, not_false_eq_true, Int.reduceLT, UInt8.reduceLT, UInt8.reduceLE, UInt8.reduceToNat]
        exact retB g2 hk2 (bad (by rw [hlab]; exact hb)).symm
      · simp (maxSteps := 1000000) (disch := omega) only [g0, g3, g4, add_n, loopQ_normal, W_seq, W_region, W_cond, W_block, W_skip, W_label, W_exit, W_goto, W_ret, WO_cons, WO_consG, WO_nil, wantedA_eq, wantB, evOp, ev_tmp, ev_const, ev_fn, WN_some, WN_none, updO_some, updO_none, upd_eq,
 ↓reduceIte, Nat.reduceEqDiff, List.nil_append, List.cons_append, List.append_nil, List.map_cons, List.map_nil, env0_zero, env0_succ, env0_nil, Option.map_some, Option.map_none, seqQ_normal, seqQ_ret, seqQ_exit, seqQ_goto, blockQ_normal, blockQ_ret, blockQ_exit, blockQ_goto, condW_bool, loopQ_ret, loopQ_exit, loopQ_goto, endQ_ret, endQ_normal, keep_mk, keep_st,
 lss_i, leq_i, gtr_i, geq_i, eql_i, neq_i, eql_8, neq_8, lss_8, leq_8, gtr_8, geq_8, eql_s, neq_s, eql_b, neq_b, not_b, by_bys, by_nils, load_cp1, beq_true, beq_false, Bool.not_eq_true', decide_eq_true_eq, decide_eq_false_iff_not, decide_true, decide_false,
 Int.toNat_natCast, Int.ofNat_lt, Int.ofNat_le, Int.natCast_inj, Bool.false_eq_true, Bool.true_eq_false, extPV, List.getElem?_cons_zero, List.getElem?_cons_succ, nilckPV, Int.reduceToNat, Int.reduceLE, true_and, and_true, reduceCtorEq, or_false, false_or, or_true, Option.some.injEq, exists_eq_left', Bool.not_true, Bool.not_false, ne_eq, Int.reduceEq, not_true_eq_false, not_false_eq_true, Int.reduceLT, UInt8.reduceLT, UInt8.reduceLE, UInt8.reduceToNat]
        exact next (by rw [hlab]; exact hb) _ _ hk2 g0 g3 rfl
  · obtain rfl : i = xs.length := by omega
    simp (maxSteps := 1000000) (disch := omega) only [h0, h3, h4, hlen, hlt, len_s, W_seq, W_region, W_cond, W_block, W_skip, W_label, W_exit, W_goto, W_ret, WO_cons, WO_consG, WO_nil, wantedA_eq, wantB, evOp, ev_tmp, ev_const, ev_fn, WN_some, WN_none, updO_some, updO_none, upd_eq,
 ↓reduceIte, Nat.reduceEqDiff, List.nil_append, List.cons_append, List.append_nil, List.map_cons, List.map_nil, env0_zero, env0_succ, env0_nil, Option.map_some, Option.map_none, seqQ_normal, seqQ_ret, seqQ_exit, seqQ_goto, blockQ_normal, blockQ_ret, blockQ_exit, blockQ_goto, condW_bool, loopQ_ret, loopQ_exit, loopQ_goto, endQ_ret, endQ_normal, keep_mk, keep_st,
 lss_i, leq_i, gtr_i, geq_i, eql_i, neq_i, eql_8, neq_8, lss_8, leq_8, gtr_8, geq_8, eql_s, neq_s, eql_b, neq_b, not_b, by_bys, by_nils, load_cp1, beq_true, beq_false, Bool.not_eq_true', decide_eq_true_eq, decide_eq_false_iff_not, decide_true, decide_false,
 Int.toNat_natCast, Int.ofNat_lt, Int.ofNat_le, Int.natCast_inj, Bool.false_eq_true, Bool.true_eq_false, extPV, List.getElem?_cons_zero, List.getElem?_cons_succ, nilckPV, Int.reduceToNat, Int.reduceLE, true_and, and_true, reduceCtorEq, or_false, false_or, or_true, Option.some.injEq, exists_eq_left', Bool.not_true, Bool.not_false, ne_eq, Int.reduceEq, not_true_eq_false, not_false_eq_true, Int.reduceLT, UInt8.reduceLT, UInt8.reduceLE, UInt8.reduceToNat]
    have e253 : ((l.length : Int) ≤ 253) = (l.length ≤ 253) := by apply propext; omega
    exact retB rfl hk (by rw [all_getD' hall, Bool.and_true]; simp only [e253])
end Go.Ab

/-
  The calendar: plain.
-/
namespace Go.Ab
set_option linter.unusedVariables false
set_option linter.unusedSimpArgs false
set_option maxRecDepth 20000

/-- Is a year a leap year? -/
def lpY (y : Nat) : Bool := (y % 4 == 0 && y % 100 != 0) || y % 400 == 0
/-- How many days lie ahead of a year, from 1970 on. -/
def befY (y : Nat) : Nat := 365 * (y - 1970) + (y - 1) / 4 + (y - 1) / 400 - ((y - 1) / 100 + 477)
/-- How many days a month has. -/
def mdY (y m : Nat) : Nat := if m = 2 then (if lpY y then 29 else 28) else if m = 4 ∨ m = 6 ∨ m = 9 ∨ m = 11 then 30 else 31
/-- How many days of the year lie ahead of a month. -/
def cumY (y : Nat) : Nat → Nat
  | 0 => 0
  | m + 1 => cumY y m + if m = 0 then 0 else mdY y m

/-- The day n is the day d of the month m of the year y. -/
structure Ci (n y m d : Nat) : Prop where
  y1 : 1970 ≤ y
  y2 : y ≤ 9999
  m1 : 1 ≤ m
  m2 : m ≤ 12
  d1 : 1 ≤ d
  d2 : d ≤ mdY y m
  eq : n + 1 = befY y + cumY y m + d

end Go.Ab

/-
  Dates: two digits, names, the calendar's walk (the program's).
-/
namespace Go.Ab
set_option linter.unusedVariables false
set_option linter.unusedSimpArgs false
set_option maxRecDepth 20000
variable {st s : St} {e : Env}

theorem cU8 {k : IntKind} {n : Nat} (h : n < 256) : cIntPV .u8 (.int k (n : Int)) = some (.b8 (UInt8.ofNat n)) := by
  simp only [cIntPV, Option.some.injEq]
  have : IntKind.u8.wrap (n : Int) = n := by
    unfold IntKind.wrap
    simp only [IntKind.signed, IntKind.bits]
    simp
    omega
  rw [this]; simp

end Go.Ab

/-
  A day's year, month and day: both walks.
-/
namespace Go.Ab
set_option linter.unusedVariables false
set_option linter.unusedSimpArgs false
set_option maxRecDepth 20000
variable {st s : St} {e : Env}

/-! ### The document's -/
end Go.Ab

/-
  Dates are written, both ways; the law DatePrints.
-/
namespace Go.Ab
set_option linter.unusedVariables false
set_option linter.unusedSimpArgs false
set_option maxRecDepth 20000
variable {st s : St} {e : Env}

theorem Time_spec {t : Int} : call prog (.fn 209 []) [.int .i64 t] st = some (.bool (decide (0 ≤ t ∧ t ≤ 253402300799)), st) := by
  refine call_of_W prog_209 ?_
  unfold F_posthornref12_Time; dsimp only
  by_cases h1 : 0 ≤ t
  · by_cases h2 : t < 253402300800
    · simp (maxSteps := 1000000) (disch := omega) only [h1, h2, W_seq, W_region, W_cond, W_block, W_skip, W_label, W_exit, W_goto, W_ret, WO_cons, WO_consG, WO_nil, wantedA_eq, wantB, evOp, ev_tmp, ev_const, ev_fn, WN_some, WN_none, updO_some, updO_none, upd_eq,
 ↓reduceIte, Nat.reduceEqDiff, List.nil_append, List.cons_append, List.append_nil, List.map_cons, List.map_nil, env0_zero, env0_succ, env0_nil, Option.map_some, Option.map_none, seqQ_normal, seqQ_ret, seqQ_exit, seqQ_goto, blockQ_normal, blockQ_ret, blockQ_exit, blockQ_goto, condW_bool, loopQ_ret, loopQ_exit, loopQ_goto, endQ_ret, endQ_normal, keep_mk, keep_st,
 lss_i, leq_i, gtr_i, geq_i, eql_i, neq_i, eql_8, neq_8, lss_8, leq_8, gtr_8, geq_8, eql_s, neq_s, eql_b, neq_b, not_b, by_bys, by_nils, load_cp1, beq_true, beq_false, Bool.not_eq_true', decide_eq_true_eq, decide_eq_false_iff_not, decide_true, decide_false,
 Int.toNat_natCast, Int.ofNat_lt, Int.ofNat_le, Int.natCast_inj, Bool.false_eq_true, Bool.true_eq_false, extPV, List.getElem?_cons_zero, List.getElem?_cons_succ, nilckPV, Int.reduceToNat, Int.reduceLE, true_and, and_true, reduceCtorEq, or_false, false_or, or_true, Option.some.injEq, exists_eq_left', Bool.not_true, Bool.not_false, ne_eq, Int.reduceEq, not_true_eq_false, not_false_eq_true, Int.reduceLT, UInt8.reduceLT, UInt8.reduceLE, UInt8.reduceToNat]
      exact retB rfl Kept.start (by have : t ≤ 253402300799 := by omega
                                    simp [h1, this])
    · simp (maxSteps := 1000000) (disch := omega) only [h1, h2, W_seq, W_region, W_cond, W_block, W_skip, W_label, W_exit, W_goto, W_ret, WO_cons, WO_consG, WO_nil, wantedA_eq, wantB, evOp, ev_tmp, ev_const, ev_fn, WN_some, WN_none, updO_some, updO_none, upd_eq,
 ↓reduceIte, Nat.reduceEqDiff, List.nil_append, List.cons_append, List.append_nil, List.map_cons, List.map_nil, env0_zero, env0_succ, env0_nil, Option.map_some, Option.map_none, seqQ_normal, seqQ_ret, seqQ_exit, seqQ_goto, blockQ_normal, blockQ_ret, blockQ_exit, blockQ_goto, condW_bool, loopQ_ret, loopQ_exit, loopQ_goto, endQ_ret, endQ_normal, keep_mk, keep_st,
 lss_i, leq_i, gtr_i, geq_i, eql_i, neq_i, eql_8, neq_8, lss_8, leq_8, gtr_8, geq_8, eql_s, neq_s, eql_b, neq_b, not_b, by_bys, by_nils, load_cp1, beq_true, beq_false, Bool.not_eq_true', decide_eq_true_eq, decide_eq_false_iff_not, decide_true, decide_false,
 Int.toNat_natCast, Int.ofNat_lt, Int.ofNat_le, Int.natCast_inj, Bool.false_eq_true, Bool.true_eq_false, extPV, List.getElem?_cons_zero, List.getElem?_cons_succ, nilckPV, Int.reduceToNat, Int.reduceLE, true_and, and_true, reduceCtorEq, or_false, false_or, or_true, Option.some.injEq, exists_eq_left', Bool.not_true, Bool.not_false, ne_eq, Int.reduceEq, not_true_eq_false, not_false_eq_true, Int.reduceLT, UInt8.reduceLT, UInt8.reduceLE, UInt8.reduceToNat]
      exact retB rfl Kept.start (by have : ¬ t ≤ 253402300799 := by omega
                                    simp [h1, this])
  · simp (maxSteps := 1000000) (disch := omega) only [h1, W_seq, W_region, W_cond, W_block, W_skip, W_label, W_exit, W_goto, W_ret, WO_cons, WO_consG, WO_nil, wantedA_eq, wantB, evOp, ev_tmp, ev_const, ev_fn, WN_some, WN_none, updO_some, updO_none, upd_eq,
 ↓reduceIte, Nat.reduceEqDiff, List.nil_append, List.cons_append, List.append_nil, List.map_cons, List.map_nil, env0_zero, env0_succ, env0_nil, Option.map_some, Option.map_none, seqQ_normal, seqQ_ret, seqQ_exit, seqQ_goto, blockQ_normal, blockQ_ret, blockQ_exit, blockQ_goto, condW_bool, loopQ_ret, loopQ_exit, loopQ_goto, endQ_ret, endQ_normal, keep_mk, keep_st,
 lss_i, leq_i, gtr_i, geq_i, eql_i, neq_i, eql_8, neq_8, lss_8, leq_8, gtr_8, geq_8, eql_s, neq_s, eql_b, neq_b, not_b, by_bys, by_nils, load_cp1, beq_true, beq_false, Bool.not_eq_true', decide_eq_true_eq, decide_eq_false_iff_not, decide_true, decide_false,
 Int.toNat_natCast, Int.ofNat_lt, Int.ofNat_le, Int.natCast_inj, Bool.false_eq_true, Bool.true_eq_false, extPV, List.getElem?_cons_zero, List.getElem?_cons_succ, nilckPV, Int.reduceToNat, Int.reduceLE, true_and, and_true, reduceCtorEq, or_false, false_or, or_true, Option.some.injEq, exists_eq_left', Bool.not_true, Bool.not_false, ne_eq, Int.reduceEq, not_true_eq_false, not_false_eq_true, Int.reduceLT, UInt8.reduceLT, UInt8.reduceLE, UInt8.reduceToNat]
    exact retB rfl Kept.start (by simp [h1])

end Go.Ab

/-
  The document's plain addresses and ids.
-/
namespace Go.Ab
set_option linter.unusedVariables false
set_option linter.unusedSimpArgs false
set_option maxRecDepth 20000
variable {st s : St} {e : Env}

theorem stripT {a b c : Bs} : strip (.agg [.str a, .str b, .str c]) = some (.agg [.str a, .str b, .str c]) := rfl
theorem lcT0 {a : PV} {r : List PV} : loadcPV false 1 (.cp ((a :: r).drop 0)) = some a := rfl
theorem lcT1 {a b : PV} {r : List PV} : loadcPV false 1 (.cp ((a :: b :: r).drop 1)) = some b := rfl
theorem lcT2 {a b c : PV} {r : List PV} : loadcPV false 1 (.cp ((a :: b :: c :: r).drop 2)) = some c := rfl
theorem faT {cells : List PV} {off : Nat} : faddrPV off (.cp cells) = some (.cp (cells.drop off)) := rfl

theorem rRight_spec {a : Adr} (h : okA a) : call prog (.fn 216 []) [aV a] st = some (.bool (rightA a), st) := by
  refine call_of_W prog_216 ?_
  unfold F_posthornref07_Right; dsimp only
  obtain ⟨n, l, d⟩ := a
  have hn := h.n; have hl := h.l; have hd := h.d
  simp only at hn hl hd
  have hA := fun S : St => ratoms_spec (st := S) (c := 46) hl
  have hD := fun S : St => rDomain_spec (st := S) hd
  have e64 : ((l.length : Int) ≤ 64) = (l.length ≤ 64) := by apply propext; omega
  have e128 : ((n.length : Int) ≤ 128) = (n.length ≤ 128) := by apply propext; omega
  simp (maxSteps := 1000000) (disch := omega) only [aV, stripT, cells_agg, Option.map_some, W_seq, W_region, W_cond, W_block, W_skip, W_label, W_exit, W_goto, W_ret, WO_cons, WO_consG, WO_nil, wantedA_eq, wantB, evOp, ev_tmp, ev_const, ev_fn, WN_some, WN_none, updO_some, updO_none, upd_eq,
 ↓reduceIte, Nat.reduceEqDiff, List.nil_append, List.cons_append, List.append_nil, List.map_cons, List.map_nil, env0_zero, env0_succ, env0_nil, Option.map_some, Option.map_none, seqQ_normal, seqQ_ret, seqQ_exit, seqQ_goto, blockQ_normal, blockQ_ret, blockQ_exit, blockQ_goto, condW_bool, loopQ_ret, loopQ_exit, loopQ_goto, endQ_ret, endQ_normal, keep_mk, keep_st,
 lss_i, leq_i, gtr_i, geq_i, eql_i, neq_i, eql_8, neq_8, lss_8, leq_8, gtr_8, geq_8, eql_s, neq_s, eql_b, neq_b, not_b, by_bys, by_nils, load_cp1, beq_true, beq_false, Bool.not_eq_true', decide_eq_true_eq, decide_eq_false_iff_not, decide_true, decide_false,
 Int.toNat_natCast, Int.ofNat_lt, Int.ofNat_le, Int.natCast_inj, Bool.false_eq_true, Bool.true_eq_false, extPV, List.getElem?_cons_zero, List.getElem?_cons_succ, nilckPV, Int.reduceToNat, Int.reduceLE, true_and, and_true, reduceCtorEq, or_false, false_or, or_true, Option.some.injEq, exists_eq_left', Bool.not_true, Bool.not_false, ne_eq, Int.reduceEq, not_true_eq_false, not_false_eq_true, Int.reduceLT, UInt8.reduceLT, UInt8.reduceLE, UInt8.reduceToNat]
  obtain ⟨I, hI⟩ : ∃ I : Nat → Env → St → Prop, I = fun k e s' => ∃ (i : Nat), k = n.length - i ∧ i ≤ n.length ∧ Kept st s' ∧ (∀ j, j < i → prC (n.getD j 0) = true) ∧ e 1 = .cp [.str n, .str l, .str d] ∧ e 3 = .int .i64 (i : Int) := ⟨_, rfl⟩
  refine W_loop I ?_ (n := n.length) (by
    rw [hI]
    exact ⟨0, rfl, by omega, Kept.start, fun j h => by omega, rfl, rfl⟩)
  intro k e s' hh
  rw [hI] at hh
  obtain ⟨i, rfl, hi, hk, hall, h1, h3⟩ := hh
  by_cases hlt : i < n.length
  · obtain ⟨c, hc⟩ : ∃ c, c = n.getD i 0 := ⟨_, rfl⟩
    have bad : prC c = false → ∀ E : Env, E 2 = .bool false → ∃ rv, resOf E s' [.tmp 2] = some rv ∧ leave st s' rv = (.bool (rightA (n, l, d)), st) := fun h E k2 =>
      retB k2 hk (by simp only [rightA, nmA, all_bad (p := prC) hlt (by rw [← hc]; exact h), Bool.false_and, Bool.and_false])
    have next : prC c = true → ∀ E : Env, E 1 = .cp [.str n, .str l, .str d] → E 3 = .int .i64 ((i + 1 : Nat) : Int) → ∃ m, m < n.length - i ∧ I m E s' := fun h E k0 k3 =>
      ⟨n.length - (i + 1), by omega, by
        rw [hI]
        refine ⟨i + 1, rfl, by omega, hk, fun j hj => ?_, k0, k3⟩
        by_cases hji : j = i
        · subst hji; rw [← hc]; exact h
        · exact hall j (by omega)⟩
    clear hI hall
    by_cases c1 : c < 32
    · simp (maxSteps := 1000000) (disch := omega) only [h1, h3, faT, lcT0, len_s, hlt, idx_s, ← hc, c1, W_seq, W_region, W_cond, W_block, W_skip, W_label, W_exit, W_goto, W_ret, WO_cons, WO_consG, WO_nil, wantedA_eq, wantB, evOp, ev_tmp, ev_const, ev_fn, WN_some, WN_none, updO_some, updO_none, upd_eq,
 ↓reduceIte, Nat.reduceEqDiff, List.nil_append, List.cons_append, List.append_nil, List.map_cons, List.map_nil, env0_zero, env0_succ, env0_nil, Option.map_some, Option.map_none, seqQ_normal, seqQ_ret, seqQ_exit, seqQ_goto, blockQ_normal, blockQ_ret, blockQ_exit, blockQ_goto, condW_bool, loopQ_ret, loopQ_exit, loopQ_goto, endQ_ret, endQ_normal, keep_mk, keep_st,
 lss_i, leq_i, gtr_i, geq_i, eql_i, neq_i, eql_8, neq_8, lss_8, leq_8, gtr_8, geq_8, eql_s, neq_s, eql_b, neq_b, not_b, by_bys, by_nils, load_cp1, beq_true, beq_false, Bool.not_eq_true', decide_eq_true_eq, decide_eq_false_iff_not, decide_true, decide_false,
 Int.toNat_natCast, Int.ofNat_lt, Int.ofNat_le, Int.natCast_inj, Bool.false_eq_true, Bool.true_eq_false, extPV, List.getElem?_cons_zero, List.getElem?_cons_succ, nilckPV, Int.reduceToNat, Int.reduceLE, true_and, and_true, reduceCtorEq, or_false, false_or, or_true, Option.some.injEq, exists_eq_left', Bool.not_true, Bool.not_false, ne_eq, Int.reduceEq, not_true_eq_false, not_false_eq_true, Int.reduceLT, UInt8.reduceLT, UInt8.reduceLE, UInt8.reduceToNat]
      exact bad (by simp only [prC, c1, decide_true, decide_false, Bool.and_true, Bool.true_and, Bool.and_false, Bool.false_and, Bool.or_true, Bool.true_or, Bool.or_false, Bool.false_or, Bool.not_true, Bool.not_false, not_true_eq_false, not_false_eq_true]) _ rfl
    · by_cases c2 : 126 < c
      · simp (maxSteps := 1000000) (disch := omega) only [h1, h3, faT, lcT0, len_s, hlt, idx_s, ← hc, c1, c2, W_seq, W_region, W_cond, W_block, W_skip, W_label, W_exit, W_goto, W_ret, WO_cons, WO_consG, WO_nil, wantedA_eq, wantB, evOp, ev_tmp, ev_const, ev_fn, WN_some, WN_none, updO_some, updO_none, upd_eq,
 ↓reduceIte, Nat.reduceEqDiff, List.nil_append, List.cons_append, List.append_nil, List.map_cons, List.map_nil, env0_zero, env0_succ, env0_nil, Option.map_some, Option.map_none, seqQ_normal, seqQ_ret, seqQ_exit, seqQ_goto, blockQ_normal, blockQ_ret, blockQ_exit, blockQ_goto, condW_bool, loopQ_ret, loopQ_exit, loopQ_goto, endQ_ret, endQ_normal, keep_mk, keep_st,
 lss_i, leq_i, gtr_i, geq_i, eql_i, neq_i, eql_8, neq_8, lss_8, leq_8, gtr_8, geq_8, eql_s, neq_s, eql_b, neq_b, not_b, by_bys, by_nils, load_cp1, beq_true, beq_false, Bool.not_eq_true', decide_eq_true_eq, decide_eq_false_iff_not, decide_true, decide_false,
 Int.toNat_natCast, Int.ofNat_lt, Int.ofNat_le, Int.natCast_inj, Bool.false_eq_true, Bool.true_eq_false, extPV, List.getElem?_cons_zero, List.getElem?_cons_succ, nilckPV, Int.reduceToNat, Int.reduceLE, true_and, and_true, reduceCtorEq, or_false, false_or, or_true, Option.some.injEq, exists_eq_left', Bool.not_true, Bool.not_false, ne_eq, Int.reduceEq, not_true_eq_false, not_false_eq_true, Int.reduceLT, UInt8.reduceLT, UInt8.reduceLE, UInt8.reduceToNat]
        exact bad (by simp only [prC, c1, c2, decide_true, decide_false, Bool.and_true, Bool.true_and, Bool.and_false, Bool.false_and, Bool.or_true, Bool.true_or, Bool.or_false, Bool.false_or, Bool.not_true, Bool.not_false, not_true_eq_false, not_false_eq_true]) _ rfl
      · simp (maxSteps := 1000000) (disch := omega) only [h1, h3, faT, lcT0, len_s, hlt, idx_s, ← hc, c1, c2, add_n, loopQ_normal, W_seq, W_region, W_cond, W_block, W_skip, W_label, W_exit, W_goto, W_ret, WO_cons, WO_consG, WO_nil, wantedA_eq, wantB, evOp, ev_tmp, ev_const, ev_fn, WN_some, WN_none, updO_some, updO_none, upd_eq,
 ↓reduceIte, Nat.reduceEqDiff, List.nil_append, List.cons_append, List.append_nil, List.map_cons, List.map_nil, env0_zero, env0_succ, env0_nil, Option.map_some, Option.map_none, seqQ_normal, seqQ_ret, seqQ_exit, seqQ_goto, blockQ_normal, blockQ_ret, blockQ_exit, blockQ_goto, condW_bool, loopQ_ret, loopQ_exit, loopQ_goto, endQ_ret, endQ_normal, keep_mk, keep_st,
 lss_i, leq_i, gtr_i, geq_i, eql_i, neq_i, eql_8, neq_8, lss_8, leq_8, gtr_8, geq_8, eql_s, neq_s, eql_b, neq_b, not_b, by_bys, by_nils, load_cp1, beq_true, beq_false, Bool.not_eq_true', decide_eq_true_eq, decide_eq_false_iff_not, decide_true, decide_false,
 Int.toNat_natCast, Int.ofNat_lt, Int.ofNat_le, Int.natCast_inj, Bool.false_eq_true, Bool.true_eq_false, extPV, List.getElem?_cons_zero, List.getElem?_cons_succ, nilckPV, Int.reduceToNat, Int.reduceLE, true_and, and_true, reduceCtorEq, or_false, false_or, or_true, Option.some.injEq, exists_eq_left', Bool.not_true, Bool.not_false, ne_eq, Int.reduceEq, not_true_eq_false, not_false_eq_true, Int.reduceLT, UInt8.reduceLT, UInt8.reduceLE, UInt8.reduceToNat]
        exact next (by simp only [prC, c1, c2, decide_true, decide_false, Bool.and_true, Bool.true_and, Bool.and_false, Bool.false_and, Bool.or_true, Bool.true_or, Bool.or_false, Bool.false_or, Bool.not_true, Bool.not_false, not_true_eq_false, not_false_eq_true]) _ h1 rfl
  · obtain rfl : i = n.length := by omega
    have hpr := all_getD (p := prC) hall
    by_cases c1 : n.length ≤ 128
    · by_cases c2 : l.length ≤ 64
      · cases c3 : partsB 46 atomB l with
        | true =>
          rw [c3] at hA
          simp (maxSteps := 1000000) (disch := omega) only [h1, h3, faT, lcT0, lcT1, lcT2, len_s, hlt, e64, e128, c1, c2, hA, hD, W_seq, W_region, W_cond, W_block, W_skip, W_label, W_exit, W_goto, W_ret, WO_cons, WO_consG, WO_nil, wantedA_eq, wantB, evOp, ev_tmp, ev_const, ev_fn, WN_some, WN_none, updO_some, updO_none, upd_eq,
 ↓reduceIte, Nat.reduceEqDiff, List.nil_append, List.cons_append, List.append_nil, List.map_cons, List.map_nil, env0_zero, env0_succ, env0_nil, Option.map_some, Option.map_none, seqQ_normal, seqQ_ret, seqQ_exit, seqQ_goto, blockQ_normal, blockQ_ret, blockQ_exit, blockQ_goto, condW_bool, loopQ_ret, loopQ_exit, loopQ_goto, endQ_ret, endQ_normal, keep_mk, keep_st,
 lss_i, leq_i, gtr_i, geq_i, eql_i, neq_i, eql_8, neq_8, lss_8, leq_8, gtr_8, geq_8, eql_s, neq_s, eql_b, neq_b, not_b, by_bys, by_nils, load_cp1, beq_true, beq_false, Bool.not_eq_true', decide_eq_true_eq, decide_eq_false_iff_not, decide_true, decide_false,
 Int.toNat_natCast, Int.ofNat_lt, Int.ofNat_le, Int.natCast_inj, Bool.false_eq_true, Bool.true_eq_false, extPV, List.getElem?_cons_zero, List.getElem?_cons_succ, nilckPV, Int.reduceToNat, Int.reduceLE, true_and, and_true, reduceCtorEq, or_false, false_or, or_true, Option.some.injEq, exists_eq_left', Bool.not_true, Bool.not_false, ne_eq, Int.reduceEq, not_true_eq_false, not_false_eq_true, Int.reduceLT, UInt8.reduceLT, UInt8.reduceLE, UInt8.reduceToNat]
          exact retB rfl hk (by simp only [rightA, nmA, hpr, c1, c2, c3, decide_true, decide_false, Bool.and_true, Bool.true_and, Bool.and_false, Bool.false_and, Bool.or_true, Bool.true_or, Bool.or_false, Bool.false_or, Bool.not_true, Bool.not_false, not_true_eq_false, not_false_eq_true])
        | false =>
          rw [c3] at hA
          simp (maxSteps := 1000000) (disch := omega) only [h1, h3, faT, lcT0, lcT1, lcT2, len_s, hlt, e64, e128, c1, c2, hA, W_seq, W_region, W_cond, W_block, W_skip, W_label, W_exit, W_goto, W_ret, WO_cons, WO_consG, WO_nil, wantedA_eq, wantB, evOp, ev_tmp, ev_const, ev_fn, WN_some, WN_none, updO_some, updO_none, upd_eq,
 ↓reduceIte, Nat.reduceEqDiff, List.nil_append, List.cons_append, List.append_nil, List.map_cons, List.map_nil, env0_zero, env0_succ, env0_nil, Option.map_some, Option.map_none, seqQ_normal, seqQ_ret, seqQ_exit, seqQ_goto, blockQ_normal, blockQ_ret, blockQ_exit, blockQ_goto, condW_bool, loopQ_ret, loopQ_exit, loopQ_goto, endQ_ret, endQ_normal, keep_mk, keep_st,
 lss_i, leq_i, gtr_i, geq_i, eql_i, neq_i, eql_8, neq_8, lss_8, leq_8, gtr_8, geq_8, eql_s, neq_s, eql_b, neq_b, not_b, by_bys, by_nils, load_cp1, beq_true, beq_false, Bool.not_eq_true', decide_eq_true_eq, decide_eq_false_iff_not, decide_true, decide_false,
 Int.toNat_natCast, Int.ofNat_lt, Int.ofNat_le, Int.natCast_inj, Bool.false_eq_true, Bool.true_eq_false, extPV, List.getElem?_cons_zero, List.getElem?_cons_succ, nilckPV, Int.reduceToNat, Int.reduceLE, true_and, and_true, reduceCtorEq, or_false, false_or, or_true, Option.some.injEq, exists_eq_left', Bool.not_true, Bool.not_false, ne_eq, Int.reduceEq, not_true_eq_false, not_false_eq_true, Int.reduceLT, UInt8.reduceLT, UInt8.reduceLE, UInt8.reduceToNat]
          exact retB rfl hk (by simp only [rightA, nmA, hpr, c1, c2, c3, decide_true, decide_false, Bool.and_true, Bool.true_and, Bool.and_false, Bool.false_and, Bool.or_true, Bool.true_or, Bool.or_false, Bool.false_or, Bool.not_true, Bool.not_false, not_true_eq_false, not_false_eq_true])
      · simp (maxSteps := 1000000) (disch := omega) only [h1, h3, faT, lcT0, lcT1, lcT2, len_s, hlt, e64, e128, c1, c2, W_seq, W_region, W_cond, W_block, W_skip, W_label, W_exit, W_goto, W_ret, WO_cons, WO_consG, WO_nil, wantedA_eq, wantB, evOp, ev_tmp, ev_const, ev_fn, WN_some, WN_none, updO_some, updO_none, upd_eq,
 ↓reduceIte, Nat.reduceEqDiff, List.nil_append, List.cons_append, List.append_nil, List.map_cons, List.map_nil, env0_zero, env0_succ, env0_nil, Option.map_some, Option.map_none, seqQ_normal, seqQ_ret, seqQ_exit, seqQ_goto, blockQ_normal, blockQ_ret, blockQ_exit, blockQ_goto, condW_bool, loopQ_ret, loopQ_exit, loopQ_goto, endQ_ret, endQ_normal, keep_mk, keep_st,
 lss_i, leq_i, gtr_i, geq_i, eql_i, neq_i, eql_8, neq_8, lss_8, leq_8, gtr_8, geq_8, eql_s, neq_s, eql_b, neq_b, not_b, by_bys, by_nils, load_cp1, beq_true, beq_false, Bool.not_eq_true', decide_eq_true_eq, decide_eq_false_iff_not, decide_true, decide_false,
 Int.toNat_natCast, Int.ofNat_lt, Int.ofNat_le, Int.natCast_inj, Bool.false_eq_true, Bool.true_eq_false, extPV, List.getElem?_cons_zero, List.getElem?_cons_succ, nilckPV, Int.reduceToNat, Int.reduceLE, true_and, and_true, reduceCtorEq, or_false, false_or, or_true, Option.some.injEq, exists_eq_left', Bool.not_true, Bool.not_false, ne_eq, Int.reduceEq, not_true_eq_false, not_false_eq_true, Int.reduceLT, UInt8.reduceLT, UInt8.reduceLE, UInt8.reduceToNat]
        exact retB rfl hk (by simp only [rightA, nmA, hpr, c1, c2, decide_true, decide_false, Bool.and_true, Bool.true_and, Bool.and_false, Bool.false_and, Bool.or_true, Bool.true_or, Bool.or_false, Bool.false_or, Bool.not_true, Bool.not_false, not_true_eq_false, not_false_eq_true])
    · simp (maxSteps := 1000000) (disch := omega) only [h1, h3, faT, lcT0, lcT1, lcT2, len_s, hlt, e64, e128, c1, W_seq, W_region, W_cond, W_block, W_skip, W_label, W_exit, W_goto, W_ret, WO_cons, WO_consG, WO_nil, wantedA_eq, wantB, evOp, ev_tmp, ev_const, ev_fn, WN_some, WN_none, updO_some, updO_none, upd_eq,
 ↓reduceIte, Nat.reduceEqDiff, List.nil_append, List.cons_append, List.append_nil, List.map_cons, List.map_nil, env0_zero, env0_succ, env0_nil, Option.map_some, Option.map_none, seqQ_normal, seqQ_ret, seqQ_exit, seqQ_goto, blockQ_normal, blockQ_ret, blockQ_exit, blockQ_goto, condW_bool, loopQ_ret, loopQ_exit, loopQ_goto, endQ_ret, endQ_normal, keep_mk, keep_st,
 lss_i, leq_i, gtr_i, geq_i, eql_i, neq_i, eql_8, neq_8, lss_8, leq_8, gtr_8, geq_8, eql_s, neq_s, eql_b, neq_b, not_b, by_bys, by_nils, load_cp1, beq_true, beq_false, Bool.not_eq_true', decide_eq_true_eq, decide_eq_false_iff_not, decide_true, decide_false,
 Int.toNat_natCast, Int.ofNat_lt, Int.ofNat_le, Int.natCast_inj, Bool.false_eq_true, Bool.true_eq_false, extPV, List.getElem?_cons_zero, List.getElem?_cons_succ, nilckPV, Int.reduceToNat, Int.reduceLE, true_and, and_true, reduceCtorEq, or_false, false_or, or_true, Option.some.injEq, exists_eq_left', Bool.not_true, Bool.not_false, ne_eq, Int.reduceEq, not_true_eq_false, not_false_eq_true, Int.reduceLT, UInt8.reduceLT, UInt8.reduceLE, UInt8.reduceToNat]
      exact retB rfl hk (by simp only [rightA, nmA, hpr, c1, decide_true, decide_false, Bool.and_true, Bool.true_and, Bool.and_false, Bool.false_and, Bool.or_true, Bool.true_or, Bool.or_false, Bool.false_or, Bool.not_true, Bool.not_false, not_true_eq_false, not_false_eq_true])

/-! ### Parted at the sign -/
theorem lab_no {l : Bs} (h : 64 ∈ l) : partsB 46 labB l = false := by
  cases hp : partsB 46 labB l with
  | false => rfl
  | true =>
    rcases parts_chars (q := fun c => labC c = true) (fun x hx c hc => (lab_ne hx).2 c hc) hp 64 h with h1 | h1
    · exact absurd h1 (by decide)
    · exact absurd h1 (by decide)
theorem split_ne {sep : UInt8} : ∀ (l acc : Bs), splitOn sep acc l ≠ []
  | [], acc => by simp [splitOn]
  | c :: r, acc => by
    rw [splitOn]
    split
    · simp
    · exact split_ne r _
theorem split_two {r acc : Bs} : (splitOn 64 acc r).length = 1 ↔ 64 ∉ r := by
  rcases chr_split 64 r with ⟨h1, _⟩ | ⟨n, t, rfl, h2⟩
  · rw [split_none _ _ (fun c hc e => h1 (by rw [← e]; exact hc))]; simp [h1]
  · rw [split_at _ _ _ h2]
    constructor
    · intro h
      have := List.length_pos_iff.2 (split_ne (sep := 64) t [])
      rw [List.length_cons] at h; omega
    · intro h; exact absurd (by simp) h
theorem plain_parts (s : Bs) : ((splitOn 64 [] s).length ≠ 2 ∧ plainA s = (noA, 60)) ∨ ∃ l d, splitOn 64 [] s = [l, d] ∧ l.length ≤ s.length ∧ d.length ≤ s.length ∧ plainA s = if rightA ([], l, d) = true then (([], l, d), 0) else (noA, 60) := by
  rcases chr_split 64 s with ⟨h1, h2⟩ | ⟨n, t, rfl, h2⟩
  · left
    rw [split_none _ _ (fun c hc e => h1 (by rw [← e]; exact hc))]
    refine ⟨by simp, ?_⟩
    have hc : cutA s = ([], s, []) := by unfold cutA; rw [h2, if_neg (by decide)]
    unfold plainA
    rw [hc, if_neg]
    simp [rightA, partsB, splitOn, labB]
  · have hix := index_chr (k := 64) n t h2
    have hc : cutA (n ++ 64 :: t) = ([], n, t) := by
      unfold cutA
      rw [hix, if_pos (by omega), Int.toNat_natCast]
      simp [List.drop_append]
    have hp : plainA (n ++ 64 :: t) = if rightA ([], n, t) = true then (([], n, t), 0) else (noA, 60) := by unfold plainA; rw [hc]
    rw [split_at _ _ _ h2, List.nil_append]
    by_cases ht : 64 ∈ t
    · left
      refine ⟨?_, ?_⟩
      · have := mt (split_two (r := t) (acc := [])).1 (by simpa using ht)
        simp; omega
      · rw [hp, if_neg]
        simp [rightA, lab_no ht]
    · right
      rw [split_none t [] (fun c hc e => ht (by rw [← e]; exact hc))]
      exact ⟨n, t, rfl, by simp, by simp; omega, hp⟩

theorem rPlain_spec {s : Bs} (h : s.length ≤ 100000000) : call prog (.fn 213 []) [.str s] st = some (.tup [aV (plainA s).1, .int .i64 (plainA s).2], st) := by
  refine call_of_W prog_213 ?_
  unfold F_posthornref07_Plain; dsimp only
  have hsp := fun S : St => Parts_spec (st := S) (c := 64) h
  have hk1 : Kept st (St.tok1 ⟨st.boxes ++ [cA [] [] []], st.toks, st.loops, st.boxes.length⟩) := Kept.box1.tok1
  have hvs := newSl_vs (st := (⟨st.boxes ++ [cA [] [] []], st.toks, st.loops, st.boxes.length⟩ : St)) (esz := 1) (xs := (splitOn 64 [] s).map .str)
  obtain ⟨V, hV⟩ : ∃ V, V = newSl (⟨st.boxes ++ [cA [] [] []], st.toks, st.loops, st.boxes.length⟩ : St) 1 ((splitOn 64 [] s).map .str) := ⟨_, rfl⟩
  have hsp0 := hsp (⟨st.boxes ++ [cA [] [] []], st.toks, st.loops, st.boxes.length⟩ : St)
  rw [← hV] at hvs hsp0
  have hlen : lenPV false V = some (.int .i64 ((splitOn 64 [] s).length : Int)) := by rw [len_vs hvs, List.length_map]
  have hb0 : buildCells [.str [], .str [], .str []] [] = some (cA [] [] []) := rfl
  have hst : ∀ (n l d : Bs) (B : List (List PV)) T L lo, storePV ⟨B ++ [cA [] [] []], T, L, lo⟩ 3 (.ptr B.length 0) (.agg (cA n l d)) = some ⟨B ++ [cA n l d], T, L, lo⟩ := fun n l d B T L lo => st_aa
  have hlen1 : (st.boxes ++ [cA [] [] []]).length = st.boxes.length + 1 := by simp
  have fin1 : ∀ (E : Env) (x y z : Bs) (c : Int), E 2 = .ptr st.boxes.length 0 → E 3 = .int .i64 c → plainA s = ((x, y, z), c) →
      ∃ rv, resOf E ⟨st.boxes ++ [cA x y z], st.toks ++ [true], st.loops, st.boxes.length⟩ [.cell 2 true 3, .tmp 3] = some rv ∧ leave st ⟨st.boxes ++ [cA x y z], st.toks ++ [true], st.loops, st.boxes.length⟩ rv = (.tup [aV (plainA s).1, .int .i64 (plainA s).2], st) := by
    intro E x y z c k2 k3 hp
    have hk : Kept st (St.tok1 ⟨st.boxes ++ [cA x y z], st.toks, st.loops, st.boxes.length⟩) := (Kept.box1 (st := st) (z := cA x y z)).tok1
    refine ⟨.tup [.agg (cA x y z), .int .i64 c], ?_, ?_⟩
    · simp [resOf, rvAll, rv1, k2, k3, loadPV, readCells, notTup, packRes]
    · rw [hp]; exact hk.leave rfl (fun _ _ => rfl)
  have fin2 : ∀ (E : Env) (x y z : Bs) (w : List PV) (c : Int), E 2 = .ptr st.boxes.length 0 → E 3 = .int .i64 c → plainA s = ((x, y, z), c) →
      ∃ rv, resOf E ⟨st.boxes ++ [cA x y z] ++ [w], st.toks ++ [true], st.loops, st.boxes.length⟩ [.cell 2 true 3, .tmp 3] = some rv ∧ leave st ⟨st.boxes ++ [cA x y z] ++ [w], st.toks ++ [true], st.loops, st.boxes.length⟩ rv = (.tup [aV (plainA s).1, .int .i64 (plainA s).2], st) := by
    intro E x y z w c k2 k3 hp
    have hk : Kept st (St.tok1 ⟨st.boxes ++ [cA x y z] ++ [w], st.toks, st.loops, st.boxes.length⟩) := ((Kept.box1 (st := st) (z := cA x y z)).alloc).tok1
    refine ⟨.tup [.agg (cA x y z), .int .i64 c], ?_, ?_⟩
    · simp [resOf, rvAll, rv1, k2, k3, loadPV, readCells, notTup, packRes]
    · rw [hp]; exact hk.leave rfl (fun _ _ => rfl)
  rcases plain_parts s with ⟨p1, p2⟩ | ⟨l, d, p1, p3, p4, p2⟩
  · have e2 : ¬ ((splitOn 64 [] s).length : Int) = 2 := by omega
    simp (maxSteps := 1000000) (disch := omega) only [allocPV, hsp0, hlen, e2, hb0, St.tok1, hst, W_seq, W_region, W_cond, W_block, W_skip, W_label, W_exit, W_goto, W_ret, WO_cons, WO_consG, WO_nil, wantedA_eq, wantB, evOp, ev_tmp, ev_const, ev_fn, WN_some, WN_none, updO_some, updO_none, upd_eq,
 ↓reduceIte, Nat.reduceEqDiff, List.nil_append, List.cons_append, List.append_nil, List.map_cons, List.map_nil, env0_zero, env0_succ, env0_nil, Option.map_some, Option.map_none, seqQ_normal, seqQ_ret, seqQ_exit, seqQ_goto, blockQ_normal, blockQ_ret, blockQ_exit, blockQ_goto, condW_bool, loopQ_ret, loopQ_exit, loopQ_goto, endQ_ret, endQ_normal, keep_mk, keep_st,
 lss_i, leq_i, gtr_i, geq_i, eql_i, neq_i, eql_8, neq_8, lss_8, leq_8, gtr_8, geq_8, eql_s, neq_s, eql_b, neq_b, not_b, by_bys, by_nils, load_cp1, beq_true, beq_false, Bool.not_eq_true', decide_eq_true_eq, decide_eq_false_iff_not, decide_true, decide_false,
 Int.toNat_natCast, Int.ofNat_lt, Int.ofNat_le, Int.natCast_inj, Bool.false_eq_true, Bool.true_eq_false, extPV, List.getElem?_cons_zero, List.getElem?_cons_succ, nilckPV, Int.reduceToNat, Int.reduceLE, true_and, and_true, reduceCtorEq, or_false, false_or, or_true, Option.some.injEq, exists_eq_left', Bool.not_true, Bool.not_false, ne_eq, Int.reduceEq, not_true_eq_false, not_false_eq_true, Int.reduceLT, UInt8.reduceLT, UInt8.reduceLE, UInt8.reduceToNat]
    exact fin1 _ [] [] [] 60 rfl rfl p2
  · have hvs2 : V.vs 1 = some ([l, d].map .str) := by rw [hvs, p1]
    have e2 : ((splitOn 64 [] s).length : Int) = 2 := by rw [p1]; rfl
    have z0 : iaddrPV 1 V (.int .i64 0) = some (.cp [.str l]) := iaddr_t hvs2 (by decide) (by simp)
    have z1 : iaddrPV 1 V (.int .i64 1) = some (.cp [.str d]) := iaddr_t hvs2 (by decide) (by simp)
    have c0 : ∀ v : PV, loadcPV false 1 (.cp [v]) = some v := fun _ => rfl
    have hbuild : buildCells [.str [], .str [], .str []] [(1, 1, .str l), (2, 1, .str d)] = some (cA [] l d) := rfl
    have hR := fun S : St => rRight_spec (st := S) (a := ([], l, d)) ⟨by simp, by simp only; omega, by simp only; omega⟩
    simp only [aV] at hR
    have hs2 : ∀ T L lo, storePV ⟨st.boxes ++ [cA [] [] []] ++ [cA [] [] []], T, L, lo⟩ 3 (.ptr (st.boxes.length + 1) 0) (.agg (cA [] l d)) = some ⟨st.boxes ++ [cA [] [] []] ++ [cA [] l d], T, L, lo⟩ := fun T L lo => by
      have := st_aa (B := st.boxes ++ [cA [] [] []]) (T := T) (L := L) (lo := lo) (a := []) (b := []) (c := []) (a' := []) (b' := l) (c' := d)
      rw [hlen1] at this; exact this
    have hl2 : ∀ x T L lo, loadPV ⟨st.boxes ++ [x] ++ [cA [] l d], T, L, lo⟩ true 3 (.ptr (st.boxes.length + 1) 0) = some (.agg (cA [] l d)) := fun x T L lo => by
      have := ld_aa (B := st.boxes ++ [x]) (T := T) (L := L) (lo := lo) (a := []) (b := l) (c := d)
      simpa using this
    have hs0 : ∀ (x y z : Bs) (w : List PV) T L lo, storePV ⟨st.boxes ++ [cA [] [] []] ++ [w], T, L, lo⟩ 3 (.ptr st.boxes.length 0) (.agg (cA x y z)) = some ⟨st.boxes ++ [cA x y z] ++ [w], T, L, lo⟩ := fun x y z w T L lo => by
      simp [storePV, PV.cells, PV.inB, PV.inB.inBAll, setCells, hasTok, tokOf, leafOk]
    cases hr : rightA ([], l, d) with
    | true =>
      rw [hr] at hR
      rw [if_pos hr] at p2
      simp (maxSteps := 1000000) (disch := omega) only [allocPV, hsp0, hlen, eq_true e2, z0, z1, c0, hbuild, hlen1, hs2, hl2, hR, hs0, St.tok1, W_seq, W_region, W_cond, W_block, W_skip, W_label, W_exit, W_goto, W_ret, WO_cons, WO_consG, WO_nil, wantedA_eq, wantB, evOp, ev_tmp, ev_const, ev_fn, WN_some, WN_none, updO_some, updO_none, upd_eq,
 ↓reduceIte, Nat.reduceEqDiff, List.nil_append, List.cons_append, List.append_nil, List.map_cons, List.map_nil, env0_zero, env0_succ, env0_nil, Option.map_some, Option.map_none, seqQ_normal, seqQ_ret, seqQ_exit, seqQ_goto, blockQ_normal, blockQ_ret, blockQ_exit, blockQ_goto, condW_bool, loopQ_ret, loopQ_exit, loopQ_goto, endQ_ret, endQ_normal, keep_mk, keep_st,
 lss_i, leq_i, gtr_i, geq_i, eql_i, neq_i, eql_8, neq_8, lss_8, leq_8, gtr_8, geq_8, eql_s, neq_s, eql_b, neq_b, not_b, by_bys, by_nils, load_cp1, beq_true, beq_false, Bool.not_eq_true', decide_eq_true_eq, decide_eq_false_iff_not, decide_true, decide_false,
 Int.toNat_natCast, Int.ofNat_lt, Int.ofNat_le, Int.natCast_inj, Bool.false_eq_true, Bool.true_eq_false, extPV, List.getElem?_cons_zero, List.getElem?_cons_succ, nilckPV, Int.reduceToNat, Int.reduceLE, true_and, and_true, reduceCtorEq, or_false, false_or, or_true, Option.some.injEq, exists_eq_left', Bool.not_true, Bool.not_false, ne_eq, Int.reduceEq, not_true_eq_false, not_false_eq_true, Int.reduceLT, UInt8.reduceLT, UInt8.reduceLE, UInt8.reduceToNat]
      exact fin2 _ [] l d _ 0 rfl rfl p2
    | false =>
      rw [hr] at hR
      rw [if_neg (by rw [hr]; simp)] at p2
      simp (maxSteps := 1000000) (disch := omega) only [allocPV, hsp0, hlen, eq_true e2, z0, z1, c0, hbuild, hb0, hlen1, hs2, hl2, hR, hs0, St.tok1, W_seq, W_region, W_cond, W_block, W_skip, W_label, W_exit, W_goto, W_ret, WO_cons, WO_consG, WO_nil, wantedA_eq, wantB, evOp, ev_tmp, ev_const, ev_fn, WN_some, WN_none, updO_some, updO_none, upd_eq,
 ↓reduceIte, Nat.reduceEqDiff, List.nil_append, List.cons_append, List.append_nil, List.map_cons, List.map_nil, env0_zero, env0_succ, env0_nil, Option.map_some, Option.map_none, seqQ_normal, seqQ_ret, seqQ_exit, seqQ_goto, blockQ_normal, blockQ_ret, blockQ_exit, blockQ_goto, condW_bool, loopQ_ret, loopQ_exit, loopQ_goto, endQ_ret, endQ_normal, keep_mk, keep_st,
 lss_i, leq_i, gtr_i, geq_i, eql_i, neq_i, eql_8, neq_8, lss_8, leq_8, gtr_8, geq_8, eql_s, neq_s, eql_b, neq_b, not_b, by_bys, by_nils, load_cp1, beq_true, beq_false, Bool.not_eq_true', decide_eq_true_eq, decide_eq_false_iff_not, decide_true, decide_false,
 Int.toNat_natCast, Int.ofNat_lt, Int.ofNat_le, Int.natCast_inj, Bool.false_eq_true, Bool.true_eq_false, extPV, List.getElem?_cons_zero, List.getElem?_cons_succ, nilckPV, Int.reduceToNat, Int.reduceLE, true_and, and_true, reduceCtorEq, or_false, false_or, or_true, Option.some.injEq, exists_eq_left', Bool.not_true, Bool.not_false, ne_eq, Int.reduceEq, not_true_eq_false, not_false_eq_true, Int.reduceLT, UInt8.reduceLT, UInt8.reduceLE, UInt8.reduceToNat]
      exact fin2 _ [] [] [] _ 60 rfl rfl p2
end Go.Ab
