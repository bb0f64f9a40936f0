/-
  Operations on texts; the library's and the document's searches in them.
-/
import Derived.Test.YtiiedcmkmnfdiaaA3
import Derived.KernelRfl
namespace Go.Ab
set_option linter.unusedVariables false
set_option linter.unusedSimpArgs false
variable {A : AP} {st : St} {e : Env}

theorem len_s {l : List UInt8} : lenPV true (.str l) = some (.int .i64 (l.length : Int)) := rfl
theorem idx_s {l : List UInt8} {k : IntKind} {c : Int} (h1 : 0 ≤ c) (h2 : c.toNat < l.length) : idxSPV (.str l) (.int k c) = some (.b8 (l.getD c.toNat 0)) := by
  simp [idxSPV, intOf, h1, show c < l.length by omega]
theorem slc_s_lo {l : List UInt8} {k : IntKind} {c : Int} (h1 : 0 ≤ c) (h2 : c.toNat ≤ l.length) : slcPV 0 (.str l) (some (.int k c)) none none = some (.str (l.drop c.toNat)) := by
  simp [slcPV, bnd, intOf, h1, show c ≤ l.length by omega]
theorem slc_s_hi {l : List UInt8} {k : IntKind} {c : Int} (h1 : 0 ≤ c) (h2 : c.toNat ≤ l.length) : slcPV 0 (.str l) none (some (.int k c)) none = some (.str (l.take c.toNat)) := by
  simp [slcPV, bnd, intOf, h1, show c ≤ l.length by omega]
theorem slc_s {l : List UInt8} {k k' : IntKind} {c d : Int} (h1 : 0 ≤ c) (h2 : c ≤ d) (h3 : d.toNat ≤ l.length) : slcPV 0 (.str l) (some (.int k c)) (some (.int k' d)) none = some (.str ((l.take d.toNat).drop c.toNat)) := by
  simp [slcPV, bnd, intOf, h1, show d ≤ l.length by omega, show 0 ≤ d by omega, show c ≤ max d 0 by omega]
theorem adds {ek : EK} {a b : List UInt8} (h : a.length + b.length ≤ 9223372036854775807) : binPV .add ek (.str a) (.str b) = some (.str (a ++ b)) := by
  simp [binPV, binS, h]

theorem drop_getD {l : List UInt8} {i : Nat} (h : i < l.length) : l.drop i = l.getD i 0 :: l.drop (i + 1) := by
  rw [List.drop_eq_getElem_cons h]; congr 1; simp [List.getD, h]
theorem take_getD {l : List UInt8} {i : Nat} (h : i < l.length) : l.take (i + 1) = l.take i ++ [l.getD i 0] := by
  rw [List.take_succ_eq_append_getElem h]; simp [List.getD, h]

/-- A text of one byte is a part just if the byte is in the text. -/
theorem index_one {l : List UInt8} {c : UInt8} : 0 ≤ Lib.index l [c] ↔ c ∈ l := by
  induction l with
  | nil => simp [Lib.index]
  | cons d r ih =>
    simp only [Lib.index]
    by_cases h : c = d
    · subst h; simp
    · have h' : ([c] : List UInt8).isPrefixOf (d :: r) = false := by simp [List.isPrefixOf, h]
      have hge := Lib.index_ge r [c]
      rw [h']
      simp only [Bool.false_eq_true, if_false, List.mem_cons, h, false_or]
      rw [← ih]
      split
      · rename_i h2; simp at h2; omega
      · rename_i h2; simp at h2; omega

/-- Is a text a part of another one? -/
def hasB (s t : List UInt8) : Bool := decide (0 ≤ Lib.index s t)
theorem hasB_one {s : List UInt8} {c : UInt8} : hasB s [c] = decide (c ∈ s) := by
  unfold hasB; congr 1; exact propext index_one

theorem strIndex_spec {a b : List UInt8} (h : a.length < 4294967281) : call prog (.fn 82 []) [.str a, .str b] st = some (.int .i64 (Lib.index a b), st) := by
  rw [call_prim prog_82]; simp [pStrIndex, h]
theorem strIndexByte_spec {a : List UInt8} {c : UInt8} : call prog (.fn 78 []) [.str a, .b8 c] st = some (.int .i64 (Lib.indexByte a c), st) := by
  rw [call_prim prog_78]; simp [pStrIndexByte]

theorem Index_spec {a b : List UInt8} (h : a.length < 4294967281) : call prog (.fn 76 []) [.str a, .str b] st = some (.int .i64 (Lib.index a b), st) := by
  refine call_of_W prog_76 ?_
  unfold F_strings_Index; dsimp only
  simp (maxSteps := 1000000) (disch := omega) only [strIndex_spec h, W_seq, W_region, W_cond, W_block, W_skip, W_label, W_exit, W_goto, W_ret, WO_cons, WO_consG, WO_nil, wantedA_eq, wantB, evOp, ev_tmp, ev_const, ev_fn, WN_some, WN_none, updO_some, updO_none, upd_eq,
 ↓reduceIte, Nat.reduceEqDiff, List.nil_append, List.cons_append, List.append_nil, List.map_cons, List.map_nil, env0_zero, env0_succ, env0_nil, Option.map_some, Option.map_none, seqQ_normal, seqQ_ret, seqQ_exit, seqQ_goto, blockQ_normal, blockQ_ret, blockQ_exit, blockQ_goto, condW_bool, loopQ_ret, loopQ_exit, loopQ_goto, endQ_ret, endQ_normal,
 lss_i, leq_i, gtr_i, geq_i, eql_i, neq_i, eql_8, neq_8, lss_8, leq_8, gtr_8, geq_8, eql_s, neq_s, eql_b, neq_b, not_b, by_bys, by_nils, load_cp1, beq_true, beq_false, Bool.not_eq_true', decide_eq_true_eq, decide_eq_false_iff_not, decide_true, decide_false,
 Int.toNat_natCast, Int.ofNat_lt, Int.ofNat_le, Int.natCast_inj, Bool.false_eq_true, Bool.true_eq_false, extPV, List.getElem?_cons_zero, List.getElem?_cons_succ, nilckPV, Int.reduceToNat, Int.reduceLE, true_and, and_true, reduceCtorEq, or_false, false_or, or_true, Option.some.injEq, exists_eq_left', Bool.not_true, Bool.not_false, ne_eq, Int.reduceEq, not_true_eq_false, not_false_eq_true, Int.reduceLT, UInt8.reduceLT, UInt8.reduceLE, UInt8.reduceToNat]
  exact end1 rfl Kp_int
theorem Contains_spec {a b : List UInt8} (h : a.length < 4294967281) : call prog (.fn 66 []) [.str a, .str b] st = some (.bool (hasB a b), st) := by
  refine call_of_W prog_66 ?_
  unfold F_strings_Contains; dsimp only
  simp (maxSteps := 1000000) (disch := omega) only [Index_spec h, W_seq, W_region, W_cond, W_block, W_skip, W_label, W_exit, W_goto, W_ret, WO_cons, WO_consG, WO_nil, wantedA_eq, wantB, evOp, ev_tmp, ev_const, ev_fn, WN_some, WN_none, updO_some, updO_none, upd_eq,
 ↓reduceIte, Nat.reduceEqDiff, List.nil_append, List.cons_append, List.append_nil, List.map_cons, List.map_nil, env0_zero, env0_succ, env0_nil, Option.map_some, Option.map_none, seqQ_normal, seqQ_ret, seqQ_exit, seqQ_goto, blockQ_normal, blockQ_ret, blockQ_exit, blockQ_goto, condW_bool, loopQ_ret, loopQ_exit, loopQ_goto, endQ_ret, endQ_normal,
 lss_i, leq_i, gtr_i, geq_i, eql_i, neq_i, eql_8, neq_8, lss_8, leq_8, gtr_8, geq_8, eql_s, neq_s, eql_b, neq_b, not_b, by_bys, by_nils, load_cp1, beq_true, beq_false, Bool.not_eq_true', decide_eq_true_eq, decide_eq_false_iff_not, decide_true, decide_false,
 Int.toNat_natCast, Int.ofNat_lt, Int.ofNat_le, Int.natCast_inj, Bool.false_eq_true, Bool.true_eq_false, extPV, List.getElem?_cons_zero, List.getElem?_cons_succ, nilckPV, Int.reduceToNat, Int.reduceLE, true_and, and_true, reduceCtorEq, or_false, false_or, or_true, Option.some.injEq, exists_eq_left', Bool.not_true, Bool.not_false, ne_eq, Int.reduceEq, not_true_eq_false, not_false_eq_true, Int.reduceLT, UInt8.reduceLT, UInt8.reduceLE, UInt8.reduceToNat]
  exact end1 rfl Kp_bool

theorem slHasPrefix_spec {a b : List UInt8} : call prog (.fn 79 []) [.str a, .str b] st = some (.bool (decide (b <+: a)), st) := by
  refine call_of_W prog_79 ?_
  unfold F_internal_stringslite_HasPrefix; dsimp only
  by_cases h : b.length ≤ a.length
  · simp (maxSteps := 1000000) (disch := omega) only [len_s, h, slc_s_hi, W_seq, W_region, W_cond, W_block, W_skip, W_label, W_exit, W_goto, W_ret, WO_cons, WO_consG, WO_nil, wantedA_eq, wantB, evOp, ev_tmp, ev_const, ev_fn, WN_some, WN_none, updO_some, updO_none, upd_eq,
 ↓reduceIte, Nat.reduceEqDiff, List.nil_append, List.cons_append, List.append_nil, List.map_cons, List.map_nil, env0_zero, env0_succ, env0_nil, Option.map_some, Option.map_none, seqQ_normal, seqQ_ret, seqQ_exit, seqQ_goto, blockQ_normal, blockQ_ret, blockQ_exit, blockQ_goto, condW_bool, loopQ_ret, loopQ_exit, loopQ_goto, endQ_ret, endQ_normal,
 lss_i, leq_i, gtr_i, geq_i, eql_i, neq_i, eql_8, neq_8, lss_8, leq_8, gtr_8, geq_8, eql_s, neq_s, eql_b, neq_b, not_b, by_bys, by_nils, load_cp1, beq_true, beq_false, Bool.not_eq_true', decide_eq_true_eq, decide_eq_false_iff_not, decide_true, decide_false,
 Int.toNat_natCast, Int.ofNat_lt, Int.ofNat_le, Int.natCast_inj, Bool.false_eq_true, Bool.true_eq_false, extPV, List.getElem?_cons_zero, List.getElem?_cons_succ, nilckPV, Int.reduceToNat, Int.reduceLE, true_and, and_true, reduceCtorEq, or_false, false_or, or_true, Option.some.injEq, exists_eq_left', Bool.not_true, Bool.not_false, ne_eq, Int.reduceEq, not_true_eq_false, not_false_eq_true, Int.reduceLT, UInt8.reduceLT, UInt8.reduceLE, UInt8.reduceToNat]
    rw [show decide (b <+: a) = decide (a.take b.length = b) by congr 1; rw [List.prefix_iff_eq_take]; exact propext eq_comm]
    exact end1 rfl Kp_bool
  · simp (maxSteps := 1000000) (disch := omega) only [len_s, h, W_seq, W_region, W_cond, W_block, W_skip, W_label, W_exit, W_goto, W_ret, WO_cons, WO_consG, WO_nil, wantedA_eq, wantB, evOp, ev_tmp, ev_const, ev_fn, WN_some, WN_none, updO_some, updO_none, upd_eq,
 ↓reduceIte, Nat.reduceEqDiff, List.nil_append, List.cons_append, List.append_nil, List.map_cons, List.map_nil, env0_zero, env0_succ, env0_nil, Option.map_some, Option.map_none, seqQ_normal, seqQ_ret, seqQ_exit, seqQ_goto, blockQ_normal, blockQ_ret, blockQ_exit, blockQ_goto, condW_bool, loopQ_ret, loopQ_exit, loopQ_goto, endQ_ret, endQ_normal,
 lss_i, leq_i, gtr_i, geq_i, eql_i, neq_i, eql_8, neq_8, lss_8, leq_8, gtr_8, geq_8, eql_s, neq_s, eql_b, neq_b, not_b, by_bys, by_nils, load_cp1, beq_true, beq_false, Bool.not_eq_true', decide_eq_true_eq, decide_eq_false_iff_not, decide_true, decide_false,
 Int.toNat_natCast, Int.ofNat_lt, Int.ofNat_le, Int.natCast_inj, Bool.false_eq_true, Bool.true_eq_false, extPV, List.getElem?_cons_zero, List.getElem?_cons_succ, nilckPV, Int.reduceToNat, Int.reduceLE, true_and, and_true, reduceCtorEq, or_false, false_or, or_true, Option.some.injEq, exists_eq_left', Bool.not_true, Bool.not_false, ne_eq, Int.reduceEq, not_true_eq_false, not_false_eq_true, Int.reduceLT, UInt8.reduceLT, UInt8.reduceLE, UInt8.reduceToNat]
    rw [show decide (b <+: a) = false by simp; intro hp; exact h hp.length_le]
    exact end1 rfl Kp_bool
theorem sHasPrefix_spec {a b : List UInt8} : call prog (.fn 72 []) [.str a, .str b] st = some (.bool (decide (b <+: a)), st) := by
  refine call_of_W prog_72 ?_
  unfold F_strings_HasPrefix; dsimp only
  simp (maxSteps := 1000000) (disch := omega) only [slHasPrefix_spec, W_seq, W_region, W_cond, W_block, W_skip, W_label, W_exit, W_goto, W_ret, WO_cons, WO_consG, WO_nil, wantedA_eq, wantB, evOp, ev_tmp, ev_const, ev_fn, WN_some, WN_none, updO_some, updO_none, upd_eq,
 ↓reduceIte, Nat.reduceEqDiff, List.nil_append, List.cons_append, List.append_nil, List.map_cons, List.map_nil, env0_zero, env0_succ, env0_nil, Option.map_some, Option.map_none, seqQ_normal, seqQ_ret, seqQ_exit, seqQ_goto, blockQ_normal, blockQ_ret, blockQ_exit, blockQ_goto, condW_bool, loopQ_ret, loopQ_exit, loopQ_goto, endQ_ret, endQ_normal,
 lss_i, leq_i, gtr_i, geq_i, eql_i, neq_i, eql_8, neq_8, lss_8, leq_8, gtr_8, geq_8, eql_s, neq_s, eql_b, neq_b, not_b, by_bys, by_nils, load_cp1, beq_true, beq_false, Bool.not_eq_true', decide_eq_true_eq, decide_eq_false_iff_not, decide_true, decide_false,
 Int.toNat_natCast, Int.ofNat_lt, Int.ofNat_le, Int.natCast_inj, Bool.false_eq_true, Bool.true_eq_false, extPV, List.getElem?_cons_zero, List.getElem?_cons_succ, nilckPV, Int.reduceToNat, Int.reduceLE, true_and, and_true, reduceCtorEq, or_false, false_or, or_true, Option.some.injEq, exists_eq_left', Bool.not_true, Bool.not_false, ne_eq, Int.reduceEq, not_true_eq_false, not_false_eq_true, Int.reduceLT, UInt8.reduceLT, UInt8.reduceLE, UInt8.reduceToNat]
  exact end1 rfl Kp_bool

/-- The first place from i on at which b stands in a. -/
theorem index_drop_none {a b : List UInt8} (h : ∀ i, i + b.length ≤ a.length → (a.drop i).take b.length ≠ b) : Lib.index a b = -1 := by
  apply Lib.index_none
  intro j hj
  cases hc : Lib.occAt a b j with
  | false => rfl
  | true =>
    rcases Lib.occAt_room hc with h1 | h1
    · rw [Lib.occAt_iff_take a b j h1] at hc
      exact absurd (by simpa using hc) (h j h1)
    · subst h1
      exact absurd rfl (h 0 (by simp))

theorem Has_spec {a b : List UInt8} (ha : a.length < 4611686018427387904) (hb : b.length < 4611686018427387904) : call prog (.fn 56 []) [.str a, .str b] st = some (.bool (hasB a b), st) := by
  refine call_of_W prog_56 ?_
  unfold F_posthornref04_Has; dsimp only
  simp (maxSteps := 1000000) (disch := omega) only [W_seq, W_region, W_cond, W_block, W_skip, W_label, W_exit, W_goto, W_ret, WO_cons, WO_consG, WO_nil, wantedA_eq, wantB, evOp, ev_tmp, ev_const, ev_fn, WN_some, WN_none, updO_some, updO_none, upd_eq,
 ↓reduceIte, Nat.reduceEqDiff, List.nil_append, List.cons_append, List.append_nil, List.map_cons, List.map_nil, env0_zero, env0_succ, env0_nil, Option.map_some, Option.map_none, seqQ_normal, seqQ_ret, seqQ_exit, seqQ_goto, blockQ_normal, blockQ_ret, blockQ_exit, blockQ_goto, condW_bool, loopQ_ret, loopQ_exit, loopQ_goto, endQ_ret, endQ_normal,
 lss_i, leq_i, gtr_i, geq_i, eql_i, neq_i, eql_8, neq_8, lss_8, leq_8, gtr_8, geq_8, eql_s, neq_s, eql_b, neq_b, not_b, by_bys, by_nils, load_cp1, beq_true, beq_false, Bool.not_eq_true', decide_eq_true_eq, decide_eq_false_iff_not, decide_true, decide_false,
 Int.toNat_natCast, Int.ofNat_lt, Int.ofNat_le, Int.natCast_inj, Bool.false_eq_true, Bool.true_eq_false, extPV, List.getElem?_cons_zero, List.getElem?_cons_succ, nilckPV, Int.reduceToNat, Int.reduceLE, true_and, and_true, reduceCtorEq, or_false, false_or, or_true, Option.some.injEq, exists_eq_left', Bool.not_true, Bool.not_false, ne_eq, Int.reduceEq, not_true_eq_false, not_false_eq_true, Int.reduceLT, UInt8.reduceLT, UInt8.reduceLE, UInt8.reduceToNat]
  obtain ⟨I, hI⟩ : ∃ I : Nat → Env → St → Prop, I = fun n e s => ∃ i : Nat, n = a.length + 1 - i ∧ i ≤ a.length + 1 ∧ (∀ j, j < i → (a.drop j).take b.length ≠ b) ∧ s = { boxes := st.boxes, toks := st.toks, loops := st.loops, low := st.boxes.length } ∧ e 0 = .str a ∧ e 1 = .str b ∧ e 5 = .int .i64 (i : Int) := ⟨_, rfl⟩
  refine W_loop I ?_ (n := a.length + 1) (by rw [hI]; exact ⟨0, rfl, by omega, fun j hj => by omega, rfl, rfl, rfl, rfl⟩)
  intro n e s h
  rw [hI] at h
  obtain ⟨i, rfl, hi, hn, rfl, h0, h1, h5⟩ := h
  have hadd : ∀ ek, binPV .add ek (.int .i64 (i : Int)) (.int .i64 (b.length : Int)) = some (.int .i64 ((i + b.length : Nat) : Int)) := fun ek => by
    rw [add_i (by omega) (by omega)]; simp
  by_cases hlt : i + b.length ≤ a.length
  · have hmid : (a.take (i + b.length)).drop i = (a.drop i).take b.length := by rw [List.drop_take]; simp
    by_cases hc : (a.drop i).take b.length = b
    · simp (maxSteps := 1000000) (disch := omega) only [h0, h1, h5, len_s, hadd, hlt, slc_s, hmid, eq_true hc, W_seq, W_region, W_cond, W_block, W_skip, W_label, W_exit, W_goto, W_ret, WO_cons, WO_consG, WO_nil, wantedA_eq, wantB, evOp, ev_tmp, ev_const, ev_fn, WN_some, WN_none, updO_some, updO_none, upd_eq,
 ↓reduceIte, Nat.reduceEqDiff, List.nil_append, List.cons_append, List.append_nil, List.map_cons, List.map_nil, env0_zero, env0_succ, env0_nil, Option.map_some, Option.map_none, seqQ_normal, seqQ_ret, seqQ_exit, seqQ_goto, blockQ_normal, blockQ_ret, blockQ_exit, blockQ_goto, condW_bool, loopQ_ret, loopQ_exit, loopQ_goto, endQ_ret, endQ_normal,
 lss_i, leq_i, gtr_i, geq_i, eql_i, neq_i, eql_8, neq_8, lss_8, leq_8, gtr_8, geq_8, eql_s, neq_s, eql_b, neq_b, not_b, by_bys, by_nils, load_cp1, beq_true, beq_false, Bool.not_eq_true', decide_eq_true_eq, decide_eq_false_iff_not, decide_true, decide_false,
 Int.toNat_natCast, Int.ofNat_lt, Int.ofNat_le, Int.natCast_inj, Bool.false_eq_true, Bool.true_eq_false, extPV, List.getElem?_cons_zero, List.getElem?_cons_succ, nilckPV, Int.reduceToNat, Int.reduceLE, true_and, and_true, reduceCtorEq, or_false, false_or, or_true, Option.some.injEq, exists_eq_left', Bool.not_true, Bool.not_false, ne_eq, Int.reduceEq, not_true_eq_false, not_false_eq_true, Int.reduceLT, UInt8.reduceLT, UInt8.reduceLE, UInt8.reduceToNat]
      have hocc : Lib.occAt a b i = true := by rw [Lib.occAt_iff_take a b i hlt]; simpa using hc
      have hfirst : Lib.index a b = i := by
        refine Lib.index_first (by omega) hocc (fun j hj => ?_)
        cases ho : Lib.occAt a b j with
        | false => rfl
        | true => rw [Lib.occAt_iff_take a b j (by omega)] at ho; exact absurd (by simpa using ho) (hn j hj)
      rw [show hasB a b = true by unfold hasB; rw [hfirst]; simp]
      exact end1 rfl Kp_bool
    · simp (maxSteps := 1000000) (disch := omega) only [h0, h1, h5, len_s, hadd, hlt, slc_s, hmid, hc, add_n, W_seq, W_region, W_cond, W_block, W_skip, W_label, W_exit, W_goto, W_ret, WO_cons, WO_consG, WO_nil, wantedA_eq, wantB, evOp, ev_tmp, ev_const, ev_fn, WN_some, WN_none, updO_some, updO_none, upd_eq,
 ↓reduceIte, Nat.reduceEqDiff, List.nil_append, List.cons_append, List.append_nil, List.map_cons, List.map_nil, env0_zero, env0_succ, env0_nil, Option.map_some, Option.map_none, seqQ_normal, seqQ_ret, seqQ_exit, seqQ_goto, blockQ_normal, blockQ_ret, blockQ_exit, blockQ_goto, condW_bool, loopQ_ret, loopQ_exit, loopQ_goto, endQ_ret, endQ_normal,
 lss_i, leq_i, gtr_i, geq_i, eql_i, neq_i, eql_8, neq_8, lss_8, leq_8, gtr_8, geq_8, eql_s, neq_s, eql_b, neq_b, not_b, by_bys, by_nils, load_cp1, beq_true, beq_false, Bool.not_eq_true', decide_eq_true_eq, decide_eq_false_iff_not, decide_true, decide_false,
 Int.toNat_natCast, Int.ofNat_lt, Int.ofNat_le, Int.natCast_inj, Bool.false_eq_true, Bool.true_eq_false, extPV, List.getElem?_cons_zero, List.getElem?_cons_succ, nilckPV, Int.reduceToNat, Int.reduceLE, true_and, and_true, reduceCtorEq, or_false, false_or, or_true, Option.some.injEq, exists_eq_left', Bool.not_true, Bool.not_false, ne_eq, Int.reduceEq, not_true_eq_false, not_false_eq_true, Int.reduceLT, UInt8.reduceLT, UInt8.reduceLE, UInt8.reduceToNat]
      refine loopQ_intro (m := a.length + 1 - (i + 1)) (by omega) ?_
      rw [hI]
      refine ⟨i + 1, rfl, by omega, fun j hj => ?_, rfl, h0, h1, rfl⟩
      by_cases hji : j = i
      · subst hji; exact hc
      · exact hn j (by omega)
  · simp (maxSteps := 1000000) (disch := omega) only [h0, h1, h5, len_s, hadd, hlt, W_seq, W_region, W_cond, W_block, W_skip, W_label, W_exit, W_goto, W_ret, WO_cons, WO_consG, WO_nil, wantedA_eq, wantB, evOp, ev_tmp, ev_const, ev_fn, WN_some, WN_none, updO_some, updO_none, upd_eq,
 ↓reduceIte, Nat.reduceEqDiff, List.nil_append, List.cons_append, List.append_nil, List.map_cons, List.map_nil, env0_zero, env0_succ, env0_nil, Option.map_some, Option.map_none, seqQ_normal, seqQ_ret, seqQ_exit, seqQ_goto, blockQ_normal, blockQ_ret, blockQ_exit, blockQ_goto, condW_bool, loopQ_ret, loopQ_exit, loopQ_goto, endQ_ret, endQ_normal,
 lss_i, leq_i, gtr_i, geq_i, eql_i, neq_i, eql_8, neq_8, lss_8, leq_8, gtr_8, geq_8, eql_s, neq_s, eql_b, neq_b, not_b, by_bys, by_nils, load_cp1, beq_true, beq_false, Bool.not_eq_true', decide_eq_true_eq, decide_eq_false_iff_not, decide_true, decide_false,
 Int.toNat_natCast, Int.ofNat_lt, Int.ofNat_le, Int.natCast_inj, Bool.false_eq_true, Bool.true_eq_false, extPV, List.getElem?_cons_zero, List.getElem?_cons_succ, nilckPV, Int.reduceToNat, Int.reduceLE, true_and, and_true, reduceCtorEq, or_false, false_or, or_true, Option.some.injEq, exists_eq_left', Bool.not_true, Bool.not_false, ne_eq, Int.reduceEq, not_true_eq_false, not_false_eq_true, Int.reduceLT, UInt8.reduceLT, UInt8.reduceLE, UInt8.reduceToNat]
    rw [show hasB a b = false by
      unfold hasB; rw [index_drop_none (fun j hj => hn j (by omega))]; rfl]
    exact end1 rfl Kp_bool
end Go.Ab

/-
  Names in small letters; fields of a name; how big a header is.
-/
namespace Go.Ab
set_option linter.unusedVariables false
set_option linter.unusedSimpArgs false
variable {st : St} {e : Env}

/-! ### Bytes in a box of one's own -/
def bst (st : St) (l : List UInt8) : St := ⟨st.boxes ++ [l.map .b8], st.toks, st.loops, st.boxes.length⟩
theorem bst_eq {l : List UInt8} : (⟨st.boxes ++ [l.map .b8], st.toks, st.loops, st.boxes.length⟩ : St) = bst st l := rfl
theorem iaddr_ms {b n : Nat} {k : IntKind} {c : Int} (h1 : 0 ≤ c) (h2 : c.toNat < n) : iaddrPV 1 (.ms b 0 n) (.int k c) = some (.ptr b c.toNat) := by
  simp [iaddrPV, intOf, h1, show c < n by omega]
theorem len_ms {b n : Nat} : lenPV false (.ms b 0 n) = some (.int .i64 (n : Int)) := rfl
theorem load_bst {l : List UInt8} {i : Nat} (h : i < l.length) : loadPV (bst st l) false 1 (.ptr st.boxes.length i) = some (.b8 (l.getD i 0)) := by
  simp only [loadPV, bst, get_app0]
  rw [← List.map_drop, drop_getD h]; rfl
theorem store_bst {l : List UInt8} {i : Nat} {c : UInt8} (h : i < l.length) : storePV (bst st l) 1 (.ptr st.boxes.length i) (.b8 c) = some (bst st (l.set i c)) := by
  simp only [storePV, bst, get_app0, PV.cells]
  have h2 : i + 1 ≤ l.length := by omega
  simp [h2, PV.inB, leafOk, setCells, hasTok, tokOf, List.map_set]
theorem bytesOf_map : ∀ l : List UInt8, bytesOf (l.map .b8) = some l := by
  intro l
  induction l with
  | nil => rfl
  | cons c r ih => simp [bytesOf, ih]
theorem b2s_bst {l : List UInt8} {n : Nat} (h : n = l.length) : b2s true (bst st l) (.ms st.boxes.length 0 n) = some l := by
  subst h
  simp only [b2s, if_true, src8, bst, get_app0]
  rw [if_pos (by simp), List.drop_zero, List.take_of_length_le (by simp), bytesOf_map]
theorem leave_bst {l : List UInt8} {v : PV} (h1 : v.inB st.boxes.length = true) (h2 : ∀ n toks, keepRes n toks v = (v, [])) : leave st (bst st l) v = (v, st) := by
  simp [leave, bst, h1, h2]

theorem add_8 {ek : EK} {a b : UInt8} : binPV .add ek (.b8 a) (.b8 b) = some (.b8 (a + b)) := rfl
theorem or_8 {ek : EK} {a b : UInt8} : binPV .or ek (.b8 a) (.b8 b) = some (.b8 (a ||| b)) := rfl

def lowC (c : UInt8) : UInt8 := if 65 ≤ c ∧ c ≤ 90 then c + 32 else c
def lowOf (s : List UInt8) : List UInt8 := s.map lowC

theorem lower_spec {s : List UInt8} (h : s.length ≤ 1000000) : call prog (.fn 167 []) [.str s] st = some (.str (lowOf s), st) := by
  refine call_of_W prog_167 ?_
  unfold F_fields_lower; dsimp only
  simp (maxSteps := 1000000) (disch := omega) only [bst_eq, len_ms, W_seq, W_region, W_cond, W_block, W_skip, W_label, W_exit, W_goto, W_ret, WO_cons, WO_consG, WO_nil, wantedA_eq, wantB, evOp, ev_tmp, ev_const, ev_fn, WN_some, WN_none, updO_some, updO_none, upd_eq,
 ↓reduceIte, Nat.reduceEqDiff, List.nil_append, List.cons_append, List.append_nil, List.map_cons, List.map_nil, env0_zero, env0_succ, env0_nil, Option.map_some, Option.map_none, seqQ_normal, seqQ_ret, seqQ_exit, seqQ_goto, blockQ_normal, blockQ_ret, blockQ_exit, blockQ_goto, condW_bool, loopQ_ret, loopQ_exit, loopQ_goto, endQ_ret, endQ_normal,
 lss_i, leq_i, gtr_i, geq_i, eql_i, neq_i, eql_8, neq_8, lss_8, leq_8, gtr_8, geq_8, eql_s, neq_s, eql_b, neq_b, not_b, by_bys, by_nils, load_cp1, beq_true, beq_false, Bool.not_eq_true', decide_eq_true_eq, decide_eq_false_iff_not, decide_true, decide_false,
 Int.toNat_natCast, Int.ofNat_lt, Int.ofNat_le, Int.natCast_inj, Bool.false_eq_true, Bool.true_eq_false, extPV, List.getElem?_cons_zero, List.getElem?_cons_succ, nilckPV, Int.reduceToNat, Int.reduceLE, true_and, and_true, reduceCtorEq, or_false, false_or, or_true, Option.some.injEq, exists_eq_left', Bool.not_true, Bool.not_false, ne_eq, Int.reduceEq, not_true_eq_false, not_false_eq_true, Int.reduceLT, UInt8.reduceLT, UInt8.reduceLE, UInt8.reduceToNat]
  obtain ⟨I, hI⟩ : ∃ I : Nat → Env → St → Prop, I = fun n e s' => ∃ (i : Nat) (l : List UInt8), n = s.length - i ∧ i ≤ s.length ∧ l = lowOf (s.take i) ++ s.drop i ∧ s' = bst st l ∧ e 3 = .ms st.boxes.length 0 s.length ∧ e 8 = .ms st.boxes.length 0 s.length ∧ e 9 = .int .i64 (s.length : Int) ∧ e 10 = .int .i64 (i : Int) := ⟨_, rfl⟩
  refine W_loop I ?_ (n := s.length) (by
    rw [hI]
    exact ⟨0, s, rfl, by omega, by simp [lowOf], rfl, rfl, rfl, rfl, rfl⟩)
  intro n e s' hh
  rw [hI] at hh
  obtain ⟨i, l, rfl, hi, hl, rfl, h3, h8, h9, h10⟩ := hh
  have hll : l.length = s.length := by rw [hl]; simp [lowOf]; omega
  by_cases hlt : i < s.length
  · obtain ⟨c, hc⟩ : ∃ c, c = s.getD i 0 := ⟨_, rfl⟩
    have hlc : l.getD i 0 = c := by
      rw [hl, hc]
      simp only [List.getD]
      rw [List.getElem?_append_right (by simp [lowOf]; omega)]
      simp [lowOf, Nat.min_eq_left hi]
    have hnext : ∀ (E : Env) (l' : List UInt8), l' = l.set i (lowC c) → E 3 = .ms st.boxes.length 0 s.length → E 8 = .ms st.boxes.length 0 s.length → E 9 = .int .i64 (s.length : Int) → E 10 = .int .i64 ((i + 1 : Nat) : Int) → I (s.length - (i + 1)) E (bst st l') := by
      intro E l' k0 k1 k2 k3 k4
      rw [hI]
      refine ⟨i + 1, l', rfl, by omega, ?_, rfl, k1, k2, k3, k4⟩
      rw [k0, hl, take_getD hlt, ← hc, drop_getD hlt]
      have hn : (lowOf (s.take i)).length = i := by simp [lowOf]; omega
      rw [List.set_append_right _ _ (by omega), hn]
      simp [lowOf]
    by_cases h65 : 65 ≤ c
    · by_cases h90 : c ≤ 90
      · simp (maxSteps := 1000000) (disch := omega) only [h3, h8, h9, h10, hlt, iaddr_ms, load_bst (st := st) (l := l) (i := i) (by omega), hlc, h65, h90, add_8, store_bst (st := st) (l := l) (i := i) (by omega), add_n, W_seq, W_region, W_cond, W_block, W_skip, W_label, W_exit, W_goto, W_ret, WO_cons, WO_consG, WO_nil, wantedA_eq, wantB, evOp, ev_tmp, ev_const, ev_fn, WN_some, WN_none, updO_some, updO_none, upd_eq,
 ↓reduceIte, Nat.reduceEqDiff, List.nil_append, List.cons_append, List.append_nil, List.map_cons, List.map_nil, env0_zero, env0_succ, env0_nil, Option.map_some, Option.map_none, seqQ_normal, seqQ_ret, seqQ_exit, seqQ_goto, blockQ_normal, blockQ_ret, blockQ_exit, blockQ_goto, condW_bool, loopQ_ret, loopQ_exit, loopQ_goto, endQ_ret, endQ_normal,
 lss_i, leq_i, gtr_i, geq_i, eql_i, neq_i, eql_8, neq_8, lss_8, leq_8, gtr_8, geq_8, eql_s, neq_s, eql_b, neq_b, not_b, by_bys, by_nils, load_cp1, beq_true, beq_false, Bool.not_eq_true', decide_eq_true_eq, decide_eq_false_iff_not, decide_true, decide_false,
 Int.toNat_natCast, Int.ofNat_lt, Int.ofNat_le, Int.natCast_inj, Bool.false_eq_true, Bool.true_eq_false, extPV, List.getElem?_cons_zero, List.getElem?_cons_succ, nilckPV, Int.reduceToNat, Int.reduceLE, true_and, and_true, reduceCtorEq, or_false, false_or, or_true, Option.some.injEq, exists_eq_left', Bool.not_true, Bool.not_false, ne_eq, Int.reduceEq, not_true_eq_false, not_false_eq_true, Int.reduceLT, UInt8.reduceLT, UInt8.reduceLE, UInt8.reduceToNat]
        exact loopQ_intro (m := s.length - (i + 1)) (by omega) (hnext _ (l.set i (c + 32)) (by simp [lowC, h65, h90]) h3 h8 h9 rfl)
      · simp (maxSteps := 1000000) (disch := omega) only [h3, h8, h9, h10, hlt, iaddr_ms, load_bst (st := st) (l := l) (i := i) (by omega), hlc, h65, h90, add_n, W_seq, W_region, W_cond, W_block, W_skip, W_label, W_exit, W_goto, W_ret, WO_cons, WO_consG, WO_nil, wantedA_eq, wantB, evOp, ev_tmp, ev_const, ev_fn, WN_some, WN_none, updO_some, updO_none, upd_eq,
 ↓reduceIte, Nat.reduceEqDiff, List.nil_append, List.cons_append, List.append_nil, List.map_cons, List.map_nil, env0_zero, env0_succ, env0_nil, Option.map_some, Option.map_none, seqQ_normal, seqQ_ret, seqQ_exit, seqQ_goto, blockQ_normal, blockQ_ret, blockQ_exit, blockQ_goto, condW_bool, loopQ_ret, loopQ_exit, loopQ_goto, endQ_ret, endQ_normal,
 lss_i, leq_i, gtr_i, geq_i, eql_i, neq_i, eql_8, neq_8, lss_8, leq_8, gtr_8, geq_8, eql_s, neq_s, eql_b, neq_b, not_b, by_bys, by_nils, load_cp1, beq_true, beq_false, Bool.not_eq_true', decide_eq_true_eq, decide_eq_false_iff_not, decide_true, decide_false,
 Int.toNat_natCast, Int.ofNat_lt, Int.ofNat_le, Int.natCast_inj, Bool.false_eq_true, Bool.true_eq_false, extPV, List.getElem?_cons_zero, List.getElem?_cons_succ, nilckPV, Int.reduceToNat, Int.reduceLE, true_and, and_true, reduceCtorEq, or_false, false_or, or_true, Option.some.injEq, exists_eq_left', Bool.not_true, Bool.not_false, ne_eq, Int.reduceEq, not_true_eq_false, not_false_eq_true, Int.reduceLT, UInt8.reduceLT, UInt8.reduceLE, UInt8.reduceToNat]
        exact loopQ_intro (m := s.length - (i + 1)) (by omega) (hnext _ l (by simp only [lowC, h90, and_false, if_false]; rw [← hlc, List.getD, List.getElem?_eq_getElem (by omega)]; simp) h3 h8 h9 rfl)
    · simp (maxSteps := 1000000) (disch := omega) only [h3, h8, h9, h10, hlt, iaddr_ms, load_bst (st := st) (l := l) (i := i) (by omega), hlc, h65, add_n, W_seq, W_region, W_cond, W_block, W_skip, W_label, W_exit, W_goto, W_ret, WO_cons, WO_consG, WO_nil, wantedA_eq, wantB, evOp, ev_tmp, ev_const, ev_fn, WN_some, WN_none, updO_some, updO_none, upd_eq,
 ↓reduceIte, Nat.reduceEqDiff, List.nil_append, List.cons_append, List.append_nil, List.map_cons, List.map_nil, env0_zero, env0_succ, env0_nil, Option.map_some, Option.map_none, seqQ_normal, seqQ_ret, seqQ_exit, seqQ_goto, blockQ_normal, blockQ_ret, blockQ_exit, blockQ_goto, condW_bool, loopQ_ret, loopQ_exit, loopQ_goto, endQ_ret, endQ_normal,
 lss_i, leq_i, gtr_i, geq_i, eql_i, neq_i, eql_8, neq_8, lss_8, leq_8, gtr_8, geq_8, eql_s, neq_s, eql_b, neq_b, not_b, by_bys, by_nils, load_cp1, beq_true, beq_false, Bool.not_eq_true', decide_eq_true_eq, decide_eq_false_iff_not, decide_true, decide_false,
 Int.toNat_natCast, Int.ofNat_lt, Int.ofNat_le, Int.natCast_inj, Bool.false_eq_true, Bool.true_eq_false, extPV, List.getElem?_cons_zero, List.getElem?_cons_succ, nilckPV, Int.reduceToNat, Int.reduceLE, true_and, and_true, reduceCtorEq, or_false, false_or, or_true, Option.some.injEq, exists_eq_left', Bool.not_true, Bool.not_false, ne_eq, Int.reduceEq, not_true_eq_false, not_false_eq_true, Int.reduceLT, UInt8.reduceLT, UInt8.reduceLE, UInt8.reduceToNat]
      exact loopQ_intro (m := s.length - (i + 1)) (by omega) (hnext _ l (by simp only [lowC, h65, false_and, if_false]; rw [← hlc, List.getD, List.getElem?_eq_getElem (by omega)]; simp) h3 h8 h9 rfl)
  · obtain rfl : i = s.length := by omega
    simp (maxSteps := 1000000) (disch := omega) only [h3, h8, h9, h10, hlt, b2s_bst (st := st) (l := l) hll.symm, W_seq, W_region, W_cond, W_block, W_skip, W_label, W_exit, W_goto, W_ret, WO_cons, WO_consG, WO_nil, wantedA_eq, wantB, evOp, ev_tmp, ev_const, ev_fn, WN_some, WN_none, updO_some, updO_none, upd_eq,
 ↓reduceIte, Nat.reduceEqDiff, List.nil_append, List.cons_append, List.append_nil, List.map_cons, List.map_nil, env0_zero, env0_succ, env0_nil, Option.map_some, Option.map_none, seqQ_normal, seqQ_ret, seqQ_exit, seqQ_goto, blockQ_normal, blockQ_ret, blockQ_exit, blockQ_goto, condW_bool, loopQ_ret, loopQ_exit, loopQ_goto, endQ_ret, endQ_normal,
 lss_i, leq_i, gtr_i, geq_i, eql_i, neq_i, eql_8, neq_8, lss_8, leq_8, gtr_8, geq_8, eql_s, neq_s, eql_b, neq_b, not_b, by_bys, by_nils, load_cp1, beq_true, beq_false, Bool.not_eq_true', decide_eq_true_eq, decide_eq_false_iff_not, decide_true, decide_false,
 Int.toNat_natCast, Int.ofNat_lt, Int.ofNat_le, Int.natCast_inj, Bool.false_eq_true, Bool.true_eq_false, extPV, List.getElem?_cons_zero, List.getElem?_cons_succ, nilckPV, Int.reduceToNat, Int.reduceLE, true_and, and_true, reduceCtorEq, or_false, false_or, or_true, Option.some.injEq, exists_eq_left', Bool.not_true, Bool.not_false, ne_eq, Int.reduceEq, not_true_eq_false, not_false_eq_true, Int.reduceLT, UInt8.reduceLT, UInt8.reduceLE, UInt8.reduceToNat]
    exact ⟨.str (lowOf s), by rw [hl]; simp [resOf, rvAll, rv1, upd_eq, notTup, packRes], leave_bst rfl (fun _ _ => rfl)⟩

theorem Same_spec {a b : List UInt8} (ha : a.length ≤ 1000000) (hb : b.length ≤ 1000000) : call prog (.fn 155 []) [.str a, .str b] st = some (.bool (decide (lowOf a = lowOf b)), st) := by
  refine call_of_W prog_155 ?_
  unfold F_fields_Same; dsimp only
  simp (maxSteps := 1000000) (disch := omega) only [lower_spec ha, lower_spec hb, W_seq, W_region, W_cond, W_block, W_skip, W_label, W_exit, W_goto, W_ret, WO_cons, WO_consG, WO_nil, wantedA_eq, wantB, evOp, ev_tmp, ev_const, ev_fn, WN_some, WN_none, updO_some, updO_none, upd_eq,
 ↓reduceIte, Nat.reduceEqDiff, List.nil_append, List.cons_append, List.append_nil, List.map_cons, List.map_nil, env0_zero, env0_succ, env0_nil, Option.map_some, Option.map_none, seqQ_normal, seqQ_ret, seqQ_exit, seqQ_goto, blockQ_normal, blockQ_ret, blockQ_exit, blockQ_goto, condW_bool, loopQ_ret, loopQ_exit, loopQ_goto, endQ_ret, endQ_normal,
 lss_i, leq_i, gtr_i, geq_i, eql_i, neq_i, eql_8, neq_8, lss_8, leq_8, gtr_8, geq_8, eql_s, neq_s, eql_b, neq_b, not_b, by_bys, by_nils, load_cp1, beq_true, beq_false, Bool.not_eq_true', decide_eq_true_eq, decide_eq_false_iff_not, decide_true, decide_false,
 Int.toNat_natCast, Int.ofNat_lt, Int.ofNat_le, Int.natCast_inj, Bool.false_eq_true, Bool.true_eq_false, extPV, List.getElem?_cons_zero, List.getElem?_cons_succ, nilckPV, Int.reduceToNat, Int.reduceLE, true_and, and_true, reduceCtorEq, or_false, false_or, or_true, Option.some.injEq, exists_eq_left', Bool.not_true, Bool.not_false, ne_eq, Int.reduceEq, not_true_eq_false, not_false_eq_true, Int.reduceLT, UInt8.reduceLT, UInt8.reduceLE, UInt8.reduceToNat]
  exact end1 rfl Kp_bool
end Go.Ab

/-
  Fields of a name; how big a header is.
-/
namespace Go.Ab
set_option linter.unusedVariables false
set_option linter.unusedSimpArgs false
variable {st s : St} {e : Env}

abbrev Fld := List UInt8 × List UInt8
def fV (f : Fld) : PV := .agg [.str f.1, .str f.2]
def getOf (fs : List Fld) (n : List UInt8) : List UInt8 × Nat :=
  let m := fs.filter (fun f => decide (lowOf f.1 = lowOf n))
  ((m.head?.map (·.2)).getD [], m.length)
def getV (r : List UInt8 × Nat) : PV := .tup [.str r.1, .int .i64 (r.2 : Int)]

theorem getOf_snoc {fs : List Fld} {f : Fld} {n : List UInt8} : getOf (fs ++ [f]) n = if lowOf f.1 = lowOf n then ((if (getOf fs n).2 = 0 then f.2 else (getOf fs n).1), (getOf fs n).2 + 1) else getOf fs n := by
  unfold getOf
  simp only [List.filter_append, List.filter_cons, List.filter_nil]
  by_cases h : lowOf f.1 = lowOf n
  · simp only [h, decide_true, if_true]
    cases hm : fs.filter (fun f => decide (lowOf f.1 = lowOf n)) with
    | nil => simp
    | cons a r => simp
  · simp [h]
theorem getOf_le {fs : List Fld} {n : List UInt8} : (getOf fs n).2 ≤ fs.length := by
  unfold getOf; exact List.length_filter_le ..

theorem take_getD' {α : Type} {l : List α} {i : Nat} {d : α} (h : i < l.length) : l.take (i + 1) = l.take i ++ [l.getD i d] := by
  rw [List.take_succ_eq_append_getElem h]; simp [List.getD, h]

theorem nz0 : (((0 : Nat) : Int) = 0) = True := by simp

/-! ### A field in a box -/
theorem iaddr_f {x : PV} {fs : List Fld} {k : IntKind} {c : Int} (h : x.vs 2 = some (fs.map fV)) (h1 : 0 ≤ c) (h2 : c.toNat < fs.length) : iaddrPV 2 x (.int k c) = some (.cp [.str (fs.getD c.toNat ([], [])).1, .str (fs.getD c.toNat ([], [])).2]) := by
  rw [iaddr_vs h h1 (by simpa using h2)]
  simp [List.getD, h2, fV, PV.cells]
theorem load_f2 {a b : PV} : loadPV st true 2 (.cp [a, b]) = some (.agg [a, b]) := rfl
theorem fa_cp {n : Nat} {cs : List PV} : faddrPV n (.cp cs) = some (.cp (cs.drop n)) := rfl
theorem load_cp0 {a : PV} {r : List PV} : loadPV st false 1 (.cp ((a :: r).drop 0)) = some a := rfl
theorem load_cp1' {a b : PV} {r : List PV} : loadPV st false 1 (.cp ((a :: b :: r).drop 1)) = some b := rfl
theorem store_f {B : List (List PV)} {T : List Bool} {L : List LoopS} {lo : Nat} {a b : List UInt8} : storePV ⟨B ++ [[.str [], .str []]], T, L, lo⟩ 2 (.ptr B.length 0) (.agg [.str a, .str b]) = some ⟨B ++ [[.str a, .str b]], T, L, lo⟩ := by
  simp [storePV, PV.cells, PV.inB, PV.inB.inBAll, leafOk, setCells, hasTok, tokOf]
theorem load_b0 {B : List (List PV)} {T : List Bool} {L : List LoopS} {lo : Nat} {a b : List UInt8} : loadPV ⟨B ++ [[.str a, .str b]], T, L, lo⟩ false 1 (.ptr B.length 0) = some (.str a) := by
  simp [loadPV, readCells]
theorem load_b1 {B : List (List PV)} {T : List Bool} {L : List LoopS} {lo : Nat} {a b : List UInt8} : loadPV ⟨B ++ [[.str a, .str b]], T, L, lo⟩ false 1 (.ptr B.length 1) = some (.str b) := by
  simp [loadPV, readCells]

def okF (f : Fld) : Prop := f.1.length ≤ 200 ∧ f.2.length ≤ 5000
theorem Kept.alloc' {z : List PV} (h : Kept st s) : Kept st ⟨s.boxes ++ [z], s.toks, s.loops, s.low⟩ := h.alloc

theorem Get_spec {x : PV} {fs : List Fld} {n : List UInt8} (hx : x.vs 2 = some (fs.map fV)) (hn : n.length ≤ 1000000) (hf : ∀ f ∈ fs, okF f) (hl : fs.length ≤ 1000000) : call prog (.fn 147 []) [x, .str n] st = some (getV (getOf fs n), st) := by
  refine call_of_W prog_147 ?_
  unfold F_fields_Get; dsimp only
  have hlen := len_vs hx
  rw [List.length_map] at hlen
  simp (maxSteps := 1000000) (disch := omega) only [hlen, W_seq, W_region, W_cond, W_block, W_skip, W_label, W_exit, W_goto, W_ret, WO_cons, WO_consG, WO_nil, wantedA_eq, wantB, evOp, ev_tmp, ev_const, ev_fn, WN_some, WN_none, updO_some, updO_none, upd_eq,
 ↓reduceIte, Nat.reduceEqDiff, List.nil_append, List.cons_append, List.append_nil, List.map_cons, List.map_nil, env0_zero, env0_succ, env0_nil, Option.map_some, Option.map_none, seqQ_normal, seqQ_ret, seqQ_exit, seqQ_goto, blockQ_normal, blockQ_ret, blockQ_exit, blockQ_goto, condW_bool, loopQ_ret, loopQ_exit, loopQ_goto, endQ_ret, endQ_normal,
 lss_i, leq_i, gtr_i, geq_i, eql_i, neq_i, eql_8, neq_8, lss_8, leq_8, gtr_8, geq_8, eql_s, neq_s, eql_b, neq_b, not_b, by_bys, by_nils, load_cp1, beq_true, beq_false, Bool.not_eq_true', decide_eq_true_eq, decide_eq_false_iff_not, decide_true, decide_false,
 Int.toNat_natCast, Int.ofNat_lt, Int.ofNat_le, Int.natCast_inj, Bool.false_eq_true, Bool.true_eq_false, extPV, List.getElem?_cons_zero, List.getElem?_cons_succ, nilckPV, Int.reduceToNat, Int.reduceLE, true_and, and_true, reduceCtorEq, or_false, false_or, or_true, Option.some.injEq, exists_eq_left', Bool.not_true, Bool.not_false, ne_eq, Int.reduceEq, not_true_eq_false, not_false_eq_true, Int.reduceLT, UInt8.reduceLT, UInt8.reduceLE, UInt8.reduceToNat]
  obtain ⟨I, hI⟩ : ∃ I : Nat → Env → St → Prop, I = fun k e s' => ∃ (i : Nat), k = fs.length - i ∧ i ≤ fs.length ∧ Kept st s' ∧ e 1 = .str n ∧ e 6 = .str (getOf (fs.take i) n).1 ∧ e 7 = .int .i64 ((getOf (fs.take i) n).2 : Int) ∧ e 10 = x ∧ e 11 = .int .i64 (fs.length : Int) ∧ e 12 = .int .i64 (i : Int) := ⟨_, rfl⟩
  refine W_loop I ?_ (n := fs.length) (by
    rw [hI]
    exact ⟨0, rfl, by omega, Kept.start, rfl, rfl, rfl, rfl, rfl, rfl⟩)
  intro k e s' hh
  rw [hI] at hh
  obtain ⟨i, rfl, hi, hk, h1, h6, h7, h10, h11, h12⟩ := hh
  by_cases hlt : i < fs.length
  · obtain ⟨f, hfe⟩ : ∃ f, f = fs.getD i ([], []) := ⟨_, rfl⟩
    have hfm : f ∈ fs := by rw [hfe]; simp [List.getD, hlt]
    have hfo := hf f hfm
    have hg := getOf_snoc (fs := fs.take i) (f := f) (n := n)
    rw [hfe, ← take_getD' hlt, ← hfe] at hg
    have hle := getOf_le (fs := fs.take i) (n := n)
    have hle2 : (getOf (fs.take i) n).2 ≤ 1000000 := by simp at hle; omega
    have hnext : ∀ (E : Env) (S : St), Kept st S → E 1 = .str n → E 6 = .str (getOf (fs.take (i + 1)) n).1 → E 7 = .int .i64 ((getOf (fs.take (i + 1)) n).2 : Int) → E 10 = x → E 11 = .int .i64 (fs.length : Int) → E 12 = .int .i64 ((i + 1 : Nat) : Int) → I (fs.length - (i + 1)) E S := by
      intro E S k0 k1 k2 k3 k4 k5 k6
      rw [hI]; exact ⟨i + 1, rfl, by omega, k0, k1, k2, k3, k4, k5, k6⟩
    have hS : ∀ S : St, call prog (.fn 155 []) [.str f.1, .str n] S = some (.bool (decide (lowOf f.1 = lowOf n)), S) := fun S => Same_spec (by have := hfo.1; omega) hn
    by_cases hs : lowOf f.1 = lowOf n
    · rw [if_pos hs] at hg
      by_cases hz : (getOf (fs.take i) n).2 = 0
      · rw [if_pos hz] at hg
        simp (maxSteps := 1000000) (disch := omega) only [h1, h6, h7, h10, h11, h12, hlt, iaddr_f hx, ← hfe, load_f2, allocPV, store_f, faddrPV, Nat.add_zero, Nat.zero_add, load_b0, load_b1, hS, hs, hz, add_n, W_seq, W_region, W_cond, W_block, W_skip, W_label, W_exit, W_goto, W_ret, WO_cons, WO_consG, WO_nil, wantedA_eq, wantB, evOp, ev_tmp, ev_const, ev_fn, WN_some, WN_none, updO_some, updO_none, upd_eq,
 ↓reduceIte, Nat.reduceEqDiff, List.nil_append, List.cons_append, List.append_nil, List.map_cons, List.map_nil, env0_zero, env0_succ, env0_nil, Option.map_some, Option.map_none, seqQ_normal, seqQ_ret, seqQ_exit, seqQ_goto, blockQ_normal, blockQ_ret, blockQ_exit, blockQ_goto, condW_bool, loopQ_ret, loopQ_exit, loopQ_goto, endQ_ret, endQ_normal,
 lss_i, leq_i, gtr_i, geq_i, eql_i, neq_i, eql_8, neq_8, lss_8, leq_8, gtr_8, geq_8, eql_s, neq_s, eql_b, neq_b, not_b, by_bys, by_nils, load_cp1, beq_true, beq_false, Bool.not_eq_true', decide_eq_true_eq, decide_eq_false_iff_not, decide_true, decide_false,
 Int.toNat_natCast, Int.ofNat_lt, Int.ofNat_le, Int.natCast_inj, Bool.false_eq_true, Bool.true_eq_false, extPV, List.getElem?_cons_zero, List.getElem?_cons_succ, nilckPV, Int.reduceToNat, Int.reduceLE, true_and, and_true, reduceCtorEq, or_false, false_or, or_true, Option.some.injEq, exists_eq_left', Bool.not_true, Bool.not_false, ne_eq, Int.reduceEq, not_true_eq_false, not_false_eq_true, Int.reduceLT, UInt8.reduceLT, UInt8.reduceLE, UInt8.reduceToNat]
        rw [if_pos (by rfl)]
        exact loopQ_intro (m := fs.length - (i + 1)) (by omega) (hnext _ _ hk.alloc' h1 (by rw [hg]; rfl) (by rw [hg, hz]; rfl) h10 h11 rfl)
      · rw [if_neg hz] at hg
        have hz' : ¬ ((getOf (fs.take i) n).2 : Int) = 0 := by omega
        simp (maxSteps := 1000000) (disch := omega) only [h1, h6, h7, h10, h11, h12, hlt, iaddr_f hx, ← hfe, load_f2, allocPV, store_f, faddrPV, Nat.add_zero, Nat.zero_add, load_b0, load_b1, hS, hs, hz', add_n, W_seq, W_region, W_cond, W_block, W_skip, W_label, W_exit, W_goto, W_ret, WO_cons, WO_consG, WO_nil, wantedA_eq, wantB, evOp, ev_tmp, ev_const, ev_fn, WN_some, WN_none, updO_some, updO_none, upd_eq,
 ↓reduceIte, Nat.reduceEqDiff, List.nil_append, List.cons_append, List.append_nil, List.map_cons, List.map_nil, env0_zero, env0_succ, env0_nil, Option.map_some, Option.map_none, seqQ_normal, seqQ_ret, seqQ_exit, seqQ_goto, blockQ_normal, blockQ_ret, blockQ_exit, blockQ_goto, condW_bool, loopQ_ret, loopQ_exit, loopQ_goto, endQ_ret, endQ_normal,
 lss_i, leq_i, gtr_i, geq_i, eql_i, neq_i, eql_8, neq_8, lss_8, leq_8, gtr_8, geq_8, eql_s, neq_s, eql_b, neq_b, not_b, by_bys, by_nils, load_cp1, beq_true, beq_false, Bool.not_eq_true', decide_eq_true_eq, decide_eq_false_iff_not, decide_true, decide_false,
 Int.toNat_natCast, Int.ofNat_lt, Int.ofNat_le, Int.natCast_inj, Bool.false_eq_true, Bool.true_eq_false, extPV, List.getElem?_cons_zero, List.getElem?_cons_succ, nilckPV, Int.reduceToNat, Int.reduceLE, true_and, and_true, reduceCtorEq, or_false, false_or, or_true, Option.some.injEq, exists_eq_left', Bool.not_true, Bool.not_false, ne_eq, Int.reduceEq, not_true_eq_false, not_false_eq_true, Int.reduceLT, UInt8.reduceLT, UInt8.reduceLE, UInt8.reduceToNat]
        exact loopQ_intro (m := fs.length - (i + 1)) (by omega) (hnext _ _ hk.alloc' h1 (by rw [hg]; exact h6) (by rw [hg]; rfl) h10 h11 rfl)
    · rw [if_neg hs] at hg
      simp (maxSteps := 1000000) (disch := omega) only [h1, h6, h7, h10, h11, h12, hlt, iaddr_f hx, ← hfe, load_f2, allocPV, store_f, faddrPV, Nat.add_zero, Nat.zero_add, load_b0, load_b1, hS, hs, add_n, W_seq, W_region, W_cond, W_block, W_skip, W_label, W_exit, W_goto, W_ret, WO_cons, WO_consG, WO_nil, wantedA_eq, wantB, evOp, ev_tmp, ev_const, ev_fn, WN_some, WN_none, updO_some, updO_none, upd_eq,
 ↓reduceIte, Nat.reduceEqDiff, List.nil_append, List.cons_append, List.append_nil, List.map_cons, List.map_nil, env0_zero, env0_succ, env0_nil, Option.map_some, Option.map_none, seqQ_normal, seqQ_ret, seqQ_exit, seqQ_goto, blockQ_normal, blockQ_ret, blockQ_exit, blockQ_goto, condW_bool, loopQ_ret, loopQ_exit, loopQ_goto, endQ_ret, endQ_normal,
 lss_i, leq_i, gtr_i, geq_i, eql_i, neq_i, eql_8, neq_8, lss_8, leq_8, gtr_8, geq_8, eql_s, neq_s, eql_b, neq_b, not_b, by_bys, by_nils, load_cp1, beq_true, beq_false, Bool.not_eq_true', decide_eq_true_eq, decide_eq_false_iff_not, decide_true, decide_false,
 Int.toNat_natCast, Int.ofNat_lt, Int.ofNat_le, Int.natCast_inj, Bool.false_eq_true, Bool.true_eq_false, extPV, List.getElem?_cons_zero, List.getElem?_cons_succ, nilckPV, Int.reduceToNat, Int.reduceLE, true_and, and_true, reduceCtorEq, or_false, false_or, or_true, Option.some.injEq, exists_eq_left', Bool.not_true, Bool.not_false, ne_eq, Int.reduceEq, not_true_eq_false, not_false_eq_true, Int.reduceLT, UInt8.reduceLT, UInt8.reduceLE, UInt8.reduceToNat]
      exact loopQ_intro (m := fs.length - (i + 1)) (by omega) (hnext _ _ hk.alloc' h1 (by rw [hg]; exact h6) (by rw [hg]; exact h7) h10 h11 rfl)
  · obtain rfl : i = fs.length := by omega
    rw [List.take_length] at h6 h7
    simp (maxSteps := 1000000) (disch := omega) only [h1, h6, h7, h10, h11, h12, hlt, W_seq, W_region, W_cond, W_block, W_skip, W_label, W_exit, W_goto, W_ret, WO_cons, WO_consG, WO_nil, wantedA_eq, wantB, evOp, ev_tmp, ev_const, ev_fn, WN_some, WN_none, updO_some, updO_none, upd_eq,
 ↓reduceIte, Nat.reduceEqDiff, List.nil_append, List.cons_append, List.append_nil, List.map_cons, List.map_nil, env0_zero, env0_succ, env0_nil, Option.map_some, Option.map_none, seqQ_normal, seqQ_ret, seqQ_exit, seqQ_goto, blockQ_normal, blockQ_ret, blockQ_exit, blockQ_goto, condW_bool, loopQ_ret, loopQ_exit, loopQ_goto, endQ_ret, endQ_normal,
 lss_i, leq_i, gtr_i, geq_i, eql_i, neq_i, eql_8, neq_8, lss_8, leq_8, gtr_8, geq_8, eql_s, neq_s, eql_b, neq_b, not_b, by_bys, by_nils, load_cp1, beq_true, beq_false, Bool.not_eq_true', decide_eq_true_eq, decide_eq_false_iff_not, decide_true, decide_false,
 Int.toNat_natCast, Int.ofNat_lt, Int.ofNat_le, Int.natCast_inj, Bool.false_eq_true, Bool.true_eq_false, extPV, List.getElem?_cons_zero, List.getElem?_cons_succ, nilckPV, Int.reduceToNat, Int.reduceLE, true_and, and_true, reduceCtorEq, or_false, false_or, or_true, Option.some.injEq, exists_eq_left', Bool.not_true, Bool.not_false, ne_eq, Int.reduceEq, not_true_eq_false, not_false_eq_true, Int.reduceLT, UInt8.reduceLT, UInt8.reduceLE, UInt8.reduceToNat]
    exact ⟨getV (getOf fs n), rfl, hk.leave rfl (fun _ _ => rfl)⟩

theorem Great_spec {x : PV} {fs : List Fld} (hx : x.vs 2 = some (fs.map fV)) (hm : ∀ f ∈ fs, f.1.length ≤ 9223372036854775807 ∧ f.2.length ≤ 9223372036854775807) (hl : fs.length ≤ 9223372036854775807) : ∃ g, call prog (.fn 143 []) [x] st = some (.bool g, st) ∧ (g = false → fs.length ≤ 200 ∧ ∀ f ∈ fs, okF f) := by
  have hlen := len_vs hx
  rw [List.length_map] at hlen
  by_cases h2 : 200 < fs.length
  · refine ⟨true, call_of_W prog_143 ?_, fun h => (by cases h)⟩
    unfold F_posthornlaw06_Great; dsimp only
    have h2' : (200 : Int) < (fs.length : Int) := by omega
    simp (maxSteps := 1000000) (disch := omega) only [hlen, h2', W_seq, W_region, W_cond, W_block, W_skip, W_label, W_exit, W_goto, W_ret, WO_cons, WO_consG, WO_nil, wantedA_eq, wantB, evOp, ev_tmp, ev_const, ev_fn, WN_some, WN_none, updO_some, updO_none, upd_eq,
 ↓reduceIte, Nat.reduceEqDiff, List.nil_append, List.cons_append, List.append_nil, List.map_cons, List.map_nil, env0_zero, env0_succ, env0_nil, Option.map_some, Option.map_none, seqQ_normal, seqQ_ret, seqQ_exit, seqQ_goto, blockQ_normal, blockQ_ret, blockQ_exit, blockQ_goto, condW_bool, loopQ_ret, loopQ_exit, loopQ_goto, endQ_ret, endQ_normal,
 lss_i, leq_i, gtr_i, geq_i, eql_i, neq_i, eql_8, neq_8, lss_8, leq_8, gtr_8, geq_8, eql_s, neq_s, eql_b, neq_b, not_b, by_bys, by_nils, load_cp1, beq_true, beq_false, Bool.not_eq_true', decide_eq_true_eq, decide_eq_false_iff_not, decide_true, decide_false,
 Int.toNat_natCast, Int.ofNat_lt, Int.ofNat_le, Int.natCast_inj, Bool.false_eq_true, Bool.true_eq_false, extPV, List.getElem?_cons_zero, List.getElem?_cons_succ, nilckPV, Int.reduceToNat, Int.reduceLE, true_and, and_true, reduceCtorEq, or_false, false_or, or_true, Option.some.injEq, exists_eq_left', Bool.not_true, Bool.not_false, ne_eq, Int.reduceEq, not_true_eq_false, not_false_eq_true, Int.reduceLT, UInt8.reduceLT, UInt8.reduceLE, UInt8.reduceToNat]
    exact end1 rfl Kp_bool
  by_cases hall : ∀ i, i < fs.length → okF (fs.getD i ([], [])) ∧ (20 < i → (fs.getD i ([], [])).2.length ≤ 100)
  · refine ⟨false, call_of_W prog_143 ?_, fun _ => ⟨by omega, fun f hf => ?_⟩⟩
    · unfold F_posthornlaw06_Great; dsimp only
      have h2' : ¬ (200 : Int) < (fs.length : Int) := by omega
      simp (maxSteps := 1000000) (disch := omega) only [hlen, h2', W_seq, W_region, W_cond, W_block, W_skip, W_label, W_exit, W_goto, W_ret, WO_cons, WO_consG, WO_nil, wantedA_eq, wantB, evOp, ev_tmp, ev_const, ev_fn, WN_some, WN_none, updO_some, updO_none, upd_eq,
 ↓reduceIte, Nat.reduceEqDiff, List.nil_append, List.cons_append, List.append_nil, List.map_cons, List.map_nil, env0_zero, env0_succ, env0_nil, Option.map_some, Option.map_none, seqQ_normal, seqQ_ret, seqQ_exit, seqQ_goto, blockQ_normal, blockQ_ret, blockQ_exit, blockQ_goto, condW_bool, loopQ_ret, loopQ_exit, loopQ_goto, endQ_ret, endQ_normal,
 lss_i, leq_i, gtr_i, geq_i, eql_i, neq_i, eql_8, neq_8, lss_8, leq_8, gtr_8, geq_8, eql_s, neq_s, eql_b, neq_b, not_b, by_bys, by_nils, load_cp1, beq_true, beq_false, Bool.not_eq_true', decide_eq_true_eq, decide_eq_false_iff_not, decide_true, decide_false,
 Int.toNat_natCast, Int.ofNat_lt, Int.ofNat_le, Int.natCast_inj, Bool.false_eq_true, Bool.true_eq_false, extPV, List.getElem?_cons_zero, List.getElem?_cons_succ, nilckPV, Int.reduceToNat, Int.reduceLE, true_and, and_true, reduceCtorEq, or_false, false_or, or_true, Option.some.injEq, exists_eq_left', Bool.not_true, Bool.not_false, ne_eq, Int.reduceEq, not_true_eq_false, not_false_eq_true, Int.reduceLT, UInt8.reduceLT, UInt8.reduceLE, UInt8.reduceToNat]
      obtain ⟨I, hI⟩ : ∃ I : Nat → Env → St → Prop, I = fun k e s' => ∃ (i : Nat), k = fs.length - i ∧ i ≤ fs.length ∧ Kept st s' ∧ e 0 = x ∧ e 3 = .int .i64 (i : Int) := ⟨_, rfl⟩
      refine W_loop I ?_ (n := fs.length) (by
        rw [hI]
        exact ⟨0, rfl, by omega, Kept.start, rfl, rfl⟩)
      intro k e s' hh
      rw [hI] at hh
      obtain ⟨i, rfl, hi, hk, h0, h3⟩ := hh
      by_cases hlt : i < fs.length
      · obtain ⟨⟨q1, q2⟩, q3⟩ := hall i hlt
        obtain ⟨f, hfe⟩ : ∃ f, f = fs.getD i ([], []) := ⟨_, rfl⟩
        rw [← hfe] at q1 q2 q3
        have e1 : ¬ (200 : Int) < (f.1.length : Int) := by omega
        have e2 : ¬ (5000 : Int) < (f.2.length : Int) := by omega
        have hnext : ∀ (E : Env), E 0 = x → E 3 = .int .i64 ((i + 1 : Nat) : Int) → I (fs.length - (i + 1)) E s' := by
          intro E k1 k2
          rw [hI]; exact ⟨i + 1, rfl, by omega, hk, k1, k2⟩
        by_cases h20 : 20 < i
        · have e3 : (20 : Int) < (i : Int) := by omega
          have e4 : ¬ (100 : Int) < (f.2.length : Int) := by have := q3 h20; omega
          simp (maxSteps := 1000000) (disch := omega) only [h0, h3, hlen, hlt, iaddr_f hx, ← hfe, fa_cp, load_cp0, load_cp1', len_s, e1, e2, e3, e4, add_n, W_seq, W_region, W_cond, W_block, W_skip, W_label, W_exit, W_goto, W_ret, WO_cons, WO_consG, WO_nil, wantedA_eq, wantB, evOp, ev_tmp, ev_const, ev_fn, WN_some, WN_none, updO_some, updO_none, upd_eq,
 ↓reduceIte, Nat.reduceEqDiff, List.nil_append, List.cons_append, List.append_nil, List.map_cons, List.map_nil, env0_zero, env0_succ, env0_nil, Option.map_some, Option.map_none, seqQ_normal, seqQ_ret, seqQ_exit, seqQ_goto, blockQ_normal, blockQ_ret, blockQ_exit, blockQ_goto, condW_bool, loopQ_ret, loopQ_exit, loopQ_goto, endQ_ret, endQ_normal,
 lss_i, leq_i, gtr_i, geq_i, eql_i, neq_i, eql_8, neq_8, lss_8, leq_8, gtr_8, geq_8, eql_s, neq_s, eql_b, neq_b, not_b, by_bys, by_nils, load_cp1, beq_true, beq_false, Bool.not_eq_true', decide_eq_true_eq, decide_eq_false_iff_not, decide_true, decide_false,
 Int.toNat_natCast, Int.ofNat_lt, Int.ofNat_le, Int.natCast_inj, Bool.false_eq_true, Bool.true_eq_false, extPV, List.getElem?_cons_zero, List.getElem?_cons_succ, nilckPV, Int.reduceToNat, Int.reduceLE, true_and, and_true, reduceCtorEq, or_false, false_or, or_true, Option.some.injEq, exists_eq_left', Bool.not_true, Bool.not_false, ne_eq, Int.reduceEq, not_true_eq_false, not_false_eq_true, Int.reduceLT, UInt8.reduceLT, UInt8.reduceLE, UInt8.reduceToNat]
          exact loopQ_intro (m := fs.length - (i + 1)) (by omega) (hnext _ h0 rfl)
        · have e3 : ¬ (20 : Int) < (i : Int) := by omega
          simp (maxSteps := 1000000) (disch := omega) only [h0, h3, hlen, hlt, iaddr_f hx, ← hfe, fa_cp, load_cp0, load_cp1', len_s, e1, e2, e3, add_n, W_seq, W_region, W_cond, W_block, W_skip, W_label, W_exit, W_goto, W_ret, WO_cons, WO_consG, WO_nil, wantedA_eq, wantB, evOp, ev_tmp, ev_const, ev_fn, WN_some, WN_none, updO_some, updO_none, upd_eq,
 ↓reduceIte, Nat.reduceEqDiff, List.nil_append, List.cons_append, List.append_nil, List.map_cons, List.map_nil, env0_zero, env0_succ, env0_nil, Option.map_some, Option.map_none, seqQ_normal, seqQ_ret, seqQ_exit, seqQ_goto, blockQ_normal, blockQ_ret, blockQ_exit, blockQ_goto, condW_bool, loopQ_ret, loopQ_exit, loopQ_goto, endQ_ret, endQ_normal,
 lss_i, leq_i, gtr_i, geq_i, eql_i, neq_i, eql_8, neq_8, lss_8, leq_8, gtr_8, geq_8, eql_s, neq_s, eql_b, neq_b, not_b, by_bys, by_nils, load_cp1, beq_true, beq_false, Bool.not_eq_true', decide_eq_true_eq, decide_eq_false_iff_not, decide_true, decide_false,
 Int.toNat_natCast, Int.ofNat_lt, Int.ofNat_le, Int.natCast_inj, Bool.false_eq_true, Bool.true_eq_false, extPV, List.getElem?_cons_zero, List.getElem?_cons_succ, nilckPV, Int.reduceToNat, Int.reduceLE, true_and, and_true, reduceCtorEq, or_false, false_or, or_true, Option.some.injEq, exists_eq_left', Bool.not_true, Bool.not_false, ne_eq, Int.reduceEq, not_true_eq_false, not_false_eq_true, Int.reduceLT, UInt8.reduceLT, UInt8.reduceLE, UInt8.reduceToNat]
          exact loopQ_intro (m := fs.length - (i + 1)) (by omega) (hnext _ h0 rfl)
      · obtain rfl : i = fs.length := by omega
        simp (maxSteps := 1000000) (disch := omega) only [h0, h3, hlen, hlt, W_seq, W_region, W_cond, W_block, W_skip, W_label, W_exit, W_goto, W_ret, WO_cons, WO_consG, WO_nil, wantedA_eq, wantB, evOp, ev_tmp, ev_const, ev_fn, WN_some, WN_none, updO_some, updO_none, upd_eq,
 ↓reduceIte, Nat.reduceEqDiff, List.nil_append, List.cons_append, List.append_nil, List.map_cons, List.map_nil, env0_zero, env0_succ, env0_nil, Option.map_some, Option.map_none, seqQ_normal, seqQ_ret, seqQ_exit, seqQ_goto, blockQ_normal, blockQ_ret, blockQ_exit, blockQ_goto, condW_bool, loopQ_ret, loopQ_exit, loopQ_goto, endQ_ret, endQ_normal,
 lss_i, leq_i, gtr_i, geq_i, eql_i, neq_i, eql_8, neq_8, lss_8, leq_8, gtr_8, geq_8, eql_s, neq_s, eql_b, neq_b, not_b, by_bys, by_nils, load_cp1, beq_true, beq_false, Bool.not_eq_true', decide_eq_true_eq, decide_eq_false_iff_not, decide_true, decide_false,
 Int.toNat_natCast, Int.ofNat_lt, Int.ofNat_le, Int.natCast_inj, Bool.false_eq_true, Bool.true_eq_false, extPV, List.getElem?_cons_zero, List.getElem?_cons_succ, nilckPV, Int.reduceToNat, Int.reduceLE, true_and, and_true, reduceCtorEq, or_false, false_or, or_true, Option.some.injEq, exists_eq_left', Bool.not_true, Bool.not_false, ne_eq, Int.reduceEq, not_true_eq_false, not_false_eq_true, Int.reduceLT, UInt8.reduceLT, UInt8.reduceLE, UInt8.reduceToNat]
        exact ⟨.bool false, rfl, hk.leave rfl (fun _ _ => rfl)⟩
    · obtain ⟨i, hi, rfl⟩ := List.mem_iff_getElem.1 hf
      have := (hall i hi).1
      simpa [List.getD, hi] using this
  · refine ⟨true, call_of_W prog_143 ?_, fun h => (by cases h)⟩
    -- the first that is too big
    have hex : ∃ j, j < fs.length ∧ ¬ (okF (fs.getD j ([], [])) ∧ (20 < j → (fs.getD j ([], [])).2.length ≤ 100)) := by
      rcases Classical.not_forall.1 hall with ⟨j, hj⟩
      rcases Classical.not_imp.1 hj with ⟨h1, h2⟩
      exact ⟨j, h1, h2⟩
    obtain ⟨j, hj, hbad⟩ := hex
    unfold F_posthornlaw06_Great; dsimp only
    have h2' : ¬ (200 : Int) < (fs.length : Int) := by omega
    simp (maxSteps := 1000000) (disch := omega) only [hlen, h2', W_seq, W_region, W_cond, W_block, W_skip, W_label, W_exit, W_goto, W_ret, WO_cons, WO_consG, WO_nil, wantedA_eq, wantB, evOp, ev_tmp, ev_const, ev_fn, WN_some, WN_none, updO_some, updO_none, upd_eq,
 ↓reduceIte, Nat.reduceEqDiff, List.nil_append, List.cons_append, List.append_nil, List.map_cons, List.map_nil, env0_zero, env0_succ, env0_nil, Option.map_some, Option.map_none, seqQ_normal, seqQ_ret, seqQ_exit, seqQ_goto, blockQ_normal, blockQ_ret, blockQ_exit, blockQ_goto, condW_bool, loopQ_ret, loopQ_exit, loopQ_goto, endQ_ret, endQ_normal,
 lss_i, leq_i, gtr_i, geq_i, eql_i, neq_i, eql_8, neq_8, lss_8, leq_8, gtr_8, geq_8, eql_s, neq_s, eql_b, neq_b, not_b, by_bys, by_nils, load_cp1, beq_true, beq_false, Bool.not_eq_true', decide_eq_true_eq, decide_eq_false_iff_not, decide_true, decide_false,
 Int.toNat_natCast, Int.ofNat_lt, Int.ofNat_le, Int.natCast_inj, Bool.false_eq_true, Bool.true_eq_false, extPV, List.getElem?_cons_zero, List.getElem?_cons_succ, nilckPV, Int.reduceToNat, Int.reduceLE, true_and, and_true, reduceCtorEq, or_false, false_or, or_true, Option.some.injEq, exists_eq_left', Bool.not_true, Bool.not_false, ne_eq, Int.reduceEq, not_true_eq_false, not_false_eq_true, Int.reduceLT, UInt8.reduceLT, UInt8.reduceLE, UInt8.reduceToNat]
    obtain ⟨I, hI⟩ : ∃ I : Nat → Env → St → Prop, I = fun k e s' => ∃ (i : Nat), k = fs.length - i ∧ i ≤ j ∧ Kept st s' ∧ e 0 = x ∧ e 3 = .int .i64 (i : Int) := ⟨_, rfl⟩
    refine W_loop I ?_ (n := fs.length) (by
      rw [hI]
      exact ⟨0, rfl, by omega, Kept.start, rfl, rfl⟩)
    intro k e s' hh
    rw [hI] at hh
    obtain ⟨i, rfl, hi, hk, h0, h3⟩ := hh
    have hlt : i < fs.length := by omega
    obtain ⟨f, hfe⟩ : ∃ f, f = fs.getD i ([], []) := ⟨_, rfl⟩
    have hnext : (okF f ∧ (20 < i → f.2.length ≤ 100)) → ∀ (E : Env), E 0 = x → E 3 = .int .i64 ((i + 1 : Nat) : Int) → I (fs.length - (i + 1)) E s' := by
      intro hok E k1 k2
      have : i ≠ j := by rintro rfl; rw [← hfe] at hbad; exact hbad hok
      rw [hI]; exact ⟨i + 1, rfl, by omega, hk, k1, k2⟩
    have fin : ∀ (E : Env), E 2 = .bool true → ∃ rv, resOf E s' [.tmp 2] = some rv ∧ leave st s' rv = (.bool true, st) := fun E h => ⟨.bool true, by simp [resOf, rvAll, rv1, h, notTup, packRes], hk.leave rfl (fun _ _ => rfl)⟩
    by_cases q1 : 200 < f.1.length
    · have e1 : (200 : Int) < (f.1.length : Int) := by omega
      simp (maxSteps := 1000000) (disch := omega) only [h0, h3, hlen, hlt, iaddr_f hx, ← hfe, fa_cp, load_cp0, load_cp1', len_s, e1, add_n, W_seq, W_region, W_cond, W_block, W_skip, W_label, W_exit, W_goto, W_ret, WO_cons, WO_consG, WO_nil, wantedA_eq, wantB, evOp, ev_tmp, ev_const, ev_fn, WN_some, WN_none, updO_some, updO_none, upd_eq,
 ↓reduceIte, Nat.reduceEqDiff, List.nil_append, List.cons_append, List.append_nil, List.map_cons, List.map_nil, env0_zero, env0_succ, env0_nil, Option.map_some, Option.map_none, seqQ_normal, seqQ_ret, seqQ_exit, seqQ_goto, blockQ_normal, blockQ_ret, blockQ_exit, blockQ_goto, condW_bool, loopQ_ret, loopQ_exit, loopQ_goto, endQ_ret, endQ_normal,
 lss_i, leq_i, gtr_i, geq_i, eql_i, neq_i, eql_8, neq_8, lss_8, leq_8, gtr_8, geq_8, eql_s, neq_s, eql_b, neq_b, not_b, by_bys, by_nils, load_cp1, beq_true, beq_false, Bool.not_eq_true', decide_eq_true_eq, decide_eq_false_iff_not, decide_true, decide_false,
 Int.toNat_natCast, Int.ofNat_lt, Int.ofNat_le, Int.natCast_inj, Bool.false_eq_true, Bool.true_eq_false, extPV, List.getElem?_cons_zero, List.getElem?_cons_succ, nilckPV, Int.reduceToNat, Int.reduceLE, true_and, and_true, reduceCtorEq, or_false, false_or, or_true, Option.some.injEq, exists_eq_left', Bool.not_true, Bool.not_false, ne_eq, Int.reduceEq, not_true_eq_false, not_false_eq_true, Int.reduceLT, UInt8.reduceLT, UInt8.reduceLE, UInt8.reduceToNat]
      exact fin _ rfl
    have e1 : ¬ (200 : Int) < (f.1.length : Int) := by omega
    by_cases q2 : 5000 < f.2.length
    · have e2 : (5000 : Int) < (f.2.length : Int) := by omega
      simp (maxSteps := 1000000) (disch := omega) only [h0, h3, hlen, hlt, iaddr_f hx, ← hfe, fa_cp, load_cp0, load_cp1', len_s, e1, e2, add_n, W_seq, W_region, W_cond, W_block, W_skip, W_label, W_exit, W_goto, W_ret, WO_cons, WO_consG, WO_nil, wantedA_eq, wantB, evOp, ev_tmp, ev_const, ev_fn, WN_some, WN_none, updO_some, updO_none, upd_eq,
 ↓reduceIte, Nat.reduceEqDiff, List.nil_append, List.cons_append, List.append_nil, List.map_cons, List.map_nil, env0_zero, env0_succ, env0_nil, Option.map_some, Option.map_none, seqQ_normal, seqQ_ret, seqQ_exit, seqQ_goto, blockQ_normal, blockQ_ret, blockQ_exit, blockQ_goto, condW_bool, loopQ_ret, loopQ_exit, loopQ_goto, endQ_ret, endQ_normal,
 lss_i, leq_i, gtr_i, geq_i, eql_i, neq_i, eql_8, neq_8, lss_8, leq_8, gtr_8, geq_8, eql_s, neq_s, eql_b, neq_b, not_b, by_bys, by_nils, load_cp1, beq_true, beq_false, Bool.not_eq_true', decide_eq_true_eq, decide_eq_false_iff_not, decide_true, decide_false,
 Int.toNat_natCast, Int.ofNat_lt, Int.ofNat_le, Int.natCast_inj, Bool.false_eq_true, Bool.true_eq_false, extPV, List.getElem?_cons_zero, List.getElem?_cons_succ, nilckPV, Int.reduceToNat, Int.reduceLE, true_and, and_true, reduceCtorEq, or_false, false_or, or_true, Option.some.injEq, exists_eq_left', Bool.not_true, Bool.not_false, ne_eq, Int.reduceEq, not_true_eq_false, not_false_eq_true, Int.reduceLT, UInt8.reduceLT, UInt8.reduceLE, UInt8.reduceToNat]
      exact fin _ rfl
    have e2 : ¬ (5000 : Int) < (f.2.length : Int) := by omega
    by_cases h20 : 20 < i
    · have e3 : (20 : Int) < (i : Int) := by omega
      by_cases q4 : 100 < f.2.length
      · have e4 : (100 : Int) < (f.2.length : Int) := by omega
        simp (maxSteps := 1000000) (disch := omega) only [h0, h3, hlen, hlt, iaddr_f hx, ← hfe, fa_cp, load_cp0, load_cp1', len_s, e1, e2, e3, e4, add_n, W_seq, W_region, W_cond, W_block, W_skip, W_label, W_exit, W_goto, W_ret, WO_cons, WO_consG, WO_nil, wantedA_eq, wantB, evOp, ev_tmp, ev_const, ev_fn, WN_some, WN_none, updO_some, updO_none, upd_eq,
 ↓reduceIte, Nat.reduceEqDiff, List.nil_append, List.cons_append, List.append_nil, List.map_cons, List.map_nil, env0_zero, env0_succ, env0_nil, Option.map_some, Option.map_none, seqQ_normal, seqQ_ret, seqQ_exit, seqQ_goto, blockQ_normal, blockQ_ret, blockQ_exit, blockQ_goto, condW_bool, loopQ_ret, loopQ_exit, loopQ_goto, endQ_ret, endQ_normal,
 lss_i, leq_i, gtr_i, geq_i, eql_i, neq_i, eql_8, neq_8, lss_8, leq_8, gtr_8, geq_8, eql_s, neq_s, eql_b, neq_b, not_b, by_bys, by_nils, load_cp1, beq_true, beq_false, Bool.not_eq_true', decide_eq_true_eq, decide_eq_false_iff_not, decide_true, decide_false,
 Int.toNat_natCast, Int.ofNat_lt, Int.ofNat_le, Int.natCast_inj, Bool.false_eq_true, Bool.true_eq_false, extPV, List.getElem?_cons_zero, List.getElem?_cons_succ, nilckPV, Int.reduceToNat, Int.reduceLE, true_and, and_true, reduceCtorEq, or_false, false_or, or_true, Option.some.injEq, exists_eq_left', Bool.not_true, Bool.not_false, ne_eq, Int.reduceEq, not_true_eq_false, not_false_eq_true, Int.reduceLT, UInt8.reduceLT, UInt8.reduceLE, UInt8.reduceToNat]
        exact fin _ rfl
      · have e4 : ¬ (100 : Int) < (f.2.length : Int) := by omega
        simp (maxSteps := 1000000) (disch := omega) only [h0, h3, hlen, hlt, iaddr_f hx, ← hfe, fa_cp, load_cp0, load_cp1', len_s, e1, e2, e3, e4, add_n, W_seq, W_region, W_cond, W_block, W_skip, W_label, W_exit, W_goto, W_ret, WO_cons, WO_consG, WO_nil, wantedA_eq, wantB, evOp, ev_tmp, ev_const, ev_fn, WN_some, WN_none, updO_some, updO_none, upd_eq,
 ↓reduceIte, Nat.reduceEqDiff, List.nil_append, List.cons_append, List.append_nil, List.map_cons, List.map_nil, env0_zero, env0_succ, env0_nil, Option.map_some, Option.map_none, seqQ_normal, seqQ_ret, seqQ_exit, seqQ_goto, blockQ_normal, blockQ_ret, blockQ_exit, blockQ_goto, condW_bool, loopQ_ret, loopQ_exit, loopQ_goto, endQ_ret, endQ_normal,
 lss_i, leq_i, gtr_i, geq_i, eql_i, neq_i, eql_8, neq_8, lss_8, leq_8, gtr_8, geq_8, eql_s, neq_s, eql_b, neq_b, not_b, by_bys, by_nils, load_cp1, beq_true, beq_false, Bool.not_eq_true', decide_eq_true_eq, decide_eq_false_iff_not, decide_true, decide_false,
 Int.toNat_natCast, Int.ofNat_lt, Int.ofNat_le, Int.natCast_inj, Bool.false_eq_true, Bool.true_eq_false, extPV, List.getElem?_cons_zero, List.getElem?_cons_succ, nilckPV, Int.reduceToNat, Int.reduceLE, true_and, and_true, reduceCtorEq, or_false, false_or, or_true, Option.some.injEq, exists_eq_left', Bool.not_true, Bool.not_false, ne_eq, Int.reduceEq, not_true_eq_false, not_false_eq_true, Int.reduceLT, UInt8.reduceLT, UInt8.reduceLE, UInt8.reduceToNat]
        exact loopQ_intro (m := fs.length - (i + 1)) (by omega) (hnext ⟨⟨by omega, by omega⟩, fun _ => by omega⟩ _ h0 rfl)
    · have e3 : ¬ (20 : Int) < (i : Int) := by omega
      simp (maxSteps := 1000000) (disch := omega) only [h0, h3, hlen, hlt, iaddr_f hx, ← hfe, fa_cp, load_cp0, load_cp1', len_s, e1, e2, e3, add_n, W_seq, W_region, W_cond, W_block, W_skip, W_label, W_exit, W_goto, W_ret, WO_cons, WO_consG, WO_nil, wantedA_eq, wantB, evOp, ev_tmp, ev_const, ev_fn, WN_some, WN_none, updO_some, updO_none, upd_eq,
 ↓reduceIte, Nat.reduceEqDiff, List.nil_append, List.cons_append, List.append_nil, List.map_cons, List.map_nil, env0_zero, env0_succ, env0_nil, Option.map_some, Option.map_none, seqQ_normal, seqQ_ret, seqQ_exit, seqQ_goto, blockQ_normal, blockQ_ret, blockQ_exit, blockQ_goto, condW_bool, loopQ_ret, loopQ_exit, loopQ_goto, endQ_ret, endQ_normal,
 lss_i, leq_i, gtr_i, geq_i, eql_i, neq_i, eql_8, neq_8, lss_8, leq_8, gtr_8, geq_8, eql_s, neq_s, eql_b, neq_b, not_b, by_bys, by_nils, load_cp1, beq_true, beq_false, Bool.not_eq_true', decide_eq_true_eq, decide_eq_false_iff_not, decide_true, decide_false,
 Int.toNat_natCast, Int.ofNat_lt, Int.ofNat_le, Int.natCast_inj, Bool.false_eq_true, Bool.true_eq_false, extPV, List.getElem?_cons_zero, List.getElem?_cons_succ, nilckPV, Int.reduceToNat, Int.reduceLE, true_and, and_true, reduceCtorEq, or_false, false_or, or_true, Option.some.injEq, exists_eq_left', Bool.not_true, Bool.not_false, ne_eq, Int.reduceEq, not_true_eq_false, not_false_eq_true, Int.reduceLT, UInt8.reduceLT, UInt8.reduceLE, UInt8.reduceToNat]
      exact loopQ_intro (m := fs.length - (i + 1)) (by omega) (hnext ⟨⟨by omega, by omega⟩, fun h => absurd h h20⟩ _ h0 rfl)
end Go.Ab

/-
  Names and values of fields; texts without blanks at their ends.
-/
namespace Go.Ab
set_option linter.unusedVariables false
set_option linter.unusedSimpArgs false
variable {st s : St} {e : Env}

theorem all_getD {p : UInt8 → Bool} {l : List UInt8} (h : ∀ j, j < l.length → p (l.getD j 0) = true) : l.all p = true := by
  rw [List.all_eq_true]
  intro c hc
  obtain ⟨i, hi, rfl⟩ := List.mem_iff_getElem.1 hc
  have := h i hi
  simpa [List.getD, hi] using this
theorem all_bad {p : UInt8 → Bool} {l : List UInt8} {j : Nat} (hj : j < l.length) (h : p (l.getD j 0) = false) : l.all p = false := by
  rw [List.all_eq_false]
  refine ⟨l.getD j 0, ?_, by rw [h]; simp⟩
  simp [List.getD, hj]

def nameC (c : UInt8) : Bool := !decide (c < 33) && !decide (126 < c) && !decide (c = 58)
def nameB (l : List UInt8) : Bool := decide (1 ≤ l.length) && decide (l.length ≤ 64) && l.all nameC

theorem isName_spec {l : List UInt8} : call prog (.fn 157 []) [.str l] st = some (.bool (nameB l), st) := by
  refine call_of_W prog_157 ?_
  unfold F_fields_isName; dsimp only
  by_cases h1 : l.length < 1
  · have e1 : (l.length : Int) < 1 := by omega
    simp (maxSteps := 1000000) (disch := omega) only [len_s, e1, W_seq, W_region, W_cond, W_block, W_skip, W_label, W_exit, W_goto, W_ret, WO_cons, WO_consG, WO_nil, wantedA_eq, wantB, evOp, ev_tmp, ev_const, ev_fn, WN_some, WN_none, updO_some, updO_none, upd_eq,
 ↓reduceIte, Nat.reduceEqDiff, List.nil_append, List.cons_append, List.append_nil, List.map_cons, List.map_nil, env0_zero, env0_succ, env0_nil, Option.map_some, Option.map_none, seqQ_normal, seqQ_ret, seqQ_exit, seqQ_goto, blockQ_normal, blockQ_ret, blockQ_exit, blockQ_goto, condW_bool, loopQ_ret, loopQ_exit, loopQ_goto, endQ_ret, endQ_normal,
 lss_i, leq_i, gtr_i, geq_i, eql_i, neq_i, eql_8, neq_8, lss_8, leq_8, gtr_8, geq_8, eql_s, neq_s, eql_b, neq_b, not_b, by_bys, by_nils, load_cp1, beq_true, beq_false, Bool.not_eq_true', decide_eq_true_eq, decide_eq_false_iff_not, decide_true, decide_false,
 Int.toNat_natCast, Int.ofNat_lt, Int.ofNat_le, Int.natCast_inj, Bool.false_eq_true, Bool.true_eq_false, extPV, List.getElem?_cons_zero, List.getElem?_cons_succ, nilckPV, Int.reduceToNat, Int.reduceLE, true_and, and_true, reduceCtorEq, or_false, false_or, or_true, Option.some.injEq, exists_eq_left', Bool.not_true, Bool.not_false, ne_eq, Int.reduceEq, not_true_eq_false, not_false_eq_true, Int.reduceLT, UInt8.reduceLT, UInt8.reduceLE, UInt8.reduceToNat]
    rw [show nameB l = false by simp [nameB]; omega]
    exact end1 rfl Kp_bool
  have e1 : ¬ (l.length : Int) < 1 := by omega
  by_cases h2 : 64 < l.length
  · have e2 : (64 : Int) < (l.length : Int) := by omega
    simp (maxSteps := 1000000) (disch := omega) only [len_s, e1, e2, W_seq, W_region, W_cond, W_block, W_skip, W_label, W_exit, W_goto, W_ret, WO_cons, WO_consG, WO_nil, wantedA_eq, wantB, evOp, ev_tmp, ev_const, ev_fn, WN_some, WN_none, updO_some, updO_none, upd_eq,
 ↓reduceIte, Nat.reduceEqDiff, List.nil_append, List.cons_append, List.append_nil, List.map_cons, List.map_nil, env0_zero, env0_succ, env0_nil, Option.map_some, Option.map_none, seqQ_normal, seqQ_ret, seqQ_exit, seqQ_goto, blockQ_normal, blockQ_ret, blockQ_exit, blockQ_goto, condW_bool, loopQ_ret, loopQ_exit, loopQ_goto, endQ_ret, endQ_normal,
 lss_i, leq_i, gtr_i, geq_i, eql_i, neq_i, eql_8, neq_8, lss_8, leq_8, gtr_8, geq_8, eql_s, neq_s, eql_b, neq_b, not_b, by_bys, by_nils, load_cp1, beq_true, beq_false, Bool.not_eq_true', decide_eq_true_eq, decide_eq_false_iff_not, decide_true, decide_false,
 Int.toNat_natCast, Int.ofNat_lt, Int.ofNat_le, Int.natCast_inj, Bool.false_eq_true, Bool.true_eq_false, extPV, List.getElem?_cons_zero, List.getElem?_cons_succ, nilckPV, Int.reduceToNat, Int.reduceLE, true_and, and_true, reduceCtorEq, or_false, false_or, or_true, Option.some.injEq, exists_eq_left', Bool.not_true, Bool.not_false, ne_eq, Int.reduceEq, not_true_eq_false, not_false_eq_true, Int.reduceLT, UInt8.reduceLT, UInt8.reduceLE, UInt8.reduceToNat]
    rw [show nameB l = false by simp [nameB]; omega]
    exact end1 rfl Kp_bool
  have e2 : ¬ (64 : Int) < (l.length : Int) := by omega
  simp (maxSteps := 1000000) (disch := omega) only [len_s, e1, e2, W_seq, W_region, W_cond, W_block, W_skip, W_label, W_exit, W_goto, W_ret, WO_cons, WO_consG, WO_nil, wantedA_eq, wantB, evOp, ev_tmp, ev_const, ev_fn, WN_some, WN_none, updO_some, updO_none, upd_eq,
 ↓reduceIte, Nat.reduceEqDiff, List.nil_append, List.cons_append, List.append_nil, List.map_cons, List.map_nil, env0_zero, env0_succ, env0_nil, Option.map_some, Option.map_none, seqQ_normal, seqQ_ret, seqQ_exit, seqQ_goto, blockQ_normal, blockQ_ret, blockQ_exit, blockQ_goto, condW_bool, loopQ_ret, loopQ_exit, loopQ_goto, endQ_ret, endQ_normal,
 lss_i, leq_i, gtr_i, geq_i, eql_i, neq_i, eql_8, neq_8, lss_8, leq_8, gtr_8, geq_8, eql_s, neq_s, eql_b, neq_b, not_b, by_bys, by_nils, load_cp1, beq_true, beq_false, Bool.not_eq_true', decide_eq_true_eq, decide_eq_false_iff_not, decide_true, decide_false,
 Int.toNat_natCast, Int.ofNat_lt, Int.ofNat_le, Int.natCast_inj, Bool.false_eq_true, Bool.true_eq_false, extPV, List.getElem?_cons_zero, List.getElem?_cons_succ, nilckPV, Int.reduceToNat, Int.reduceLE, true_and, and_true, reduceCtorEq, or_false, false_or, or_true, Option.some.injEq, exists_eq_left', Bool.not_true, Bool.not_false, ne_eq, Int.reduceEq, not_true_eq_false, not_false_eq_true, Int.reduceLT, UInt8.reduceLT, UInt8.reduceLE, UInt8.reduceToNat]
  obtain ⟨I, hI⟩ : ∃ I : Nat → Env → St → Prop, I = fun k e s' => ∃ (i : Nat), k = l.length - i ∧ i ≤ l.length ∧ Kept st s' ∧ (∀ j, j < i → nameC (l.getD j 0) = true) ∧ e 0 = .str l ∧ e 13 = .int .i64 (l.length : Int) ∧ e 14 = .int .i64 (i : Int) := ⟨_, rfl⟩
  refine W_loop I ?_ (n := l.length) (by
    rw [hI]
    exact ⟨0, rfl, by omega, Kept.start, fun j h => by omega, rfl, rfl, rfl⟩)
  intro k e s' hh
  rw [hI] at hh
  obtain ⟨i, rfl, hi, hk, hall, h0, h13, h14⟩ := hh
  by_cases hlt : i < l.length
  · obtain ⟨c, hc⟩ : ∃ c, c = l.getD i 0 := ⟨_, rfl⟩
    have bad : nameC c = false → ∀ E : Env, E 2 = .bool false → ∃ rv, resOf E s' [.tmp 2] = some rv ∧ leave st s' rv = (.bool (nameB l), st) := fun h E k2 =>
      ⟨.bool false, by simp [resOf, rvAll, rv1, k2, notTup, packRes], by
        rw [show nameB l = false by simp only [nameB, all_bad (p := nameC) hlt (by rw [← hc]; exact h), Bool.and_false]]
        exact hk.leave rfl (fun _ _ => rfl)⟩
    by_cases q1 : c < 33
    · simp (maxSteps := 1000000) (disch := omega) only [h0, h13, h14, hlt, idx_s, ← hc, eq_true q1, W_seq, W_region, W_cond, W_block, W_skip, W_label, W_exit, W_goto, W_ret, WO_cons, WO_consG, WO_nil, wantedA_eq, wantB, evOp, ev_tmp, ev_const, ev_fn, WN_some, WN_none, updO_some, updO_none, upd_eq,
 ↓reduceIte, Nat.reduceEqDiff, List.nil_append, List.cons_append, List.append_nil, List.map_cons, List.map_nil, env0_zero, env0_succ, env0_nil, Option.map_some, Option.map_none, seqQ_normal, seqQ_ret, seqQ_exit, seqQ_goto, blockQ_normal, blockQ_ret, blockQ_exit, blockQ_goto, condW_bool, loopQ_ret, loopQ_exit, loopQ_goto, endQ_ret, endQ_normal,
 lss_i, leq_i, gtr_i, geq_i, eql_i, neq_i, eql_8, neq_8, lss_8, leq_8, gtr_8, geq_8, eql_s, neq_s, eql_b, neq_b, not_b, by_bys, by_nils, load_cp1, beq_true, beq_false, Bool.not_eq_true', decide_eq_true_eq, decide_eq_false_iff_not, decide_true, decide_false,
 Int.toNat_natCast, Int.ofNat_lt, Int.ofNat_le, Int.natCast_inj, Bool.false_eq_true, Bool.true_eq_false, extPV, List.getElem?_cons_zero, List.getElem?_cons_succ, nilckPV, Int.reduceToNat, Int.reduceLE, true_and, and_true, reduceCtorEq, or_false, false_or, or_true, Option.some.injEq, exists_eq_left', Bool.not_true, Bool.not_false, ne_eq, Int.reduceEq, not_true_eq_false, not_false_eq_true, Int.reduceLT, UInt8.reduceLT, UInt8.reduceLE, UInt8.reduceToNat]
      exact bad (by simp [nameC, q1]) _ rfl
    by_cases q2 : 126 < c
    · simp (maxSteps := 1000000) (disch := omega) only [h0, h13, h14, hlt, idx_s, ← hc, q1, eq_true q2, W_seq, W_region, W_cond, W_block, W_skip, W_label, W_exit, W_goto, W_ret, WO_cons, WO_consG, WO_nil, wantedA_eq, wantB, evOp, ev_tmp, ev_const, ev_fn, WN_some, WN_none, updO_some, updO_none, upd_eq,
 ↓reduceIte, Nat.reduceEqDiff, List.nil_append, List.cons_append, List.append_nil, List.map_cons, List.map_nil, env0_zero, env0_succ, env0_nil, Option.map_some, Option.map_none, seqQ_normal, seqQ_ret, seqQ_exit, seqQ_goto, blockQ_normal, blockQ_ret, blockQ_exit, blockQ_goto, condW_bool, loopQ_ret, loopQ_exit, loopQ_goto, endQ_ret, endQ_normal,
 lss_i, leq_i, gtr_i, geq_i, eql_i, neq_i, eql_8, neq_8, lss_8, leq_8, gtr_8, geq_8, eql_s, neq_s, eql_b, neq_b, not_b, by_bys, by_nils, load_cp1, beq_true, beq_false, Bool.not_eq_true', decide_eq_true_eq, decide_eq_false_iff_not, decide_true, decide_false,
 Int.toNat_natCast, Int.ofNat_lt, Int.ofNat_le, Int.natCast_inj, Bool.false_eq_true, Bool.true_eq_false, extPV, List.getElem?_cons_zero, List.getElem?_cons_succ, nilckPV, Int.reduceToNat, Int.reduceLE, true_and, and_true, reduceCtorEq, or_false, false_or, or_true, Option.some.injEq, exists_eq_left', Bool.not_true, Bool.not_false, ne_eq, Int.reduceEq, not_true_eq_false, not_false_eq_true, Int.reduceLT, UInt8.reduceLT, UInt8.reduceLE, UInt8.reduceToNat]
      exact bad (by simp [nameC, q2]) _ rfl
    by_cases q3 : c = 58
    · simp (maxSteps := 1000000) (disch := omega) only [h0, h13, h14, hlt, idx_s, ← hc, q1, q2, eq_true q3, W_seq, W_region, W_cond, W_block, W_skip, W_label, W_exit, W_goto, W_ret, WO_cons, WO_consG, WO_nil, wantedA_eq, wantB, evOp, ev_tmp, ev_const, ev_fn, WN_some, WN_none, updO_some, updO_none, upd_eq,
 ↓reduceIte, Nat.reduceEqDiff, List.nil_append, List.cons_append, List.append_nil, List.map_cons, List.map_nil, env0_zero, env0_succ, env0_nil, Option.map_some, Option.map_none, seqQ_normal, seqQ_ret, seqQ_exit, seqQ_goto, blockQ_normal, blockQ_ret, blockQ_exit, blockQ_goto, condW_bool, loopQ_ret, loopQ_exit, loopQ_goto, endQ_ret, endQ_normal,
 lss_i, leq_i, gtr_i, geq_i, eql_i, neq_i, eql_8, neq_8, lss_8, leq_8, gtr_8, geq_8, eql_s, neq_s, eql_b, neq_b, not_b, by_bys, by_nils, load_cp1, beq_true, beq_false, Bool.not_eq_true', decide_eq_true_eq, decide_eq_false_iff_not, decide_true, decide_false,
 Int.toNat_natCast, Int.ofNat_lt, Int.ofNat_le, Int.natCast_inj, Bool.false_eq_true, Bool.true_eq_false, extPV, List.getElem?_cons_zero, List.getElem?_cons_succ, nilckPV, Int.reduceToNat, Int.reduceLE, true_and, and_true, reduceCtorEq, or_false, false_or, or_true, Option.some.injEq, exists_eq_left', Bool.not_true, Bool.not_false, ne_eq, Int.reduceEq, not_true_eq_false, not_false_eq_true, Int.reduceLT, UInt8.reduceLT, UInt8.reduceLE, UInt8.reduceToNat]
      exact bad (by simp [nameC, q3]) _ rfl
    · simp (maxSteps := 1000000) (disch := omega) only [h0, h13, h14, hlt, idx_s, ← hc, q1, q2, q3, add_n, W_seq, W_region, W_cond, W_block, W_skip, W_label, W_exit, W_goto, W_ret, WO_cons, WO_consG, WO_nil, wantedA_eq, wantB, evOp, ev_tmp, ev_const, ev_fn, WN_some, WN_none, updO_some, updO_none, upd_eq,
 ↓reduceIte, Nat.reduceEqDiff, List.nil_append, List.cons_append, List.append_nil, List.map_cons, List.map_nil, env0_zero, env0_succ, env0_nil, Option.map_some, Option.map_none, seqQ_normal, seqQ_ret, seqQ_exit, seqQ_goto, blockQ_normal, blockQ_ret, blockQ_exit, blockQ_goto, condW_bool, loopQ_ret, loopQ_exit, loopQ_goto, endQ_ret, endQ_normal,
 lss_i, leq_i, gtr_i, geq_i, eql_i, neq_i, eql_8, neq_8, lss_8, leq_8, gtr_8, geq_8, eql_s, neq_s, eql_b, neq_b, not_b, by_bys, by_nils, load_cp1, beq_true, beq_false, Bool.not_eq_true', decide_eq_true_eq, decide_eq_false_iff_not, decide_true, decide_false,
 Int.toNat_natCast, Int.ofNat_lt, Int.ofNat_le, Int.natCast_inj, Bool.false_eq_true, Bool.true_eq_false, extPV, List.getElem?_cons_zero, List.getElem?_cons_succ, nilckPV, Int.reduceToNat, Int.reduceLE, true_and, and_true, reduceCtorEq, or_false, false_or, or_true, Option.some.injEq, exists_eq_left', Bool.not_true, Bool.not_false, ne_eq, Int.reduceEq, not_true_eq_false, not_false_eq_true, Int.reduceLT, UInt8.reduceLT, UInt8.reduceLE, UInt8.reduceToNat]
      refine loopQ_intro (m := l.length - (i + 1)) (by omega) ?_
      rw [hI]
      refine ⟨i + 1, rfl, by omega, hk, fun j hj => ?_, h0, h13, rfl⟩
      by_cases hji : j = i
      · subst hji; rw [← hc]; simp [nameC, q1, q2, q3]
      · exact hall j (by omega)
  · obtain rfl : i = l.length := by omega
    simp (maxSteps := 1000000) (disch := omega) only [h0, h13, h14, hlt, W_seq, W_region, W_cond, W_block, W_skip, W_label, W_exit, W_goto, W_ret, WO_cons, WO_consG, WO_nil, wantedA_eq, wantB, evOp, ev_tmp, ev_const, ev_fn, WN_some, WN_none, updO_some, updO_none, upd_eq,
 ↓reduceIte, Nat.reduceEqDiff, List.nil_append, List.cons_append, List.append_nil, List.map_cons, List.map_nil, env0_zero, env0_succ, env0_nil, Option.map_some, Option.map_none, seqQ_normal, seqQ_ret, seqQ_exit, seqQ_goto, blockQ_normal, blockQ_ret, blockQ_exit, blockQ_goto, condW_bool, loopQ_ret, loopQ_exit, loopQ_goto, endQ_ret, endQ_normal,
 lss_i, leq_i, gtr_i, geq_i, eql_i, neq_i, eql_8, neq_8, lss_8, leq_8, gtr_8, geq_8, eql_s, neq_s, eql_b, neq_b, not_b, by_bys, by_nils, load_cp1, beq_true, beq_false, Bool.not_eq_true', decide_eq_true_eq, decide_eq_false_iff_not, decide_true, decide_false,
 Int.toNat_natCast, Int.ofNat_lt, Int.ofNat_le, Int.natCast_inj, Bool.false_eq_true, Bool.true_eq_false, extPV, List.getElem?_cons_zero, List.getElem?_cons_succ, nilckPV, Int.reduceToNat, Int.reduceLE, true_and, and_true, reduceCtorEq, or_false, false_or, or_true, Option.some.injEq, exists_eq_left', Bool.not_true, Bool.not_false, ne_eq, Int.reduceEq, not_true_eq_false, not_false_eq_true, Int.reduceLT, UInt8.reduceLT, UInt8.reduceLE, UInt8.reduceToNat]
    refine ⟨.bool true, rfl, ?_⟩
    rw [show nameB l = true by simp only [nameB, all_getD (p := nameC) hall, Bool.and_true, Bool.and_eq_true, decide_eq_true_eq]; omega]
    exact hk.leave rfl (fun _ _ => rfl)

theorem le32 {c : UInt8} : c ≤ 32 ↔ c < 33 := by
  rw [UInt8.le_iff_toNat_le, UInt8.lt_iff_toNat_lt]; simp; omega
theorem ge127 {c : UInt8} : 127 ≤ c ↔ 126 < c := by
  rw [UInt8.le_iff_toNat_le, UInt8.lt_iff_toNat_lt]; simp; omega

theorem rName_spec {l : List UInt8} (hl : l.length ≤ 1000000) : call prog (.fn 160 []) [.str l] st = some (.bool (nameB l), st) := by
  refine call_of_W prog_160 ?_
  unfold F_posthornref06_Name; dsimp only
  simp (maxSteps := 1000000) (disch := omega) only [len_s, W_seq, W_region, W_cond, W_block, W_skip, W_label, W_exit, W_goto, W_ret, WO_cons, WO_consG, WO_nil, wantedA_eq, wantB, evOp, ev_tmp, ev_const, ev_fn, WN_some, WN_none, updO_some, updO_none, upd_eq,
 ↓reduceIte, Nat.reduceEqDiff, List.nil_append, List.cons_append, List.append_nil, List.map_cons, List.map_nil, env0_zero, env0_succ, env0_nil, Option.map_some, Option.map_none, seqQ_normal, seqQ_ret, seqQ_exit, seqQ_goto, blockQ_normal, blockQ_ret, blockQ_exit, blockQ_goto, condW_bool, loopQ_ret, loopQ_exit, loopQ_goto, endQ_ret, endQ_normal,
 lss_i, leq_i, gtr_i, geq_i, eql_i, neq_i, eql_8, neq_8, lss_8, leq_8, gtr_8, geq_8, eql_s, neq_s, eql_b, neq_b, not_b, by_bys, by_nils, load_cp1, beq_true, beq_false, Bool.not_eq_true', decide_eq_true_eq, decide_eq_false_iff_not, decide_true, decide_false,
 Int.toNat_natCast, Int.ofNat_lt, Int.ofNat_le, Int.natCast_inj, Bool.false_eq_true, Bool.true_eq_false, extPV, List.getElem?_cons_zero, List.getElem?_cons_succ, nilckPV, Int.reduceToNat, Int.reduceLE, true_and, and_true, reduceCtorEq, or_false, false_or, or_true, Option.some.injEq, exists_eq_left', Bool.not_true, Bool.not_false, ne_eq, Int.reduceEq, not_true_eq_false, not_false_eq_true, Int.reduceLT, UInt8.reduceLT, UInt8.reduceLE, UInt8.reduceToNat]
  obtain ⟨I, hI⟩ : ∃ I : Nat → Env → St → Prop, I = fun k e s' => ∃ (i : Nat), k = l.length - i ∧ i ≤ l.length ∧ Kept st s' ∧ (∀ j, j < i → nameC (l.getD j 0) = true) ∧ e 0 = .str l ∧ e 3 = .int .i64 (i : Int) := ⟨_, rfl⟩
  refine W_loop I ?_ (n := l.length) (by
    rw [hI]
    exact ⟨0, rfl, by omega, Kept.start, fun j h => by omega, rfl, rfl⟩)
  intro k e s' hh
  rw [hI] at hh
  obtain ⟨i, rfl, hi, hk, hall, h0, h3⟩ := hh
  by_cases hlt : i < l.length
  · obtain ⟨c, hc⟩ : ∃ c, c = l.getD i 0 := ⟨_, rfl⟩
    have bad : nameC c = false → ∀ E : Env, E 2 = .bool false → ∃ rv, resOf E s' [.tmp 2] = some rv ∧ leave st s' rv = (.bool (nameB l), st) := fun h E k2 =>
      ⟨.bool false, by simp [resOf, rvAll, rv1, k2, notTup, packRes], by
        rw [show nameB l = false by simp only [nameB, all_bad (p := nameC) hlt (by rw [← hc]; exact h), Bool.and_false]]
        exact hk.leave rfl (fun _ _ => rfl)⟩
    by_cases q1 : c ≤ 32
    · simp (maxSteps := 1000000) (disch := omega) only [h0, h3, len_s, hlt, idx_s, ← hc, eq_true q1, W_seq, W_region, W_cond, W_block, W_skip, W_label, W_exit, W_goto, W_ret, WO_cons, WO_consG, WO_nil, wantedA_eq, wantB, evOp, ev_tmp, ev_const, ev_fn, WN_some, WN_none, updO_some, updO_none, upd_eq,
 ↓reduceIte, Nat.reduceEqDiff, List.nil_append, List.cons_append, List.append_nil, List.map_cons, List.map_nil, env0_zero, env0_succ, env0_nil, Option.map_some, Option.map_none, seqQ_normal, seqQ_ret, seqQ_exit, seqQ_goto, blockQ_normal, blockQ_ret, blockQ_exit, blockQ_goto, condW_bool, loopQ_ret, loopQ_exit, loopQ_goto, endQ_ret, endQ_normal,
 lss_i, leq_i, gtr_i, geq_i, eql_i, neq_i, eql_8, neq_8, lss_8, leq_8, gtr_8, geq_8, eql_s, neq_s, eql_b, neq_b, not_b, by_bys, by_nils, load_cp1, beq_true, beq_false, Bool.not_eq_true', decide_eq_true_eq, decide_eq_false_iff_not, decide_true, decide_false,
 Int.toNat_natCast, Int.ofNat_lt, Int.ofNat_le, Int.natCast_inj, Bool.false_eq_true, Bool.true_eq_false, extPV, List.getElem?_cons_zero, List.getElem?_cons_succ, nilckPV, Int.reduceToNat, Int.reduceLE, true_and, and_true, reduceCtorEq, or_false, false_or, or_true, Option.some.injEq, exists_eq_left', Bool.not_true, Bool.not_false, ne_eq, Int.reduceEq, not_true_eq_false, not_false_eq_true, Int.reduceLT, UInt8.reduceLT, UInt8.reduceLE, UInt8.reduceToNat]
      exact bad (by simp [nameC, le32.1 q1]) _ rfl
    by_cases q2 : 127 ≤ c
    · simp (maxSteps := 1000000) (disch := omega) only [h0, h3, len_s, hlt, idx_s, ← hc, q1, eq_true q2, W_seq, W_region, W_cond, W_block, W_skip, W_label, W_exit, W_goto, W_ret, WO_cons, WO_consG, WO_nil, wantedA_eq, wantB, evOp, ev_tmp, ev_const, ev_fn, WN_some, WN_none, updO_some, updO_none, upd_eq,
 ↓reduceIte, Nat.reduceEqDiff, List.nil_append, List.cons_append, List.append_nil, List.map_cons, List.map_nil, env0_zero, env0_succ, env0_nil, Option.map_some, Option.map_none, seqQ_normal, seqQ_ret, seqQ_exit, seqQ_goto, blockQ_normal, blockQ_ret, blockQ_exit, blockQ_goto, condW_bool, loopQ_ret, loopQ_exit, loopQ_goto, endQ_ret, endQ_normal,
 lss_i, leq_i, gtr_i, geq_i, eql_i, neq_i, eql_8, neq_8, lss_8, leq_8, gtr_8, geq_8, eql_s, neq_s, eql_b, neq_b, not_b, by_bys, by_nils, load_cp1, beq_true, beq_false, Bool.not_eq_true', decide_eq_true_eq, decide_eq_false_iff_not, decide_true, decide_false,
 Int.toNat_natCast, Int.ofNat_lt, Int.ofNat_le, Int.natCast_inj, Bool.false_eq_true, Bool.true_eq_false, extPV, List.getElem?_cons_zero, List.getElem?_cons_succ, nilckPV, Int.reduceToNat, Int.reduceLE, true_and, and_true, reduceCtorEq, or_false, false_or, or_true, Option.some.injEq, exists_eq_left', Bool.not_true, Bool.not_false, ne_eq, Int.reduceEq, not_true_eq_false, not_false_eq_true, Int.reduceLT, UInt8.reduceLT, UInt8.reduceLE, UInt8.reduceToNat]
      exact bad (by simp [nameC, ge127.1 q2]) _ rfl
    by_cases q3 : c = 58
    · simp (maxSteps := 1000000) (disch := omega) only [h0, h3, len_s, hlt, idx_s, ← hc, q1, q2, eq_true q3, W_seq, W_region, W_cond, W_block, W_skip, W_label, W_exit, W_goto, W_ret, WO_cons, WO_consG, WO_nil, wantedA_eq, wantB, evOp, ev_tmp, ev_const, ev_fn, WN_some, WN_none, updO_some, updO_none, upd_eq,
 ↓reduceIte, Nat.reduceEqDiff, List.nil_append, List.cons_append, List.append_nil, List.map_cons, List.map_nil, env0_zero, env0_succ, env0_nil, Option.map_some, Option.map_none, seqQ_normal, seqQ_ret, seqQ_exit, seqQ_goto, blockQ_normal, blockQ_ret, blockQ_exit, blockQ_goto, condW_bool, loopQ_ret, loopQ_exit, loopQ_goto, endQ_ret, endQ_normal,
 lss_i, leq_i, gtr_i, geq_i, eql_i, neq_i, eql_8, neq_8, lss_8, leq_8, gtr_8, geq_8, eql_s, neq_s, eql_b, neq_b, not_b, by_bys, by_nils, load_cp1, beq_true, beq_false, Bool.not_eq_true', decide_eq_true_eq, decide_eq_false_iff_not, decide_true, decide_false,
 Int.toNat_natCast, Int.ofNat_lt, Int.ofNat_le, Int.natCast_inj, Bool.false_eq_true, Bool.true_eq_false, extPV, List.getElem?_cons_zero, List.getElem?_cons_succ, nilckPV, Int.reduceToNat, Int.reduceLE, true_and, and_true, reduceCtorEq, or_false, false_or, or_true, Option.some.injEq, exists_eq_left', Bool.not_true, Bool.not_false, ne_eq, Int.reduceEq, not_true_eq_false, not_false_eq_true, Int.reduceLT, UInt8.reduceLT, UInt8.reduceLE, UInt8.reduceToNat]
      exact bad (by simp [nameC, q3]) _ rfl
    · simp (maxSteps := 1000000) (disch := omega) only [h0, h3, len_s, hlt, idx_s, ← hc, q1, q2, q3, add_n, W_seq, W_region, W_cond, W_block, W_skip, W_label, W_exit, W_goto, W_ret, WO_cons, WO_consG, WO_nil, wantedA_eq, wantB, evOp, ev_tmp, ev_const, ev_fn, WN_some, WN_none, updO_some, updO_none, upd_eq,
 ↓reduceIte, Nat.reduceEqDiff, List.nil_append, List.cons_append, List.append_nil, List.map_cons, List.map_nil, env0_zero, env0_succ, env0_nil, Option.map_some, Option.map_none, seqQ_normal, seqQ_ret, seqQ_exit, seqQ_goto, blockQ_normal, blockQ_ret, blockQ_exit, blockQ_goto, condW_bool, loopQ_ret, loopQ_exit, loopQ_goto, endQ_ret, endQ_normal,
 lss_i, leq_i, gtr_i, geq_i, eql_i, neq_i, eql_8, neq_8, lss_8, leq_8, gtr_8, geq_8, eql_s, neq_s, eql_b, neq_b, not_b, by_bys, by_nils, load_cp1, beq_true, beq_false, Bool.not_eq_true', decide_eq_true_eq, decide_eq_false_iff_not, decide_true, decide_false,
 Int.toNat_natCast, Int.ofNat_lt, Int.ofNat_le, Int.natCast_inj, Bool.false_eq_true, Bool.true_eq_false, extPV, List.getElem?_cons_zero, List.getElem?_cons_succ, nilckPV, Int.reduceToNat, Int.reduceLE, true_and, and_true, reduceCtorEq, or_false, false_or, or_true, Option.some.injEq, exists_eq_left', Bool.not_true, Bool.not_false, ne_eq, Int.reduceEq, not_true_eq_false, not_false_eq_true, Int.reduceLT, UInt8.reduceLT, UInt8.reduceLE, UInt8.reduceToNat]
      refine loopQ_intro (m := l.length - (i + 1)) (by omega) ?_
      rw [hI]
      refine ⟨i + 1, rfl, by omega, hk, fun j hj => ?_, h0, rfl⟩
      by_cases hji : j = i
      · subst hji; rw [← hc]
        rw [le32] at q1; rw [ge127] at q2
        simp [nameC, q1, q2, q3]
      · exact hall j (by omega)
  · obtain rfl : i = l.length := by omega
    by_cases g1 : 1 ≤ l.length
    · have e1 : (1 : Int) ≤ (l.length : Int) := by omega
      by_cases g2 : l.length ≤ 64
      · have e2 : (l.length : Int) ≤ 64 := by omega
        simp (maxSteps := 1000000) (disch := omega) only [h0, h3, len_s, hlt, e1, e2, W_seq, W_region, W_cond, W_block, W_skip, W_label, W_exit, W_goto, W_ret, WO_cons, WO_consG, WO_nil, wantedA_eq, wantB, evOp, ev_tmp, ev_const, ev_fn, WN_some, WN_none, updO_some, updO_none, upd_eq,
 ↓reduceIte, Nat.reduceEqDiff, List.nil_append, List.cons_append, List.append_nil, List.map_cons, List.map_nil, env0_zero, env0_succ, env0_nil, Option.map_some, Option.map_none, seqQ_normal, seqQ_ret, seqQ_exit, seqQ_goto, blockQ_normal, blockQ_ret, blockQ_exit, blockQ_goto, condW_bool, loopQ_ret, loopQ_exit, loopQ_goto, endQ_ret, endQ_normal,
 lss_i, leq_i, gtr_i, geq_i, eql_i, neq_i, eql_8, neq_8, lss_8, leq_8, gtr_8, geq_8, eql_s, neq_s, eql_b, neq_b, not_b, by_bys, by_nils, load_cp1, beq_true, beq_false, Bool.not_eq_true', decide_eq_true_eq, decide_eq_false_iff_not, decide_true, decide_false,
 Int.toNat_natCast, Int.ofNat_lt, Int.ofNat_le, Int.natCast_inj, Bool.false_eq_true, Bool.true_eq_false, extPV, List.getElem?_cons_zero, List.getElem?_cons_succ, nilckPV, Int.reduceToNat, Int.reduceLE, true_and, and_true, reduceCtorEq, or_false, false_or, or_true, Option.some.injEq, exists_eq_left', Bool.not_true, Bool.not_false, ne_eq, Int.reduceEq, not_true_eq_false, not_false_eq_true, Int.reduceLT, UInt8.reduceLT, UInt8.reduceLE, UInt8.reduceToNat]
        refine ⟨.bool true, rfl, ?_⟩
        rw [show nameB l = true by simp only [nameB, all_getD (p := nameC) hall, Bool.and_true, Bool.and_eq_true, decide_eq_true_eq]; omega]
        exact hk.leave rfl (fun _ _ => rfl)
      · have e2 : ¬ (l.length : Int) ≤ 64 := by omega
        simp (maxSteps := 1000000) (disch := omega) only [h0, h3, len_s, hlt, e1, e2, W_seq, W_region, W_cond, W_block, W_skip, W_label, W_exit, W_goto, W_ret, WO_cons, WO_consG, WO_nil, wantedA_eq, wantB, evOp, ev_tmp, ev_const, ev_fn, WN_some, WN_none, updO_some, updO_none, upd_eq,
 ↓reduceIte, Nat.reduceEqDiff, List.nil_append, List.cons_append, List.append_nil, List.map_cons, List.map_nil, env0_zero, env0_succ, env0_nil, Option.map_some, Option.map_none, seqQ_normal, seqQ_ret, seqQ_exit, seqQ_goto, blockQ_normal, blockQ_ret, blockQ_exit, blockQ_goto, condW_bool, loopQ_ret, loopQ_exit, loopQ_goto, endQ_ret, endQ_normal,
 lss_i, leq_i, gtr_i, geq_i, eql_i, neq_i, eql_8, neq_8, lss_8, leq_8, gtr_8, geq_8, eql_s, neq_s, eql_b, neq_b, not_b, by_bys, by_nils, load_cp1, beq_true, beq_false, Bool.not_eq_true', decide_eq_true_eq, decide_eq_false_iff_not, decide_true, decide_false,
 Int.toNat_natCast, Int.ofNat_lt, Int.ofNat_le, Int.natCast_inj, Bool.false_eq_true, Bool.true_eq_false, extPV, List.getElem?_cons_zero, List.getElem?_cons_succ, nilckPV, Int.reduceToNat, Int.reduceLE, true_and, and_true, reduceCtorEq, or_false, false_or, or_true, Option.some.injEq, exists_eq_left', Bool.not_true, Bool.not_false, ne_eq, Int.reduceEq, not_true_eq_false, not_false_eq_true, Int.reduceLT, UInt8.reduceLT, UInt8.reduceLE, UInt8.reduceToNat]
        refine ⟨.bool false, rfl, ?_⟩
        rw [show nameB l = false by simp [nameB, g2]]
        exact hk.leave rfl (fun _ _ => rfl)
    · have e1 : ¬ (1 : Int) ≤ (l.length : Int) := by omega
      simp (maxSteps := 1000000) (disch := omega) only [h0, h3, len_s, hlt, e1, W_seq, W_region, W_cond, W_block, W_skip, W_label, W_exit, W_goto, W_ret, WO_cons, WO_consG, WO_nil, wantedA_eq, wantB, evOp, ev_tmp, ev_const, ev_fn, WN_some, WN_none, updO_some, updO_none, upd_eq,
 ↓reduceIte, Nat.reduceEqDiff, List.nil_append, List.cons_append, List.append_nil, List.map_cons, List.map_nil, env0_zero, env0_succ, env0_nil, Option.map_some, Option.map_none, seqQ_normal, seqQ_ret, seqQ_exit, seqQ_goto, blockQ_normal, blockQ_ret, blockQ_exit, blockQ_goto, condW_bool, loopQ_ret, loopQ_exit, loopQ_goto, endQ_ret, endQ_normal,
 lss_i, leq_i, gtr_i, geq_i, eql_i, neq_i, eql_8, neq_8, lss_8, leq_8, gtr_8, geq_8, eql_s, neq_s, eql_b, neq_b, not_b, by_bys, by_nils, load_cp1, beq_true, beq_false, Bool.not_eq_true', decide_eq_true_eq, decide_eq_false_iff_not, decide_true, decide_false,
 Int.toNat_natCast, Int.ofNat_lt, Int.ofNat_le, Int.natCast_inj, Bool.false_eq_true, Bool.true_eq_false, extPV, List.getElem?_cons_zero, List.getElem?_cons_succ, nilckPV, Int.reduceToNat, Int.reduceLE, true_and, and_true, reduceCtorEq, or_false, false_or, or_true, Option.some.injEq, exists_eq_left', Bool.not_true, Bool.not_false, ne_eq, Int.reduceEq, not_true_eq_false, not_false_eq_true, Int.reduceLT, UInt8.reduceLT, UInt8.reduceLE, UInt8.reduceToNat]
      refine ⟨.bool false, rfl, ?_⟩
      rw [show nameB l = false by simp [nameB]; omega]
      exact hk.leave rfl (fun _ _ => rfl)

/-! ### Blanks at the ends -/
def blankC (c : UInt8) : Bool := decide (c = 32) || decide (c = 9)
def ltrim : List UInt8 → List UInt8
  | [] => []
  | c :: r => if blankC c then ltrim r else c :: r
def rtrim (l : List UInt8) : List UInt8 := (ltrim l.reverse).reverse
def trimOf (l : List UInt8) : List UInt8 := rtrim (ltrim l)

theorem ltrim_len : ∀ {l : List UInt8}, (ltrim l).length ≤ l.length := by
  intro l
  induction l with
  | nil => simp [ltrim]
  | cons c r ih => simp only [ltrim]; split <;> simp; omega
theorem rtrim_snoc {l : List UInt8} {c : UInt8} : rtrim (l ++ [c]) = if blankC c then rtrim l else l ++ [c] := by
  unfold rtrim
  simp only [List.reverse_append, List.reverse_cons, List.reverse_nil, List.nil_append, List.singleton_append, ltrim]
  split <;> simp
theorem rtrim_len {l : List UInt8} : (rtrim l).length ≤ l.length := by
  unfold rtrim; have := ltrim_len (l := l.reverse); simpa using this
theorem trimOf_len {l : List UInt8} : (trimOf l).length ≤ l.length := by
  have := rtrim_len (l := ltrim l); have := ltrim_len (l := l); unfold trimOf; omega

theorem rblank_spec {c : UInt8} : call prog (.fn 173 []) [.b8 c] st = some (.bool (blankC c), st) := by
  refine call_of_W prog_173 ?_
  unfold F_posthornref06_blank; dsimp only
  by_cases h : c = 32
  · simp (maxSteps := 1000000) (disch := omega) only [eq_true h, W_seq, W_region, W_cond, W_block, W_skip, W_label, W_exit, W_goto, W_ret, WO_cons, WO_consG, WO_nil, wantedA_eq, wantB, evOp, ev_tmp, ev_const, ev_fn, WN_some, WN_none, updO_some, updO_none, upd_eq,
 ↓reduceIte, Nat.reduceEqDiff, List.nil_append, List.cons_append, List.append_nil, List.map_cons, List.map_nil, env0_zero, env0_succ, env0_nil, Option.map_some, Option.map_none, seqQ_normal, seqQ_ret, seqQ_exit, seqQ_goto, blockQ_normal, blockQ_ret, blockQ_exit, blockQ_goto, condW_bool, loopQ_ret, loopQ_exit, loopQ_goto, endQ_ret, endQ_normal,
 lss_i, leq_i, gtr_i, geq_i, eql_i, neq_i, eql_8, neq_8, lss_8, leq_8, gtr_8, geq_8, eql_s, neq_s, eql_b, neq_b, not_b, by_bys, by_nils, load_cp1, beq_true, beq_false, Bool.not_eq_true', decide_eq_true_eq, decide_eq_false_iff_not, decide_true, decide_false,
 Int.toNat_natCast, Int.ofNat_lt, Int.ofNat_le, Int.natCast_inj, Bool.false_eq_true, Bool.true_eq_false, extPV, List.getElem?_cons_zero, List.getElem?_cons_succ, nilckPV, Int.reduceToNat, Int.reduceLE, true_and, and_true, reduceCtorEq, or_false, false_or, or_true, Option.some.injEq, exists_eq_left', Bool.not_true, Bool.not_false, ne_eq, Int.reduceEq, not_true_eq_false, not_false_eq_true, Int.reduceLT, UInt8.reduceLT, UInt8.reduceLE, UInt8.reduceToNat]
    rw [show blankC c = true by simp [blankC, h]]
    exact end1 rfl Kp_bool
  · simp (maxSteps := 1000000) (disch := omega) only [h, W_seq, W_region, W_cond, W_block, W_skip, W_label, W_exit, W_goto, W_ret, WO_cons, WO_consG, WO_nil, wantedA_eq, wantB, evOp, ev_tmp, ev_const, ev_fn, WN_some, WN_none, updO_some, updO_none, upd_eq,
 ↓reduceIte, Nat.reduceEqDiff, List.nil_append, List.cons_append, List.append_nil, List.map_cons, List.map_nil, env0_zero, env0_succ, env0_nil, Option.map_some, Option.map_none, seqQ_normal, seqQ_ret, seqQ_exit, seqQ_goto, blockQ_normal, blockQ_ret, blockQ_exit, blockQ_goto, condW_bool, loopQ_ret, loopQ_exit, loopQ_goto, endQ_ret, endQ_normal,
 lss_i, leq_i, gtr_i, geq_i, eql_i, neq_i, eql_8, neq_8, lss_8, leq_8, gtr_8, geq_8, eql_s, neq_s, eql_b, neq_b, not_b, by_bys, by_nils, load_cp1, beq_true, beq_false, Bool.not_eq_true', decide_eq_true_eq, decide_eq_false_iff_not, decide_true, decide_false,
 Int.toNat_natCast, Int.ofNat_lt, Int.ofNat_le, Int.natCast_inj, Bool.false_eq_true, Bool.true_eq_false, extPV, List.getElem?_cons_zero, List.getElem?_cons_succ, nilckPV, Int.reduceToNat, Int.reduceLE, true_and, and_true, reduceCtorEq, or_false, false_or, or_true, Option.some.injEq, exists_eq_left', Bool.not_true, Bool.not_false, ne_eq, Int.reduceEq, not_true_eq_false, not_false_eq_true, Int.reduceLT, UInt8.reduceLT, UInt8.reduceLE, UInt8.reduceToNat]
    rw [show blankC c = decide (c = 9) by simp [blankC, h]]
    exact end1 rfl Kp_bool
end Go.Ab

/-
  Points of Unicode as bytes: the program's answer.
-/
namespace Go.Ab
set_option linter.unusedVariables false
set_option linter.unusedSimpArgs false
variable {st s : St} {e : Env}

/-! ### Bytes and numbers -/
theorem all256 {p : UInt8 → Prop} (h : ∀ n : Fin 256, p (UInt8.ofNat n.val)) (c : UInt8) : p c := by
  have := h ⟨c.toNat, c.toNat_lt⟩
  simpa using this
theorem shr5 {ek : EK} {c : UInt8} : binPV .shr ek (.b8 c) (.int .u64 5) = some (.b8 (UInt8.ofNat (c.toNat / 32))) := by simp [binPV, sh8]
theorem shr4 {ek : EK} {c : UInt8} : binPV .shr ek (.b8 c) (.int .u64 4) = some (.b8 (UInt8.ofNat (c.toNat / 16))) := by simp [binPV, sh8]
theorem shr3 {ek : EK} {c : UInt8} : binPV .shr ek (.b8 c) (.int .u64 3) = some (.b8 (UInt8.ofNat (c.toNat / 8))) := by simp [binPV, sh8]
theorem shr6 {ek : EK} {c : UInt8} : binPV .shr ek (.b8 c) (.int .u64 6) = some (.b8 (UInt8.ofNat (c.toNat / 64))) := by simp [binPV, sh8]
theorem and_8 {ek : EK} {a b : UInt8} : binPV .and ek (.b8 a) (.b8 b) = some (.b8 (a &&& b)) := rfl
theorem cI32 {b : UInt8} : cIntPV .i32 (.b8 b) = some (.int .i32 (b.toNat : Int)) := rfl
theorem is2 (c : UInt8) : UInt8.ofNat (c.toNat / 32) = 6 ↔ 192 ≤ c.toNat ∧ c.toNat < 224 := all256 (p := fun c => UInt8.ofNat (c.toNat / 32) = 6 ↔ 192 ≤ c.toNat ∧ c.toNat < 224) (by decide +kernel) c
theorem is3 (c : UInt8) : UInt8.ofNat (c.toNat / 16) = 14 ↔ 224 ≤ c.toNat ∧ c.toNat < 240 := all256 (p := fun c => UInt8.ofNat (c.toNat / 16) = 14 ↔ 224 ≤ c.toNat ∧ c.toNat < 240) (by decide +kernel) c
theorem is4 (c : UInt8) : UInt8.ofNat (c.toNat / 8) = 30 ↔ 240 ≤ c.toNat ∧ c.toNat < 248 := all256 (p := fun c => UInt8.ofNat (c.toNat / 8) = 30 ↔ 240 ≤ c.toNat ∧ c.toNat < 248) (by decide +kernel) c
theorem isC (c : UInt8) : UInt8.ofNat (c.toNat / 64) = 2 ↔ 128 ≤ c.toNat ∧ c.toNat < 192 := all256 (p := fun c => UInt8.ofNat (c.toNat / 64) = 2 ↔ 128 ≤ c.toNat ∧ c.toNat < 192) (by decide +kernel) c
theorem and31 (c : UInt8) : (c &&& 31).toNat = c.toNat % 32 := all256 (p := fun c => (c &&& 31).toNat = c.toNat % 32) (by decide +kernel) c
theorem and15 (c : UInt8) : (c &&& 15).toNat = c.toNat % 16 := all256 (p := fun c => (c &&& 15).toNat = c.toNat % 16) (by decide +kernel) c
theorem and7 (c : UInt8) : (c &&& 7).toNat = c.toNat % 8 := all256 (p := fun c => (c &&& 7).toNat = c.toNat % 8) (by decide +kernel) c
theorem and63 (c : UInt8) : (c &&& 63).toNat = c.toNat % 64 := all256 (p := fun c => (c &&& 63).toNat = c.toNat % 64) (by decide +kernel) c
theorem wrap32 {n : Int} (h1 : -2147483648 ≤ n) (h2 : n < 2147483648) : IntKind.i32.wrap n = n := by
  unfold IntKind.wrap
  simp only [IntKind.signed, IntKind.bits]
  simp
  omega
theorem shl6 {ek : EK} {p : Nat} (h : p < 33554432) : binPV .shl ek (.int .i32 (p : Int)) (.int .u64 6) = some (.int .i32 ((64 * p : Nat) : Int)) := by
  simp only [binPV, shI]
  rw [if_neg (by omega)]
  have : (p : Int) * 2 ^ (min (6 : Int).toNat IntKind.i32.bits) = ((64 * p : Nat) : Int) := by
    have h6 : min (6 : Int).toNat IntKind.i32.bits = 6 := by decide
    rw [h6]; push_cast; omega
  simp only [this]
  rw [wrap32 (by omega) (by omega)]
theorem or_i32 {ek : EK} {p q : Nat} (h : p < 33554432) (hq : q < 64) : binPV .or ek (.int .i32 ((64 * p : Nat) : Int)) (.int .i32 (q : Int)) = some (.int .i32 ((64 * p + q : Nat) : Int)) := by
  simp only [binPV, binI, if_true]
  have h3 : (BitVec.ofInt IntKind.i32.bits ((64 * p : Nat) : Int) ||| BitVec.ofInt IntKind.i32.bits (q : Int)).toNat = 64 * p + q := by
    show (BitVec.ofInt 32 ((64 * p : Nat) : Int) ||| BitVec.ofInt 32 (q : Int)).toNat = _
    rw [BitVec.ofInt_natCast, BitVec.ofInt_natCast, BitVec.toNat_or, BitVec.toNat_ofNat, BitVec.toNat_ofNat, Nat.mod_eq_of_lt (by omega), Nat.mod_eq_of_lt (by omega)]
    have := Nat.two_pow_add_eq_or_of_lt (i := 6) (b := q) (by omega) p
    rw [show (2 : Nat) ^ 6 = 64 from rfl] at this
    exact this.symm
  rw [h3, wrap32 (by omega) (by omega)]

/-! ### The point that stands at the front -/
def lead (c : Nat) : Nat × Nat := if 192 ≤ c ∧ c < 224 then (c % 32, 2) else if 224 ≤ c ∧ c < 240 then (c % 16, 3) else if 240 ≤ c ∧ c < 248 then (c % 8, 4) else (0, 0)
def accP (l : List UInt8) (p : Nat) : Nat → Nat
  | 0 => p
  | k + 1 => 64 * accP l p k + (l.getD (k + 1) 0).toNat % 64
def contB (l : List UInt8) (k : Nat) : Prop := ∀ j, j < k → 128 ≤ (l.getD (j + 1) 0).toNat ∧ (l.getD (j + 1) 0).toNat < 192
instance {l : List UInt8} {k : Nat} : Decidable (contB l k) := by unfold contB; infer_instance
def pointN (q : Nat) : Prop := q < 55296 ∨ (57343 < q ∧ q ≤ 1114111)
instance {q : Nat} : Decidable (pointN q) := by unfold pointN; infer_instance
def lowN (n : Nat) : Nat := if n = 2 then 128 else if n = 3 then 2048 else 65536
def nextOf (l : List UInt8) : Option (Nat × Nat) :=
  if l = [] then none else if (l.getD 0 0).toNat < 128 then some ((l.getD 0 0).toNat, 1) else
    let r := lead (l.getD 0 0).toNat
    if r.2 = 0 ∨ l.length < r.2 ∨ ¬ contB l (r.2 - 1) ∨ ¬ pointN (accP l r.1 (r.2 - 1)) ∨ accP l r.1 (r.2 - 1) < lowN r.2 then none else some (accP l r.1 (r.2 - 1), r.2)
def nextV (l : List UInt8) : PV := match nextOf l with
  | some (p, n) => .tup [.int .i32 (p : Int), .int .i64 (n : Int), .int .i64 0]
  | none => .tup [.int .i32 0, .int .i64 0, .int .i64 (if l = [] then 42 else 20)]
theorem nextV_some {l : List UInt8} {p n : Nat} (h : nextOf l = some (p, n)) : nextV l = .tup [.int .i32 (p : Int), .int .i64 (n : Int), .int .i64 0] := by simp [nextV, h]
theorem nextV_none {l : List UInt8} (h : nextOf l = none) (hl : l ≠ []) : nextV l = .tup [.int .i32 0, .int .i64 0, .int .i64 20] := by simp [nextV, h, hl]

theorem isPoint_spec {p : Nat} : call prog (.fn 83 []) [.int .i32 (p : Int)] st = some (.bool (decide (pointN p)), st) := by
  refine call_of_W prog_83 ?_
  unfold F_utf_isPoint; dsimp only
  have e0 : (0 : Int) ≤ (p : Int) := by omega
  by_cases h1 : p ≤ 1114111
  · have e1 : (p : Int) ≤ 1114111 := by omega
    by_cases h2 : p < 55296
    · have e2 : (p : Int) < 55296 := by omega
      simp (maxSteps := 1000000) (disch := omega) only [e0, e1, e2, W_seq, W_region, W_cond, W_block, W_skip, W_label, W_exit, W_goto, W_ret, WO_cons, WO_consG, WO_nil, wantedA_eq, wantB, evOp, ev_tmp, ev_const, ev_fn, WN_some, WN_none, updO_some, updO_none, upd_eq,
 ↓reduceIte, Nat.reduceEqDiff, List.nil_append, List.cons_append, List.append_nil, List.map_cons, List.map_nil, env0_zero, env0_succ, env0_nil, Option.map_some, Option.map_none, seqQ_normal, seqQ_ret, seqQ_exit, seqQ_goto, blockQ_normal, blockQ_ret, blockQ_exit, blockQ_goto, condW_bool, loopQ_ret, loopQ_exit, loopQ_goto, endQ_ret, endQ_normal,
 lss_i, leq_i, gtr_i, geq_i, eql_i, neq_i, eql_8, neq_8, lss_8, leq_8, gtr_8, geq_8, eql_s, neq_s, eql_b, neq_b, not_b, by_bys, by_nils, load_cp1, beq_true, beq_false, Bool.not_eq_true', decide_eq_true_eq, decide_eq_false_iff_not, decide_true, decide_false,
 Int.toNat_natCast, Int.ofNat_lt, Int.ofNat_le, Int.natCast_inj, Bool.false_eq_true, Bool.true_eq_false, extPV, List.getElem?_cons_zero, List.getElem?_cons_succ, nilckPV, Int.reduceToNat, Int.reduceLE, true_and, and_true, reduceCtorEq, or_false, false_or, or_true, Option.some.injEq, exists_eq_left', Bool.not_true, Bool.not_false, ne_eq, Int.reduceEq, not_true_eq_false, not_false_eq_true, Int.reduceLT, UInt8.reduceLT, UInt8.reduceLE, UInt8.reduceToNat]
      rw [show decide (pointN p) = true by simp [pointN, h2]]
      exact end1 rfl Kp_bool
    · have e2 : ¬ (p : Int) < 55296 := by omega
      by_cases h3 : 57343 < p
      · have e3 : (57343 : Int) < (p : Int) := by omega
        simp (maxSteps := 1000000) (disch := omega) only [e0, e1, e2, e3, W_seq, W_region, W_cond, W_block, W_skip, W_label, W_exit, W_goto, W_ret, WO_cons, WO_consG, WO_nil, wantedA_eq, wantB, evOp, ev_tmp, ev_const, ev_fn, WN_some, WN_none, updO_some, updO_none, upd_eq,
 ↓reduceIte, Nat.reduceEqDiff, List.nil_append, List.cons_append, List.append_nil, List.map_cons, List.map_nil, env0_zero, env0_succ, env0_nil, Option.map_some, Option.map_none, seqQ_normal, seqQ_ret, seqQ_exit, seqQ_goto, blockQ_normal, blockQ_ret, blockQ_exit, blockQ_goto, condW_bool, loopQ_ret, loopQ_exit, loopQ_goto, endQ_ret, endQ_normal,
 lss_i, leq_i, gtr_i, geq_i, eql_i, neq_i, eql_8, neq_8, lss_8, leq_8, gtr_8, geq_8, eql_s, neq_s, eql_b, neq_b, not_b, by_bys, by_nils, load_cp1, beq_true, beq_false, Bool.not_eq_true', decide_eq_true_eq, decide_eq_false_iff_not, decide_true, decide_false,
 Int.toNat_natCast, Int.ofNat_lt, Int.ofNat_le, Int.natCast_inj, Bool.false_eq_true, Bool.true_eq_false, extPV, List.getElem?_cons_zero, List.getElem?_cons_succ, nilckPV, Int.reduceToNat, Int.reduceLE, true_and, and_true, reduceCtorEq, or_false, false_or, or_true, Option.some.injEq, exists_eq_left', Bool.not_true, Bool.not_false, ne_eq, Int.reduceEq, not_true_eq_false, not_false_eq_true, Int.reduceLT, UInt8.reduceLT, UInt8.reduceLE, UInt8.reduceToNat]
        rw [show decide (pointN p) = true by simp [pointN, h3, h1]]
        exact end1 rfl Kp_bool
      · have e3 : ¬ (57343 : Int) < (p : Int) := by omega
        simp (maxSteps := 1000000) (disch := omega) only [e0, e1, e2, e3, W_seq, W_region, W_cond, W_block, W_skip, W_label, W_exit, W_goto, W_ret, WO_cons, WO_consG, WO_nil, wantedA_eq, wantB, evOp, ev_tmp, ev_const, ev_fn, WN_some, WN_none, updO_some, updO_none, upd_eq,
 ↓reduceIte, Nat.reduceEqDiff, List.nil_append, List.cons_append, List.append_nil, List.map_cons, List.map_nil, env0_zero, env0_succ, env0_nil, Option.map_some, Option.map_none, seqQ_normal, seqQ_ret, seqQ_exit, seqQ_goto, blockQ_normal, blockQ_ret, blockQ_exit, blockQ_goto, condW_bool, loopQ_ret, loopQ_exit, loopQ_goto, endQ_ret, endQ_normal,
 lss_i, leq_i, gtr_i, geq_i, eql_i, neq_i, eql_8, neq_8, lss_8, leq_8, gtr_8, geq_8, eql_s, neq_s, eql_b, neq_b, not_b, by_bys, by_nils, load_cp1, beq_true, beq_false, Bool.not_eq_true', decide_eq_true_eq, decide_eq_false_iff_not, decide_true, decide_false,
 Int.toNat_natCast, Int.ofNat_lt, Int.ofNat_le, Int.natCast_inj, Bool.false_eq_true, Bool.true_eq_false, extPV, List.getElem?_cons_zero, List.getElem?_cons_succ, nilckPV, Int.reduceToNat, Int.reduceLE, true_and, and_true, reduceCtorEq, or_false, false_or, or_true, Option.some.injEq, exists_eq_left', Bool.not_true, Bool.not_false, ne_eq, Int.reduceEq, not_true_eq_false, not_false_eq_true, Int.reduceLT, UInt8.reduceLT, UInt8.reduceLE, UInt8.reduceToNat]
        rw [show decide (pointN p) = false from decide_eq_false (by unfold pointN; omega)]
        exact end1 rfl Kp_bool
  · have e1 : ¬ (p : Int) ≤ 1114111 := by omega
    simp (maxSteps := 1000000) (disch := omega) only [e0, e1, W_seq, W_region, W_cond, W_block, W_skip, W_label, W_exit, W_goto, W_ret, WO_cons, WO_consG, WO_nil, wantedA_eq, wantB, evOp, ev_tmp, ev_const, ev_fn, WN_some, WN_none, updO_some, updO_none, upd_eq,
 ↓reduceIte, Nat.reduceEqDiff, List.nil_append, List.cons_append, List.append_nil, List.map_cons, List.map_nil, env0_zero, env0_succ, env0_nil, Option.map_some, Option.map_none, seqQ_normal, seqQ_ret, seqQ_exit, seqQ_goto, blockQ_normal, blockQ_ret, blockQ_exit, blockQ_goto, condW_bool, loopQ_ret, loopQ_exit, loopQ_goto, endQ_ret, endQ_normal,
 lss_i, leq_i, gtr_i, geq_i, eql_i, neq_i, eql_8, neq_8, lss_8, leq_8, gtr_8, geq_8, eql_s, neq_s, eql_b, neq_b, not_b, by_bys, by_nils, load_cp1, beq_true, beq_false, Bool.not_eq_true', decide_eq_true_eq, decide_eq_false_iff_not, decide_true, decide_false,
 Int.toNat_natCast, Int.ofNat_lt, Int.ofNat_le, Int.natCast_inj, Bool.false_eq_true, Bool.true_eq_false, extPV, List.getElem?_cons_zero, List.getElem?_cons_succ, nilckPV, Int.reduceToNat, Int.reduceLE, true_and, and_true, reduceCtorEq, or_false, false_or, or_true, Option.some.injEq, exists_eq_left', Bool.not_true, Bool.not_false, ne_eq, Int.reduceEq, not_true_eq_false, not_false_eq_true, Int.reduceLT, UInt8.reduceLT, UInt8.reduceLE, UInt8.reduceToNat]
    rw [show decide (pointN p) = false from decide_eq_false (by unfold pointN; omega)]
    exact end1 rfl Kp_bool

theorem accP_lt {l : List UInt8} {p : Nat} : ∀ k, accP l p k < (p + 1) * 64 ^ k := by
  intro k
  induction k with
  | zero => simp [accP]
  | succ k ih =>
    simp only [accP, Nat.pow_succ]
    have := Nat.mod_lt (l.getD (k + 1) 0).toNat (show 64 > 0 by omega)
    rw [← Nat.mul_assoc]
    generalize (p + 1) * 64 ^ k = z at *
    omega
theorem lead_cases (c : Nat) : lead c = (0, 0) ∨ (lead c = (c % 32, 2)) ∨ (lead c = (c % 16, 3)) ∨ (lead c = (c % 8, 4)) := by
  unfold lead
  split
  · exact .inr (.inl rfl)
  · split
    · exact .inr (.inr (.inl rfl))
    · split
      · exact .inr (.inr (.inr rfl))
      · exact .inl rfl
end Go.Ab

/-
  The point at a text's front: the program's function.
-/
namespace Go.Ab
set_option linter.unusedVariables false
set_option linter.unusedSimpArgs false
variable {A : AP} {st s : St} {e : Env}

/-- What is asked within a scope that has one label. -/
def scopeQ (A : AP) (b rest : ACode) (Q : Ex → Env → St → Prop) : Ex → Env → St → Prop
  | .goto l, e, s => if l = 0 then W A (.scopeAt b rest) e s Q else False
  | x, e, s => Q x e s
theorem W_scope1 {b rest : ACode} {Q : Ex → Env → St → Prop} (hl : findLabelA b 0 = some rest) (h : W A b e st (scopeQ A b rest Q)) : W A (.scope b) e st Q := by
  rw [W_scope]
  refine W_scopeAt (W_mono h ?_)
  intro x e s hq
  cases x with
  | goto l =>
    simp only [scopeQ] at hq
    split at hq
    · rename_i h0; subst h0
      simp only [hl]; exact hq
    · cases hq
  | normal => exact hq
  | ret => exact hq
  | exit i => exact hq

theorem mid_getD {l : List UInt8} {n k : Nat} (h : k + 1 < n) : ((l.take n).drop 1).getD k 0 = l.getD (k + 1) 0 := by
  simp only [List.getD, List.getElem?_drop, List.getElem?_take]
  rw [if_pos (by omega), Nat.add_comm]

set_option maxHeartbeats 1000000 in
theorem uNext_spec {x : PV} {l : List UInt8} (hx : x.by = some l) (hl : l.length ≤ 100000000) : call prog (.fn 77 []) [x] st = some (nextV l, st) := by
  refine call_of_W prog_77 ?_
  unfold F_utf_Next; dsimp only
  refine W_cut (fun E S => Kept st S ∧ E 0 = x) ?_ ?_
  · simp (maxSteps := 1000000) (disch := omega) only [W_seq, W_region, W_cond, W_block, W_skip, W_label, W_exit, W_goto, W_ret, WO_cons, WO_consG, WO_nil, wantedA_eq, wantB, evOp, ev_tmp, ev_const, ev_fn, WN_some, WN_none, updO_some, updO_none, upd_eq,
 ↓reduceIte, Nat.reduceEqDiff, List.nil_append, List.cons_append, List.append_nil, List.map_cons, List.map_nil, env0_zero, env0_succ, env0_nil, Option.map_some, Option.map_none, seqQ_normal, seqQ_ret, seqQ_exit, seqQ_goto, blockQ_normal, blockQ_ret, blockQ_exit, blockQ_goto, condW_bool, loopQ_ret, loopQ_exit, loopQ_goto, endQ_ret, endQ_normal,
 lss_i, leq_i, gtr_i, geq_i, eql_i, neq_i, eql_8, neq_8, lss_8, leq_8, gtr_8, geq_8, eql_s, neq_s, eql_b, neq_b, not_b, by_bys, by_nils, load_cp1, beq_true, beq_false, Bool.not_eq_true', decide_eq_true_eq, decide_eq_false_iff_not, decide_true, decide_false,
 Int.toNat_natCast, Int.ofNat_lt, Int.ofNat_le, Int.natCast_inj, Bool.false_eq_true, Bool.true_eq_false, extPV, List.getElem?_cons_zero, List.getElem?_cons_succ, nilckPV, Int.reduceToNat, Int.reduceLE, true_and, and_true, reduceCtorEq, or_false, false_or, or_true, Option.some.injEq, exists_eq_left', Bool.not_true, Bool.not_false, ne_eq, Int.reduceEq, not_true_eq_false, not_false_eq_true, Int.reduceLT, UInt8.reduceLT, UInt8.reduceLE, UInt8.reduceToNat]
    exact Kept.start
  rintro e S ⟨hk, h0⟩
  refine W_scope1 rfl ?_
  generalize hR : scopeQ prog _ _ _ = R
  have fin : ∀ (E : Env) (S : St) (p n c : Int), Kept st S → nextV l = .tup [.int .i32 p, .int .i64 n, .int .i64 c] → E 2 = .int .i32 p → E 3 = .int .i64 n → E 4 = .int .i64 c → R .ret E S := by
    intro E S p n c k1 hv k2 k3 k4
    rw [← hR]
    show endQ _ _ _ .ret E S
    rw [endQ_ret]
    exact ⟨.tup [.int .i32 p, .int .i64 n, .int .i64 c], by simp [resOf, rvAll, rv1, k2, k3, k4, notTup, packRes], by rw [hv]; exact k1.leave rfl (fun _ _ => rfl)⟩
  have wrong : ∀ (E : Env) (S : St), Kept st S → nextOf l = none → l ≠ [] → R (.goto 0) E S := by
    intro E S k1 hv hne
    rw [← hR]
    simp only [scopeQ, if_true]
    refine W_scopeAt ?_
    simp (maxSteps := 1000000) (disch := omega) only [W_seq, W_region, W_cond, W_block, W_skip, W_label, W_exit, W_goto, W_ret, WO_cons, WO_consG, WO_nil, wantedA_eq, wantB, evOp, ev_tmp, ev_const, ev_fn, WN_some, WN_none, updO_some, updO_none, upd_eq,
 ↓reduceIte, Nat.reduceEqDiff, List.nil_append, List.cons_append, List.append_nil, List.map_cons, List.map_nil, env0_zero, env0_succ, env0_nil, Option.map_some, Option.map_none, seqQ_normal, seqQ_ret, seqQ_exit, seqQ_goto, blockQ_normal, blockQ_ret, blockQ_exit, blockQ_goto, condW_bool, loopQ_ret, loopQ_exit, loopQ_goto, endQ_ret, endQ_normal,
 lss_i, leq_i, gtr_i, geq_i, eql_i, neq_i, eql_8, neq_8, lss_8, leq_8, gtr_8, geq_8, eql_s, neq_s, eql_b, neq_b, not_b, by_bys, by_nils, load_cp1, beq_true, beq_false, Bool.not_eq_true', decide_eq_true_eq, decide_eq_false_iff_not, decide_true, decide_false,
 Int.toNat_natCast, Int.ofNat_lt, Int.ofNat_le, Int.natCast_inj, Bool.false_eq_true, Bool.true_eq_false, extPV, List.getElem?_cons_zero, List.getElem?_cons_succ, nilckPV, Int.reduceToNat, Int.reduceLE, true_and, and_true, reduceCtorEq, or_false, false_or, or_true, Option.some.injEq, exists_eq_left', Bool.not_true, Bool.not_false, ne_eq, Int.reduceEq, not_true_eq_false, not_false_eq_true, Int.reduceLT, UInt8.reduceLT, UInt8.reduceLE, UInt8.reduceToNat]
    exact ⟨.tup [.int .i32 0, .int .i64 0, .int .i64 20], rfl, by rw [nextV_none hv hne]; exact k1.leave rfl (fun _ _ => rfl)⟩
  clear hR
  by_cases hne : l = []
  · have e1 : decide ((l.length : Int) = 0) = true := by simp [hne]
    simp (maxSteps := 1000000) (disch := omega) only [h0, len_by hx, e1, W_seq, W_region, W_cond, W_block, W_skip, W_label, W_exit, W_goto, W_ret, WO_cons, WO_consG, WO_nil, wantedA_eq, wantB, evOp, ev_tmp, ev_const, ev_fn, WN_some, WN_none, updO_some, updO_none, upd_eq,
 ↓reduceIte, Nat.reduceEqDiff, List.nil_append, List.cons_append, List.append_nil, List.map_cons, List.map_nil, env0_zero, env0_succ, env0_nil, Option.map_some, Option.map_none, seqQ_normal, seqQ_ret, seqQ_exit, seqQ_goto, blockQ_normal, blockQ_ret, blockQ_exit, blockQ_goto, condW_bool, loopQ_ret, loopQ_exit, loopQ_goto, endQ_ret, endQ_normal,
 lss_i, leq_i, gtr_i, geq_i, eql_i, neq_i, eql_8, neq_8, lss_8, leq_8, gtr_8, geq_8, eql_s, neq_s, eql_b, neq_b, not_b, by_bys, by_nils, load_cp1, beq_true, beq_false, Bool.not_eq_true', decide_eq_true_eq, decide_eq_false_iff_not, decide_true, decide_false,
 Int.toNat_natCast, Int.ofNat_lt, Int.ofNat_le, Int.natCast_inj, Bool.false_eq_true, Bool.true_eq_false, extPV, List.getElem?_cons_zero, List.getElem?_cons_succ, nilckPV, Int.reduceToNat, Int.reduceLE, true_and, and_true, reduceCtorEq, or_false, false_or, or_true, Option.some.injEq, exists_eq_left', Bool.not_true, Bool.not_false, ne_eq, Int.reduceEq, not_true_eq_false, not_false_eq_true, Int.reduceLT, UInt8.reduceLT, UInt8.reduceLE, UInt8.reduceToNat]
    exact fin _ _ 0 0 42 hk (by simp [nextV, nextOf, hne]) rfl rfl rfl
  have hlen : 0 < l.length := List.length_pos_iff.2 hne
  have e1 : ¬ ((l.length : Int) = 0) := by omega
  obtain ⟨c, hc⟩ : ∃ c, c = l.getD 0 0 := ⟨_, rfl⟩
  have hi0 : iaddrPV 1 x (.int .i64 0) = some (.cp [.b8 c]) := by rw [hc]; exact iaddr_by hx (by omega) (by simpa using hlen)
  by_cases h128 : c < 128
  · have h128' : c.toNat < 128 := by rw [UInt8.lt_iff_toNat_lt] at h128; simpa using h128
    simp (maxSteps := 1000000) (disch := omega) only [h0, len_by hx, e1, hi0, load_cp1, h128, cI32, W_seq, W_region, W_cond, W_block, W_skip, W_label, W_exit, W_goto, W_ret, WO_cons, WO_consG, WO_nil, wantedA_eq, wantB, evOp, ev_tmp, ev_const, ev_fn, WN_some, WN_none, updO_some, updO_none, upd_eq,
 ↓reduceIte, Nat.reduceEqDiff, List.nil_append, List.cons_append, List.append_nil, List.map_cons, List.map_nil, env0_zero, env0_succ, env0_nil, Option.map_some, Option.map_none, seqQ_normal, seqQ_ret, seqQ_exit, seqQ_goto, blockQ_normal, blockQ_ret, blockQ_exit, blockQ_goto, condW_bool, loopQ_ret, loopQ_exit, loopQ_goto, endQ_ret, endQ_normal,
 lss_i, leq_i, gtr_i, geq_i, eql_i, neq_i, eql_8, neq_8, lss_8, leq_8, gtr_8, geq_8, eql_s, neq_s, eql_b, neq_b, not_b, by_bys, by_nils, load_cp1, beq_true, beq_false, Bool.not_eq_true', decide_eq_true_eq, decide_eq_false_iff_not, decide_true, decide_false,
 Int.toNat_natCast, Int.ofNat_lt, Int.ofNat_le, Int.natCast_inj, Bool.false_eq_true, Bool.true_eq_false, extPV, List.getElem?_cons_zero, List.getElem?_cons_succ, nilckPV, Int.reduceToNat, Int.reduceLE, true_and, and_true, reduceCtorEq, or_false, false_or, or_true, Option.some.injEq, exists_eq_left', Bool.not_true, Bool.not_false, ne_eq, Int.reduceEq, not_true_eq_false, not_false_eq_true, Int.reduceLT, UInt8.reduceLT, UInt8.reduceLE, UInt8.reduceToNat]
    exact fin _ _ (c.toNat : Int) 1 0 hk (nextV_some (p := c.toNat) (n := 1) (by unfold nextOf; rw [if_neg hne, ← hc, if_pos h128'])) rfl rfl rfl
  have h128' : ¬ c.toNat < 128 := by rw [UInt8.lt_iff_toNat_lt] at h128; simpa using h128
  obtain ⟨p, n, hpn⟩ : ∃ p n, lead c.toNat = (p, n) := ⟨_, _, rfl⟩
  have hnx : nextOf l = if n = 0 ∨ l.length < n ∨ ¬ contB l (n - 1) ∨ ¬ pointN (accP l p (n - 1)) ∨ accP l p (n - 1) < lowN n then none else some (accP l p (n - 1), n) := by
    unfold nextOf
    rw [if_neg hne, ← hc, if_neg h128', hpn]
  refine W_cut (fun E S => Kept st S ∧ E 0 = x ∧ E 5 = .int .i32 0) ?_ ?_
  · simp (maxSteps := 1000000) (disch := omega) only [h0, W_seq, W_region, W_cond, W_block, W_skip, W_label, W_exit, W_goto, W_ret, WO_cons, WO_consG, WO_nil, wantedA_eq, wantB, evOp, ev_tmp, ev_const, ev_fn, WN_some, WN_none, updO_some, updO_none, upd_eq,
 ↓reduceIte, Nat.reduceEqDiff, List.nil_append, List.cons_append, List.append_nil, List.map_cons, List.map_nil, env0_zero, env0_succ, env0_nil, Option.map_some, Option.map_none, seqQ_normal, seqQ_ret, seqQ_exit, seqQ_goto, blockQ_normal, blockQ_ret, blockQ_exit, blockQ_goto, condW_bool, loopQ_ret, loopQ_exit, loopQ_goto, endQ_ret, endQ_normal,
 lss_i, leq_i, gtr_i, geq_i, eql_i, neq_i, eql_8, neq_8, lss_8, leq_8, gtr_8, geq_8, eql_s, neq_s, eql_b, neq_b, not_b, by_bys, by_nils, load_cp1, beq_true, beq_false, Bool.not_eq_true', decide_eq_true_eq, decide_eq_false_iff_not, decide_true, decide_false,
 Int.toNat_natCast, Int.ofNat_lt, Int.ofNat_le, Int.natCast_inj, Bool.false_eq_true, Bool.true_eq_false, extPV, List.getElem?_cons_zero, List.getElem?_cons_succ, nilckPV, Int.reduceToNat, Int.reduceLE, true_and, and_true, reduceCtorEq, or_false, false_or, or_true, Option.some.injEq, exists_eq_left', Bool.not_true, Bool.not_false, ne_eq, Int.reduceEq, not_true_eq_false, not_false_eq_true, Int.reduceLT, UInt8.reduceLT, UInt8.reduceLE, UInt8.reduceToNat]
    exact hk
  clear hk h0
  rintro e S ⟨hk, h0, h5⟩
  refine W_cut (fun E S => Kept st S ∧ E 0 = x ∧ E 5 = .int .i32 0 ∧ E 6 = .int .i64 0) ?_ ?_
  · simp (maxSteps := 1000000) (disch := omega) only [h0, h5, W_seq, W_region, W_cond, W_block, W_skip, W_label, W_exit, W_goto, W_ret, WO_cons, WO_consG, WO_nil, wantedA_eq, wantB, evOp, ev_tmp, ev_const, ev_fn, WN_some, WN_none, updO_some, updO_none, upd_eq,
 ↓reduceIte, Nat.reduceEqDiff, List.nil_append, List.cons_append, List.append_nil, List.map_cons, List.map_nil, env0_zero, env0_succ, env0_nil, Option.map_some, Option.map_none, seqQ_normal, seqQ_ret, seqQ_exit, seqQ_goto, blockQ_normal, blockQ_ret, blockQ_exit, blockQ_goto, condW_bool, loopQ_ret, loopQ_exit, loopQ_goto, endQ_ret, endQ_normal,
 lss_i, leq_i, gtr_i, geq_i, eql_i, neq_i, eql_8, neq_8, lss_8, leq_8, gtr_8, geq_8, eql_s, neq_s, eql_b, neq_b, not_b, by_bys, by_nils, load_cp1, beq_true, beq_false, Bool.not_eq_true', decide_eq_true_eq, decide_eq_false_iff_not, decide_true, decide_false,
 Int.toNat_natCast, Int.ofNat_lt, Int.ofNat_le, Int.natCast_inj, Bool.false_eq_true, Bool.true_eq_false, extPV, List.getElem?_cons_zero, List.getElem?_cons_succ, nilckPV, Int.reduceToNat, Int.reduceLE, true_and, and_true, reduceCtorEq, or_false, false_or, or_true, Option.some.injEq, exists_eq_left', Bool.not_true, Bool.not_false, ne_eq, Int.reduceEq, not_true_eq_false, not_false_eq_true, Int.reduceLT, UInt8.reduceLT, UInt8.reduceLE, UInt8.reduceToNat]
    exact hk
  clear hk h0 h5
  rintro e S ⟨hk, h0, h5, h6⟩
  refine W_cut (fun E S => Kept st S ∧ E 0 = x ∧ E 5 = .int .i32 0 ∧ E 6 = .int .i64 0) ?_ ?_
  · simp (maxSteps := 1000000) (disch := omega) only [h0, h5, h6, len_by hx, e1, W_seq, W_region, W_cond, W_block, W_skip, W_label, W_exit, W_goto, W_ret, WO_cons, WO_consG, WO_nil, wantedA_eq, wantB, evOp, ev_tmp, ev_const, ev_fn, WN_some, WN_none, updO_some, updO_none, upd_eq,
 ↓reduceIte, Nat.reduceEqDiff, List.nil_append, List.cons_append, List.append_nil, List.map_cons, List.map_nil, env0_zero, env0_succ, env0_nil, Option.map_some, Option.map_none, seqQ_normal, seqQ_ret, seqQ_exit, seqQ_goto, blockQ_normal, blockQ_ret, blockQ_exit, blockQ_goto, condW_bool, loopQ_ret, loopQ_exit, loopQ_goto, endQ_ret, endQ_normal,
 lss_i, leq_i, gtr_i, geq_i, eql_i, neq_i, eql_8, neq_8, lss_8, leq_8, gtr_8, geq_8, eql_s, neq_s, eql_b, neq_b, not_b, by_bys, by_nils, load_cp1, beq_true, beq_false, Bool.not_eq_true', decide_eq_true_eq, decide_eq_false_iff_not, decide_true, decide_false,
 Int.toNat_natCast, Int.ofNat_lt, Int.ofNat_le, Int.natCast_inj, Bool.false_eq_true, Bool.true_eq_false, extPV, List.getElem?_cons_zero, List.getElem?_cons_succ, nilckPV, Int.reduceToNat, Int.reduceLE, true_and, and_true, reduceCtorEq, or_false, false_or, or_true, Option.some.injEq, exists_eq_left', Bool.not_true, Bool.not_false, ne_eq, Int.reduceEq, not_true_eq_false, not_false_eq_true, Int.reduceLT, UInt8.reduceLT, UInt8.reduceLE, UInt8.reduceToNat]
    exact hk
  clear hk h0 h5 h6
  rintro e S ⟨hk, h0, h5, h6⟩
  refine W_cut (fun E S => Kept st S ∧ E 0 = x ∧ E 5 = .int .i32 (p : Int) ∧ E 6 = .int .i64 (n : Int)) ?_ ?_
  · by_cases q2 : UInt8.ofNat (c.toNat / 32) = 6
    · have := (is2 c).1 q2
      obtain ⟨rfl, rfl⟩ : p = c.toNat % 32 ∧ n = 2 := by
        unfold lead at hpn; rw [if_pos this] at hpn; cases hpn; exact ⟨rfl, rfl⟩
      simp (maxSteps := 1000000) (disch := omega) only [h0, h5, h6, hi0, load_cp1, h128, shr5, eq_true q2, and_8, cI32, and31, W_seq, W_region, W_cond, W_block, W_skip, W_label, W_exit, W_goto, W_ret, WO_cons, WO_consG, WO_nil, wantedA_eq, wantB, evOp, ev_tmp, ev_const, ev_fn, WN_some, WN_none, updO_some, updO_none, upd_eq,
 ↓reduceIte, Nat.reduceEqDiff, List.nil_append, List.cons_append, List.append_nil, List.map_cons, List.map_nil, env0_zero, env0_succ, env0_nil, Option.map_some, Option.map_none, seqQ_normal, seqQ_ret, seqQ_exit, seqQ_goto, blockQ_normal, blockQ_ret, blockQ_exit, blockQ_goto, condW_bool, loopQ_ret, loopQ_exit, loopQ_goto, endQ_ret, endQ_normal,
 lss_i, leq_i, gtr_i, geq_i, eql_i, neq_i, eql_8, neq_8, lss_8, leq_8, gtr_8, geq_8, eql_s, neq_s, eql_b, neq_b, not_b, by_bys, by_nils, load_cp1, beq_true, beq_false, Bool.not_eq_true', decide_eq_true_eq, decide_eq_false_iff_not, decide_true, decide_false,
 Int.toNat_natCast, Int.ofNat_lt, Int.ofNat_le, Int.natCast_inj, Bool.false_eq_true, Bool.true_eq_false, extPV, List.getElem?_cons_zero, List.getElem?_cons_succ, nilckPV, Int.reduceToNat, Int.reduceLE, true_and, and_true, reduceCtorEq, or_false, false_or, or_true, Option.some.injEq, exists_eq_left', Bool.not_true, Bool.not_false, ne_eq, Int.reduceEq, not_true_eq_false, not_false_eq_true, Int.reduceLT, UInt8.reduceLT, UInt8.reduceLE, UInt8.reduceToNat]
      exact ⟨hk, rfl⟩
    have n2 : ¬ (192 ≤ c.toNat ∧ c.toNat < 224) := fun h => q2 ((is2 c).2 h)
    by_cases q3 : UInt8.ofNat (c.toNat / 16) = 14
    · have := (is3 c).1 q3
      obtain ⟨rfl, rfl⟩ : p = c.toNat % 16 ∧ n = 3 := by
        unfold lead at hpn; rw [if_neg n2, if_pos this] at hpn; cases hpn; exact ⟨rfl, rfl⟩
      simp (maxSteps := 1000000) (disch := omega) only [h0, h5, h6, hi0, load_cp1, h128, shr5, shr4, q2, eq_true q3, and_8, cI32, and15, W_seq, W_region, W_cond, W_block, W_skip, W_label, W_exit, W_goto, W_ret, WO_cons, WO_consG, WO_nil, wantedA_eq, wantB, evOp, ev_tmp, ev_const, ev_fn, WN_some, WN_none, updO_some, updO_none, upd_eq,
 ↓reduceIte, Nat.reduceEqDiff, List.nil_append, List.cons_append, List.append_nil, List.map_cons, List.map_nil, env0_zero, env0_succ, env0_nil, Option.map_some, Option.map_none, seqQ_normal, seqQ_ret, seqQ_exit, seqQ_goto, blockQ_normal, blockQ_ret, blockQ_exit, blockQ_goto, condW_bool, loopQ_ret, loopQ_exit, loopQ_goto, endQ_ret, endQ_normal,
 lss_i, leq_i, gtr_i, geq_i, eql_i, neq_i, eql_8, neq_8, lss_8, leq_8, gtr_8, geq_8, eql_s, neq_s, eql_b, neq_b, not_b, by_bys, by_nils, load_cp1, beq_true, beq_false, Bool.not_eq_true', decide_eq_true_eq, decide_eq_false_iff_not, decide_true, decide_false,
 Int.toNat_natCast, Int.ofNat_lt, Int.ofNat_le, Int.natCast_inj, Bool.false_eq_true, Bool.true_eq_false, extPV, List.getElem?_cons_zero, List.getElem?_cons_succ, nilckPV, Int.reduceToNat, Int.reduceLE, true_and, and_true, reduceCtorEq, or_false, false_or, or_true, Option.some.injEq, exists_eq_left', Bool.not_true, Bool.not_false, ne_eq, Int.reduceEq, not_true_eq_false, not_false_eq_true, Int.reduceLT, UInt8.reduceLT, UInt8.reduceLE, UInt8.reduceToNat]
      exact ⟨hk, rfl⟩
    have n3 : ¬ (224 ≤ c.toNat ∧ c.toNat < 240) := fun h => q3 ((is3 c).2 h)
    by_cases q4 : UInt8.ofNat (c.toNat / 8) = 30
    · have := (is4 c).1 q4
      obtain ⟨rfl, rfl⟩ : p = c.toNat % 8 ∧ n = 4 := by
        unfold lead at hpn; rw [if_neg n2, if_neg n3, if_pos this] at hpn; cases hpn; exact ⟨rfl, rfl⟩
      simp (maxSteps := 1000000) (disch := omega) only [h0, h5, h6, hi0, load_cp1, h128, shr5, shr4, shr3, q2, q3, eq_true q4, and_8, cI32, and7, W_seq, W_region, W_cond, W_block, W_skip, W_label, W_exit, W_goto, W_ret, WO_cons, WO_consG, WO_nil, wantedA_eq, wantB, evOp, ev_tmp, ev_const, ev_fn, WN_some, WN_none, updO_some, updO_none, upd_eq,
 ↓reduceIte, Nat.reduceEqDiff, List.nil_append, List.cons_append, List.append_nil, List.map_cons, List.map_nil, env0_zero, env0_succ, env0_nil, Option.map_some, Option.map_none, seqQ_normal, seqQ_ret, seqQ_exit, seqQ_goto, blockQ_normal, blockQ_ret, blockQ_exit, blockQ_goto, condW_bool, loopQ_ret, loopQ_exit, loopQ_goto, endQ_ret, endQ_normal,
 lss_i, leq_i, gtr_i, geq_i, eql_i, neq_i, eql_8, neq_8, lss_8, leq_8, gtr_8, geq_8, eql_s, neq_s, eql_b, neq_b, not_b, by_bys, by_nils, load_cp1, beq_true, beq_false, Bool.not_eq_true', decide_eq_true_eq, decide_eq_false_iff_not, decide_true, decide_false,
 Int.toNat_natCast, Int.ofNat_lt, Int.ofNat_le, Int.natCast_inj, Bool.false_eq_true, Bool.true_eq_false, extPV, List.getElem?_cons_zero, List.getElem?_cons_succ, nilckPV, Int.reduceToNat, Int.reduceLE, true_and, and_true, reduceCtorEq, or_false, false_or, or_true, Option.some.injEq, exists_eq_left', Bool.not_true, Bool.not_false, ne_eq, Int.reduceEq, not_true_eq_false, not_false_eq_true, Int.reduceLT, UInt8.reduceLT, UInt8.reduceLE, UInt8.reduceToNat]
      exact ⟨hk, rfl⟩
    have n4 : ¬ (240 ≤ c.toNat ∧ c.toNat < 248) := fun h => q4 ((is4 c).2 h)
    obtain ⟨rfl, rfl⟩ : p = 0 ∧ n = 0 := by
      unfold lead at hpn; rw [if_neg n2, if_neg n3, if_neg n4] at hpn; cases hpn; exact ⟨rfl, rfl⟩
    simp (maxSteps := 1000000) (disch := omega) only [h0, h5, h6, hi0, load_cp1, h128, shr5, shr4, shr3, q2, q3, q4, W_seq, W_region, W_cond, W_block, W_skip, W_label, W_exit, W_goto, W_ret, WO_cons, WO_consG, WO_nil, wantedA_eq, wantB, evOp, ev_tmp, ev_const, ev_fn, WN_some, WN_none, updO_some, updO_none, upd_eq,
 ↓reduceIte, Nat.reduceEqDiff, List.nil_append, List.cons_append, List.append_nil, List.map_cons, List.map_nil, env0_zero, env0_succ, env0_nil, Option.map_some, Option.map_none, seqQ_normal, seqQ_ret, seqQ_exit, seqQ_goto, blockQ_normal, blockQ_ret, blockQ_exit, blockQ_goto, condW_bool, loopQ_ret, loopQ_exit, loopQ_goto, endQ_ret, endQ_normal,
 lss_i, leq_i, gtr_i, geq_i, eql_i, neq_i, eql_8, neq_8, lss_8, leq_8, gtr_8, geq_8, eql_s, neq_s, eql_b, neq_b, not_b, by_bys, by_nils, load_cp1, beq_true, beq_false, Bool.not_eq_true', decide_eq_true_eq, decide_eq_false_iff_not, decide_true, decide_false,
 Int.toNat_natCast, Int.ofNat_lt, Int.ofNat_le, Int.natCast_inj, Bool.false_eq_true, Bool.true_eq_false, extPV, List.getElem?_cons_zero, List.getElem?_cons_succ, nilckPV, Int.reduceToNat, Int.reduceLE, true_and, and_true, reduceCtorEq, or_false, false_or, or_true, Option.some.injEq, exists_eq_left', Bool.not_true, Bool.not_false, ne_eq, Int.reduceEq, not_true_eq_false, not_false_eq_true, Int.reduceLT, UInt8.reduceLT, UInt8.reduceLE, UInt8.reduceToNat]
    exact ⟨hk, rfl, rfl⟩
  clear hk h0 h5 h6
  rintro e S ⟨hk, h0, h5, h6⟩
  by_cases hn0 : n = 0
  · have e2 : decide ((n : Int) = 0) = true := by simp [hn0]
    simp (maxSteps := 1000000) (disch := omega) only [h0, h5, h6, len_by hx, e2, W_seq, W_region, W_cond, W_block, W_skip, W_label, W_exit, W_goto, W_ret, WO_cons, WO_consG, WO_nil, wantedA_eq, wantB, evOp, ev_tmp, ev_const, ev_fn, WN_some, WN_none, updO_some, updO_none, upd_eq,
 ↓reduceIte, Nat.reduceEqDiff, List.nil_append, List.cons_append, List.append_nil, List.map_cons, List.map_nil, env0_zero, env0_succ, env0_nil, Option.map_some, Option.map_none, seqQ_normal, seqQ_ret, seqQ_exit, seqQ_goto, blockQ_normal, blockQ_ret, blockQ_exit, blockQ_goto, condW_bool, loopQ_ret, loopQ_exit, loopQ_goto, endQ_ret, endQ_normal,
 lss_i, leq_i, gtr_i, geq_i, eql_i, neq_i, eql_8, neq_8, lss_8, leq_8, gtr_8, geq_8, eql_s, neq_s, eql_b, neq_b, not_b, by_bys, by_nils, load_cp1, beq_true, beq_false, Bool.not_eq_true', decide_eq_true_eq, decide_eq_false_iff_not, decide_true, decide_false,
 Int.toNat_natCast, Int.ofNat_lt, Int.ofNat_le, Int.natCast_inj, Bool.false_eq_true, Bool.true_eq_false, extPV, List.getElem?_cons_zero, List.getElem?_cons_succ, nilckPV, Int.reduceToNat, Int.reduceLE, true_and, and_true, reduceCtorEq, or_false, false_or, or_true, Option.some.injEq, exists_eq_left', Bool.not_true, Bool.not_false, ne_eq, Int.reduceEq, not_true_eq_false, not_false_eq_true, Int.reduceLT, UInt8.reduceLT, UInt8.reduceLE, UInt8.reduceToNat]
    exact wrong _ _ hk (by rw [hnx, if_pos (.inl hn0)]) hne
  have e2 : ¬ (n : Int) = 0 := by omega
  by_cases hln : l.length < n
  · have e3 : (l.length : Int) < (n : Int) := by omega
    simp (maxSteps := 1000000) (disch := omega) only [h0, h5, h6, len_by hx, e2, e3, W_seq, W_region, W_cond, W_block, W_skip, W_label, W_exit, W_goto, W_ret, WO_cons, WO_consG, WO_nil, wantedA_eq, wantB, evOp, ev_tmp, ev_const, ev_fn, WN_some, WN_none, updO_some, updO_none, upd_eq,
 ↓reduceIte, Nat.reduceEqDiff, List.nil_append, List.cons_append, List.append_nil, List.map_cons, List.map_nil, env0_zero, env0_succ, env0_nil, Option.map_some, Option.map_none, seqQ_normal, seqQ_ret, seqQ_exit, seqQ_goto, blockQ_normal, blockQ_ret, blockQ_exit, blockQ_goto, condW_bool, loopQ_ret, loopQ_exit, loopQ_goto, endQ_ret, endQ_normal,
 lss_i, leq_i, gtr_i, geq_i, eql_i, neq_i, eql_8, neq_8, lss_8, leq_8, gtr_8, geq_8, eql_s, neq_s, eql_b, neq_b, not_b, by_bys, by_nils, load_cp1, beq_true, beq_false, Bool.not_eq_true', decide_eq_true_eq, decide_eq_false_iff_not, decide_true, decide_false,
 Int.toNat_natCast, Int.ofNat_lt, Int.ofNat_le, Int.natCast_inj, Bool.false_eq_true, Bool.true_eq_false, extPV, List.getElem?_cons_zero, List.getElem?_cons_succ, nilckPV, Int.reduceToNat, Int.reduceLE, true_and, and_true, reduceCtorEq, or_false, false_or, or_true, Option.some.injEq, exists_eq_left', Bool.not_true, Bool.not_false, ne_eq, Int.reduceEq, not_true_eq_false, not_false_eq_true, Int.reduceLT, UInt8.reduceLT, UInt8.reduceLE, UInt8.reduceToNat]
    exact wrong _ _ hk (by rw [hnx, if_pos (.inr (.inl hln))]) hne
  have e3 : ¬ (l.length : Int) < (n : Int) := by omega
  have hn24 : (n = 2 ∧ p < 32) ∨ (n = 3 ∧ p < 16) ∨ (n = 4 ∧ p < 8) := by
    rcases lead_cases c.toNat with h | h | h | h
    · rw [hpn] at h; cases h; exact absurd rfl hn0
    · rw [hpn] at h; cases h; exact .inl ⟨rfl, by omega⟩
    · rw [hpn] at h; cases h; exact .inr (.inl ⟨rfl, by omega⟩)
    · rw [hpn] at h; cases h; exact .inr (.inr ⟨rfl, by omega⟩)
  have hacc : ∀ k, k ≤ 3 → accP l p k < 33554432 := by
    intro k hk
    have := accP_lt (l := l) (p := p) k
    have h64 : (p + 1) * 64 ^ k ≤ 32 * 64 ^ 3 := Nat.mul_le_mul (by omega) (Nat.pow_le_pow_right (by omega) hk)
    have : 32 * 64 ^ 3 = 8388608 := by decide
    omega
  refine W_cut (fun E S => Kept st S ∧ E 0 = x ∧ E 5 = .int .i32 (p : Int) ∧ E 6 = .int .i64 (n : Int)) ?_ ?_
  · simp (maxSteps := 1000000) (disch := omega) only [h0, h5, h6, len_by hx, e2, e3, W_seq, W_region, W_cond, W_block, W_skip, W_label, W_exit, W_goto, W_ret, WO_cons, WO_consG, WO_nil, wantedA_eq, wantB, evOp, ev_tmp, ev_const, ev_fn, WN_some, WN_none, updO_some, updO_none, upd_eq,
 ↓reduceIte, Nat.reduceEqDiff, List.nil_append, List.cons_append, List.append_nil, List.map_cons, List.map_nil, env0_zero, env0_succ, env0_nil, Option.map_some, Option.map_none, seqQ_normal, seqQ_ret, seqQ_exit, seqQ_goto, blockQ_normal, blockQ_ret, blockQ_exit, blockQ_goto, condW_bool, loopQ_ret, loopQ_exit, loopQ_goto, endQ_ret, endQ_normal,
 lss_i, leq_i, gtr_i, geq_i, eql_i, neq_i, eql_8, neq_8, lss_8, leq_8, gtr_8, geq_8, eql_s, neq_s, eql_b, neq_b, not_b, by_bys, by_nils, load_cp1, beq_true, beq_false, Bool.not_eq_true', decide_eq_true_eq, decide_eq_false_iff_not, decide_true, decide_false,
 Int.toNat_natCast, Int.ofNat_lt, Int.ofNat_le, Int.natCast_inj, Bool.false_eq_true, Bool.true_eq_false, extPV, List.getElem?_cons_zero, List.getElem?_cons_succ, nilckPV, Int.reduceToNat, Int.reduceLE, true_and, and_true, reduceCtorEq, or_false, false_or, or_true, Option.some.injEq, exists_eq_left', Bool.not_true, Bool.not_false, ne_eq, Int.reduceEq, not_true_eq_false, not_false_eq_true, Int.reduceLT, UInt8.reduceLT, UInt8.reduceLE, UInt8.reduceToNat]
    exact hk
  clear hk h0 h5 h6
  rintro e S ⟨hk, h0, h5, h6⟩
  have hml : ((l.take n).drop 1).length = n - 1 := by simp; omega
  have hslc : slcPV 1 x (some (.int .i64 1)) (some (.int .i64 (n : Int))) none = some (x.midB 1 n) := by
    have := slc_lohi (k := .i64) (k' := .i64) (c := 1) (d := (n : Int)) hx (by omega) (by omega) (by simpa using (by omega : n ≤ l.length))
    simpa using this
  have hmb : (x.midB 1 n).by = some ((l.take n).drop 1) := midB_by hx
  have hlm := len_by hmb
  rw [hml] at hlm
  obtain ⟨I, hI⟩ : ∃ I : Nat → Env → St → Prop, I = fun m E S => ∃ k, m = n - 1 - k ∧ k ≤ n - 1 ∧ contB l k ∧ Kept st S ∧ E 0 = x ∧ E 5 = .int .i32 ((accP l p k : Nat) : Int) ∧ E 6 = .int .i64 (n : Int) ∧ E 52 = x.midB 1 n ∧ E 53 = .int .i64 ((n - 1 : Nat) : Int) ∧ E 54 = .int .i64 (k : Int) := ⟨_, rfl⟩
  -- one round of the loop
  have start : I (n - 1) (upd (upd (upd (upd (upd e 50 x) 51 (.int .i64 (n : Int))) 52 (x.midB 1 n)) 53 (.int .i64 ((n - 1 : Nat) : Int))) 54 (.int .i64 0)) S := by
    rw [hI]
    exact ⟨0, rfl, by omega, fun j h => by omega, hk, h0, h5, h6, rfl, rfl, rfl⟩
  have nxt : ∀ (k : Nat) (E : Env) (S : St), contB l (k + 1) → k + 1 ≤ n - 1 → Kept st S → E 0 = x → E 5 = .int .i32 ((accP l p (k + 1) : Nat) : Int) → E 6 = .int .i64 (n : Int) → E 52 = x.midB 1 n → E 53 = .int .i64 ((n - 1 : Nat) : Int) → E 54 = .int .i64 ((k + 1 : Nat) : Int) → I (n - 1 - (k + 1)) E S := by
    intro k E S q1 q2 q3 q4 q5 q6 q7 q8 q9
    rw [hI]; exact ⟨k + 1, rfl, q2, q1, q3, q4, q5, q6, q7, q8, q9⟩
  by_cases hcb : contB l (n - 1)
  · refine W_cut (fun E S => Kept st S ∧ E 0 = x ∧ E 5 = .int .i32 ((accP l p (n - 1) : Nat) : Int) ∧ E 6 = .int .i64 (n : Int)) ?_ ?_
    · simp (maxSteps := 1000000) (disch := omega) only [h0, h5, h6, hslc, hlm, W_seq, W_region, W_cond, W_block, W_skip, W_label, W_exit, W_goto, W_ret, WO_cons, WO_consG, WO_nil, wantedA_eq, wantB, evOp, ev_tmp, ev_const, ev_fn, WN_some, WN_none, updO_some, updO_none, upd_eq,
 ↓reduceIte, Nat.reduceEqDiff, List.nil_append, List.cons_append, List.append_nil, List.map_cons, List.map_nil, env0_zero, env0_succ, env0_nil, Option.map_some, Option.map_none, seqQ_normal, seqQ_ret, seqQ_exit, seqQ_goto, blockQ_normal, blockQ_ret, blockQ_exit, blockQ_goto, condW_bool, loopQ_ret, loopQ_exit, loopQ_goto, endQ_ret, endQ_normal,
 lss_i, leq_i, gtr_i, geq_i, eql_i, neq_i, eql_8, neq_8, lss_8, leq_8, gtr_8, geq_8, eql_s, neq_s, eql_b, neq_b, not_b, by_bys, by_nils, load_cp1, beq_true, beq_false, Bool.not_eq_true', decide_eq_true_eq, decide_eq_false_iff_not, decide_true, decide_false,
 Int.toNat_natCast, Int.ofNat_lt, Int.ofNat_le, Int.natCast_inj, Bool.false_eq_true, Bool.true_eq_false, extPV, List.getElem?_cons_zero, List.getElem?_cons_succ, nilckPV, Int.reduceToNat, Int.reduceLE, true_and, and_true, reduceCtorEq, or_false, false_or, or_true, Option.some.injEq, exists_eq_left', Bool.not_true, Bool.not_false, ne_eq, Int.reduceEq, not_true_eq_false, not_false_eq_true, Int.reduceLT, UInt8.reduceLT, UInt8.reduceLE, UInt8.reduceToNat]
      refine W_loop I ?_ start
      clear hk h0 h5 h6 start
      intro m E S hh
      rw [hI] at hh
      obtain ⟨k, rfl, hk1, hck, hk, h0, h5, h6, h52, h53, h54⟩ := hh
      by_cases hlt : k < n - 1
      · obtain ⟨d, hd⟩ : ∃ d, d = l.getD (k + 1) 0 := ⟨_, rfl⟩
        have hid : iaddrPV 1 (x.midB 1 n) (.int .i64 (k : Int)) = some (.cp [.b8 d]) := by
          rw [iaddr_by hmb (by omega) (by rw [hml]; simpa using hlt), Int.toNat_natCast, mid_getD (by omega), ← hd]
        have hdc := hcb k hlt
        rw [← hd] at hdc
        have q6 : UInt8.ofNat (d.toNat / 64) = 2 := (isC d).2 hdc
        have ha := hacc k (by omega)
        have hstep : accP l p (k + 1) = 64 * accP l p k + d.toNat % 64 := by rw [hd]; rfl
        simp (maxSteps := 1000000) (disch := omega) only [h0, h5, h6, h52, h53, h54, hlt, hid, load_cp1, shr6, eq_true q6, shl6 ha, and_8, cI32, and63, or_i32 (q := d.toNat % 64) ha (by omega), add_n, W_seq, W_region, W_cond, W_block, W_skip, W_label, W_exit, W_goto, W_ret, WO_cons, WO_consG, WO_nil, wantedA_eq, wantB, evOp, ev_tmp, ev_const, ev_fn, WN_some, WN_none, updO_some, updO_none, upd_eq,
 ↓reduceIte, Nat.reduceEqDiff, List.nil_append, List.cons_append, List.append_nil, List.map_cons, List.map_nil, env0_zero, env0_succ, env0_nil, Option.map_some, Option.map_none, seqQ_normal, seqQ_ret, seqQ_exit, seqQ_goto, blockQ_normal, blockQ_ret, blockQ_exit, blockQ_goto, condW_bool, loopQ_ret, loopQ_exit, loopQ_goto, endQ_ret, endQ_normal,
 lss_i, leq_i, gtr_i, geq_i, eql_i, neq_i, eql_8, neq_8, lss_8, leq_8, gtr_8, geq_8, eql_s, neq_s, eql_b, neq_b, not_b, by_bys, by_nils, load_cp1, beq_true, beq_false, Bool.not_eq_true', decide_eq_true_eq, decide_eq_false_iff_not, decide_true, decide_false,
 Int.toNat_natCast, Int.ofNat_lt, Int.ofNat_le, Int.natCast_inj, Bool.false_eq_true, Bool.true_eq_false, extPV, List.getElem?_cons_zero, List.getElem?_cons_succ, nilckPV, Int.reduceToNat, Int.reduceLE, true_and, and_true, reduceCtorEq, or_false, false_or, or_true, Option.some.injEq, exists_eq_left', Bool.not_true, Bool.not_false, ne_eq, Int.reduceEq, not_true_eq_false, not_false_eq_true, Int.reduceLT, UInt8.reduceLT, UInt8.reduceLE, UInt8.reduceToNat]
        exact loopQ_intro (m := n - 1 - (k + 1)) (by omega) (nxt k _ _ (fun j hj => by
          by_cases hjk : j = k
          · subst hjk; rw [← hd]; exact hdc
          · exact hck j (by omega)) (by omega) hk h0 (by rw [hstep]; rfl) h6 h52 h53 rfl)
      · obtain rfl : k = n - 1 := by omega
        simp (maxSteps := 1000000) (disch := omega) only [h0, h5, h6, h52, h53, h54, hlt, W_seq, W_region, W_cond, W_block, W_skip, W_label, W_exit, W_goto, W_ret, WO_cons, WO_consG, WO_nil, wantedA_eq, wantB, evOp, ev_tmp, ev_const, ev_fn, WN_some, WN_none, updO_some, updO_none, upd_eq,
 ↓reduceIte, Nat.reduceEqDiff, List.nil_append, List.cons_append, List.append_nil, List.map_cons, List.map_nil, env0_zero, env0_succ, env0_nil, Option.map_some, Option.map_none, seqQ_normal, seqQ_ret, seqQ_exit, seqQ_goto, blockQ_normal, blockQ_ret, blockQ_exit, blockQ_goto, condW_bool, loopQ_ret, loopQ_exit, loopQ_goto, endQ_ret, endQ_normal,
 lss_i, leq_i, gtr_i, geq_i, eql_i, neq_i, eql_8, neq_8, lss_8, leq_8, gtr_8, geq_8, eql_s, neq_s, eql_b, neq_b, not_b, by_bys, by_nils, load_cp1, beq_true, beq_false, Bool.not_eq_true', decide_eq_true_eq, decide_eq_false_iff_not, decide_true, decide_false,
 Int.toNat_natCast, Int.ofNat_lt, Int.ofNat_le, Int.natCast_inj, Bool.false_eq_true, Bool.true_eq_false, extPV, List.getElem?_cons_zero, List.getElem?_cons_succ, nilckPV, Int.reduceToNat, Int.reduceLE, true_and, and_true, reduceCtorEq, or_false, false_or, or_true, Option.some.injEq, exists_eq_left', Bool.not_true, Bool.not_false, ne_eq, Int.reduceEq, not_true_eq_false, not_false_eq_true, Int.reduceLT, UInt8.reduceLT, UInt8.reduceLE, UInt8.reduceToNat]
        exact hk
    clear hk h0 h5 h6 start
    rintro e S ⟨hk, h0, h5, h6⟩
    obtain ⟨v, hv⟩ : ∃ v, v = accP l p (n - 1) := ⟨_, rfl⟩
    rw [← hv] at h5 hnx
    have hip := fun S : St => isPoint_spec (st := S) (p := v)
    by_cases hpt : pointN v
    · simp only [decide_eq_true hpt] at hip
      by_cases hlow : v < lowN n
      · have hno : nextOf l = none := by rw [hnx, if_pos (.inr (.inr (.inr (.inr hlow))))]
        rcases hn24 with ⟨rfl, -⟩ | ⟨rfl, -⟩ | ⟨rfl, -⟩
        · have h6' : e 6 = .int .i64 2 := h6
          have f1 : (v : Int) < 128 := by simp [lowN] at hlow; omega
          simp (maxSteps := 1000000) (disch := omega) only [h0, h5, h6', hip, f1, W_seq, W_region, W_cond, W_block, W_skip, W_label, W_exit, W_goto, W_ret, WO_cons, WO_consG, WO_nil, wantedA_eq, wantB, evOp, ev_tmp, ev_const, ev_fn, WN_some, WN_none, updO_some, updO_none, upd_eq,
 ↓reduceIte, Nat.reduceEqDiff, List.nil_append, List.cons_append, List.append_nil, List.map_cons, List.map_nil, env0_zero, env0_succ, env0_nil, Option.map_some, Option.map_none, seqQ_normal, seqQ_ret, seqQ_exit, seqQ_goto, blockQ_normal, blockQ_ret, blockQ_exit, blockQ_goto, condW_bool, loopQ_ret, loopQ_exit, loopQ_goto, endQ_ret, endQ_normal,
 lss_i, leq_i, gtr_i, geq_i, eql_i, neq_i, eql_8, neq_8, lss_8, leq_8, gtr_8, geq_8, eql_s, neq_s, eql_b, neq_b, not_b, by_bys, by_nils, load_cp1, beq_true, beq_false, Bool.not_eq_true', decide_eq_true_eq, decide_eq_false_iff_not, decide_true, decide_false,
 Int.toNat_natCast, Int.ofNat_lt, Int.ofNat_le, Int.natCast_inj, Bool.false_eq_true, Bool.true_eq_false, extPV, List.getElem?_cons_zero, List.getElem?_cons_succ, nilckPV, Int.reduceToNat, Int.reduceLE, true_and, and_true, reduceCtorEq, or_false, false_or, or_true, Option.some.injEq, exists_eq_left', Bool.not_true, Bool.not_false, ne_eq, Int.reduceEq, not_true_eq_false, not_false_eq_true, Int.reduceLT, UInt8.reduceLT, UInt8.reduceLE, UInt8.reduceToNat]
          exact wrong _ _ hk hno hne
        · have h6' : e 6 = .int .i64 3 := h6
          have f1 : (v : Int) < 2048 := by simp [lowN] at hlow; omega
          simp (maxSteps := 1000000) (disch := omega) only [h0, h5, h6', hip, f1, W_seq, W_region, W_cond, W_block, W_skip, W_label, W_exit, W_goto, W_ret, WO_cons, WO_consG, WO_nil, wantedA_eq, wantB, evOp, ev_tmp, ev_const, ev_fn, WN_some, WN_none, updO_some, updO_none, upd_eq,
 ↓reduceIte, Nat.reduceEqDiff, List.nil_append, List.cons_append, List.append_nil, List.map_cons, List.map_nil, env0_zero, env0_succ, env0_nil, Option.map_some, Option.map_none, seqQ_normal, seqQ_ret, seqQ_exit, seqQ_goto, blockQ_normal, blockQ_ret, blockQ_exit, blockQ_goto, condW_bool, loopQ_ret, loopQ_exit, loopQ_goto, endQ_ret, endQ_normal,
 lss_i, leq_i, gtr_i, geq_i, eql_i, neq_i, eql_8, neq_8, lss_8, leq_8, gtr_8, geq_8, eql_s, neq_s, eql_b, neq_b, not_b, by_bys, by_nils, load_cp1, beq_true, beq_false, Bool.not_eq_true', decide_eq_true_eq, decide_eq_false_iff_not, decide_true, decide_false,
 Int.toNat_natCast, Int.ofNat_lt, Int.ofNat_le, Int.natCast_inj, Bool.false_eq_true, Bool.true_eq_false, extPV, List.getElem?_cons_zero, List.getElem?_cons_succ, nilckPV, Int.reduceToNat, Int.reduceLE, true_and, and_true, reduceCtorEq, or_false, false_or, or_true, Option.some.injEq, exists_eq_left', Bool.not_true, Bool.not_false, ne_eq, Int.reduceEq, not_true_eq_false, not_false_eq_true, Int.reduceLT, UInt8.reduceLT, UInt8.reduceLE, UInt8.reduceToNat]
          exact wrong _ _ hk hno hne
        · have h6' : e 6 = .int .i64 4 := h6
          have f1 : (v : Int) < 65536 := by simp [lowN] at hlow; omega
          simp (maxSteps := 1000000) (disch := omega) only [h0, h5, h6', hip, f1, W_seq, W_region, W_cond, W_block, W_skip, W_label, W_exit, W_goto, W_ret, WO_cons, WO_consG, WO_nil, wantedA_eq, wantB, evOp, ev_tmp, ev_const, ev_fn, WN_some, WN_none, updO_some, updO_none, upd_eq,
 ↓reduceIte, Nat.reduceEqDiff, List.nil_append, List.cons_append, List.append_nil, List.map_cons, List.map_nil, env0_zero, env0_succ, env0_nil, Option.map_some, Option.map_none, seqQ_normal, seqQ_ret, seqQ_exit, seqQ_goto, blockQ_normal, blockQ_ret, blockQ_exit, blockQ_goto, condW_bool, loopQ_ret, loopQ_exit, loopQ_goto, endQ_ret, endQ_normal,
 lss_i, leq_i, gtr_i, geq_i, eql_i, neq_i, eql_8, neq_8, lss_8, leq_8, gtr_8, geq_8, eql_s, neq_s, eql_b, neq_b, not_b, by_bys, by_nils, load_cp1, beq_true, beq_false, Bool.not_eq_true', decide_eq_true_eq, decide_eq_false_iff_not, decide_true, decide_false,
 Int.toNat_natCast, Int.ofNat_lt, Int.ofNat_le, Int.natCast_inj, Bool.false_eq_true, Bool.true_eq_false, extPV, List.getElem?_cons_zero, List.getElem?_cons_succ, nilckPV, Int.reduceToNat, Int.reduceLE, true_and, and_true, reduceCtorEq, or_false, false_or, or_true, Option.some.injEq, exists_eq_left', Bool.not_true, Bool.not_false, ne_eq, Int.reduceEq, not_true_eq_false, not_false_eq_true, Int.reduceLT, UInt8.reduceLT, UInt8.reduceLE, UInt8.reduceToNat]
          exact wrong _ _ hk hno hne
      · have hyes : nextOf l = some (v, n) := by
          rw [hnx, if_neg]
          simp only [not_or, Classical.not_not]
          exact ⟨hn0, hln, hcb, hpt, hlow⟩
        rcases hn24 with ⟨rfl, -⟩ | ⟨rfl, -⟩ | ⟨rfl, -⟩
        · have h6' : e 6 = .int .i64 2 := h6
          have f1 : ¬ (v : Int) < 128 := by simp [lowN] at hlow; omega
          simp (maxSteps := 1000000) (disch := omega) only [h0, h5, h6', hip, f1, W_seq, W_region, W_cond, W_block, W_skip, W_label, W_exit, W_goto, W_ret, WO_cons, WO_consG, WO_nil, wantedA_eq, wantB, evOp, ev_tmp, ev_const, ev_fn, WN_some, WN_none, updO_some, updO_none, upd_eq,
 ↓reduceIte, Nat.reduceEqDiff, List.nil_append, List.cons_append, List.append_nil, List.map_cons, List.map_nil, env0_zero, env0_succ, env0_nil, Option.map_some, Option.map_none, seqQ_normal, seqQ_ret, seqQ_exit, seqQ_goto, blockQ_normal, blockQ_ret, blockQ_exit, blockQ_goto, condW_bool, loopQ_ret, loopQ_exit, loopQ_goto, endQ_ret, endQ_normal,
 lss_i, leq_i, gtr_i, geq_i, eql_i, neq_i, eql_8, neq_8, lss_8, leq_8, gtr_8, geq_8, eql_s, neq_s, eql_b, neq_b, not_b, by_bys, by_nils, load_cp1, beq_true, beq_false, Bool.not_eq_true', decide_eq_true_eq, decide_eq_false_iff_not, decide_true, decide_false,
 Int.toNat_natCast, Int.ofNat_lt, Int.ofNat_le, Int.natCast_inj, Bool.false_eq_true, Bool.true_eq_false, extPV, List.getElem?_cons_zero, List.getElem?_cons_succ, nilckPV, Int.reduceToNat, Int.reduceLE, true_and, and_true, reduceCtorEq, or_false, false_or, or_true, Option.some.injEq, exists_eq_left', Bool.not_true, Bool.not_false, ne_eq, Int.reduceEq, not_true_eq_false, not_false_eq_true, Int.reduceLT, UInt8.reduceLT, UInt8.reduceLE, UInt8.reduceToNat]
          exact fin _ _ _ _ _ hk (nextV_some hyes) rfl rfl rfl
        · have h6' : e 6 = .int .i64 3 := h6
          have f1 : ¬ (v : Int) < 2048 := by simp [lowN] at hlow; omega
          simp (maxSteps := 1000000) (disch := omega) only [h0, h5, h6', hip, f1, W_seq, W_region, W_cond, W_block, W_skip, W_label, W_exit, W_goto, W_ret, WO_cons, WO_consG, WO_nil, wantedA_eq, wantB, evOp, ev_tmp, ev_const, ev_fn, WN_some, WN_none, updO_some, updO_none, upd_eq,
 ↓reduceIte, Nat.reduceEqDiff, List.nil_append, List.cons_append, List.append_nil, List.map_cons, List.map_nil, env0_zero, env0_succ, env0_nil, Option.map_some, Option.map_none, seqQ_normal, seqQ_ret, seqQ_exit, seqQ_goto, blockQ_normal, blockQ_ret, blockQ_exit, blockQ_goto, condW_bool, loopQ_ret, loopQ_exit, loopQ_goto, endQ_ret, endQ_normal,
 lss_i, leq_i, gtr_i, geq_i, eql_i, neq_i, eql_8, neq_8, lss_8, leq_8, gtr_8, geq_8, eql_s, neq_s, eql_b, neq_b, not_b, by_bys, by_nils, load_cp1, beq_true, beq_false, Bool.not_eq_true', decide_eq_true_eq, decide_eq_false_iff_not, decide_true, decide_false,
 Int.toNat_natCast, Int.ofNat_lt, Int.ofNat_le, Int.natCast_inj, Bool.false_eq_true, Bool.true_eq_false, extPV, List.getElem?_cons_zero, List.getElem?_cons_succ, nilckPV, Int.reduceToNat, Int.reduceLE, true_and, and_true, reduceCtorEq, or_false, false_or, or_true, Option.some.injEq, exists_eq_left', Bool.not_true, Bool.not_false, ne_eq, Int.reduceEq, not_true_eq_false, not_false_eq_true, Int.reduceLT, UInt8.reduceLT, UInt8.reduceLE, UInt8.reduceToNat]
          exact fin _ _ _ _ _ hk (nextV_some hyes) rfl rfl rfl
        · have h6' : e 6 = .int .i64 4 := h6
          have f1 : ¬ (v : Int) < 65536 := by simp [lowN] at hlow; omega
          simp (maxSteps := 1000000) (disch := omega) only [h0, h5, h6', hip, f1, W_seq, W_region, W_cond, W_block, W_skip, W_label, W_exit, W_goto, W_ret, WO_cons, WO_consG, WO_nil, wantedA_eq, wantB, evOp, ev_tmp, ev_const, ev_fn, WN_some, WN_none, updO_some, updO_none, upd_eq,
 ↓reduceIte, Nat.reduceEqDiff, List.nil_append, List.cons_append, List.append_nil, List.map_cons, List.map_nil, env0_zero, env0_succ, env0_nil, Option.map_some, Option.map_none, seqQ_normal, seqQ_ret, seqQ_exit, seqQ_goto, blockQ_normal, blockQ_ret, blockQ_exit, blockQ_goto, condW_bool, loopQ_ret, loopQ_exit, loopQ_goto, endQ_ret, endQ_normal,
 lss_i, leq_i, gtr_i, geq_i, eql_i, neq_i, eql_8, neq_8, lss_8, leq_8, gtr_8, geq_8, eql_s, neq_s, eql_b, neq_b, not_b, by_bys, by_nils, load_cp1, beq_true, beq_false, Bool.not_eq_true', decide_eq_true_eq, decide_eq_false_iff_not, decide_true, decide_false,
 Int.toNat_natCast, Int.ofNat_lt, Int.ofNat_le, Int.natCast_inj, Bool.false_eq_true, Bool.true_eq_false, extPV, List.getElem?_cons_zero, List.getElem?_cons_succ, nilckPV, Int.reduceToNat, Int.reduceLE, true_and, and_true, reduceCtorEq, or_false, false_or, or_true, Option.some.injEq, exists_eq_left', Bool.not_true, Bool.not_false, ne_eq, Int.reduceEq, not_true_eq_false, not_false_eq_true, Int.reduceLT, UInt8.reduceLT, UInt8.reduceLE, UInt8.reduceToNat]
          exact fin _ _ _ _ _ hk (nextV_some hyes) rfl rfl rfl
    · simp only [decide_eq_false hpt] at hip
      simp (maxSteps := 1000000) (disch := omega) only [h0, h5, h6, hip, W_seq, W_region, W_cond, W_block, W_skip, W_label, W_exit, W_goto, W_ret, WO_cons, WO_consG, WO_nil, wantedA_eq, wantB, evOp, ev_tmp, ev_const, ev_fn, WN_some, WN_none, updO_some, updO_none, upd_eq,
 ↓reduceIte, Nat.reduceEqDiff, List.nil_append, List.cons_append, List.append_nil, List.map_cons, List.map_nil, env0_zero, env0_succ, env0_nil, Option.map_some, Option.map_none, seqQ_normal, seqQ_ret, seqQ_exit, seqQ_goto, blockQ_normal, blockQ_ret, blockQ_exit, blockQ_goto, condW_bool, loopQ_ret, loopQ_exit, loopQ_goto, endQ_ret, endQ_normal,
 lss_i, leq_i, gtr_i, geq_i, eql_i, neq_i, eql_8, neq_8, lss_8, leq_8, gtr_8, geq_8, eql_s, neq_s, eql_b, neq_b, not_b, by_bys, by_nils, load_cp1, beq_true, beq_false, Bool.not_eq_true', decide_eq_true_eq, decide_eq_false_iff_not, decide_true, decide_false,
 Int.toNat_natCast, Int.ofNat_lt, Int.ofNat_le, Int.natCast_inj, Bool.false_eq_true, Bool.true_eq_false, extPV, List.getElem?_cons_zero, List.getElem?_cons_succ, nilckPV, Int.reduceToNat, Int.reduceLE, true_and, and_true, reduceCtorEq, or_false, false_or, or_true, Option.some.injEq, exists_eq_left', Bool.not_true, Bool.not_false, ne_eq, Int.reduceEq, not_true_eq_false, not_false_eq_true, Int.reduceLT, UInt8.reduceLT, UInt8.reduceLE, UInt8.reduceToNat]
      exact wrong _ _ hk (by rw [hnx, if_pos (.inr (.inr (.inr (.inl hpt))))]) hne
  · have hno : nextOf l = none := by rw [hnx, if_pos (.inr (.inr (.inl hcb)))]
    simp (maxSteps := 1000000) (disch := omega) only [h0, h5, h6, hslc, hlm, W_seq, W_region, W_cond, W_block, W_skip, W_label, W_exit, W_goto, W_ret, WO_cons, WO_consG, WO_nil, wantedA_eq, wantB, evOp, ev_tmp, ev_const, ev_fn, WN_some, WN_none, updO_some, updO_none, upd_eq,
 ↓reduceIte, Nat.reduceEqDiff, List.nil_append, List.cons_append, List.append_nil, List.map_cons, List.map_nil, env0_zero, env0_succ, env0_nil, Option.map_some, Option.map_none, seqQ_normal, seqQ_ret, seqQ_exit, seqQ_goto, blockQ_normal, blockQ_ret, blockQ_exit, blockQ_goto, condW_bool, loopQ_ret, loopQ_exit, loopQ_goto, endQ_ret, endQ_normal,
 lss_i, leq_i, gtr_i, geq_i, eql_i, neq_i, eql_8, neq_8, lss_8, leq_8, gtr_8, geq_8, eql_s, neq_s, eql_b, neq_b, not_b, by_bys, by_nils, load_cp1, beq_true, beq_false, Bool.not_eq_true', decide_eq_true_eq, decide_eq_false_iff_not, decide_true, decide_false,
 Int.toNat_natCast, Int.ofNat_lt, Int.ofNat_le, Int.natCast_inj, Bool.false_eq_true, Bool.true_eq_false, extPV, List.getElem?_cons_zero, List.getElem?_cons_succ, nilckPV, Int.reduceToNat, Int.reduceLE, true_and, and_true, reduceCtorEq, or_false, false_or, or_true, Option.some.injEq, exists_eq_left', Bool.not_true, Bool.not_false, ne_eq, Int.reduceEq, not_true_eq_false, not_false_eq_true, Int.reduceLT, UInt8.reduceLT, UInt8.reduceLE, UInt8.reduceToNat]
    refine W_loop I ?_ start
    clear hk h0 h5 h6 start
    intro m E S hh
    rw [hI] at hh
    obtain ⟨k, rfl, hk1, hck, hk, h0, h5, h6, h52, h53, h54⟩ := hh
    by_cases hlt : k < n - 1
    · obtain ⟨d, hd⟩ : ∃ d, d = l.getD (k + 1) 0 := ⟨_, rfl⟩
      have hid : iaddrPV 1 (x.midB 1 n) (.int .i64 (k : Int)) = some (.cp [.b8 d]) := by
        rw [iaddr_by hmb (by omega) (by rw [hml]; simpa using hlt), Int.toNat_natCast, mid_getD (by omega), ← hd]
      by_cases q6 : UInt8.ofNat (d.toNat / 64) = 2
      · have hdc := (isC d).1 q6
        have ha := hacc k (by omega)
        have hstep : accP l p (k + 1) = 64 * accP l p k + d.toNat % 64 := by rw [hd]; rfl
        simp (maxSteps := 1000000) (disch := omega) only [h0, h5, h6, h52, h53, h54, hlt, hid, load_cp1, shr6, eq_true q6, shl6 ha, and_8, cI32, and63, or_i32 (q := d.toNat % 64) ha (by omega), add_n, W_seq, W_region, W_cond, W_block, W_skip, W_label, W_exit, W_goto, W_ret, WO_cons, WO_consG, WO_nil, wantedA_eq, wantB, evOp, ev_tmp, ev_const, ev_fn, WN_some, WN_none, updO_some, updO_none, upd_eq,
 ↓reduceIte, Nat.reduceEqDiff, List.nil_append, List.cons_append, List.append_nil, List.map_cons, List.map_nil, env0_zero, env0_succ, env0_nil, Option.map_some, Option.map_none, seqQ_normal, seqQ_ret, seqQ_exit, seqQ_goto, blockQ_normal, blockQ_ret, blockQ_exit, blockQ_goto, condW_bool, loopQ_ret, loopQ_exit, loopQ_goto, endQ_ret, endQ_normal,
 lss_i, leq_i, gtr_i, geq_i, eql_i, neq_i, eql_8, neq_8, lss_8, leq_8, gtr_8, geq_8, eql_s, neq_s, eql_b, neq_b, not_b, by_bys, by_nils, load_cp1, beq_true, beq_false, Bool.not_eq_true', decide_eq_true_eq, decide_eq_false_iff_not, decide_true, decide_false,
 Int.toNat_natCast, Int.ofNat_lt, Int.ofNat_le, Int.natCast_inj, Bool.false_eq_true, Bool.true_eq_false, extPV, List.getElem?_cons_zero, List.getElem?_cons_succ, nilckPV, Int.reduceToNat, Int.reduceLE, true_and, and_true, reduceCtorEq, or_false, false_or, or_true, Option.some.injEq, exists_eq_left', Bool.not_true, Bool.not_false, ne_eq, Int.reduceEq, not_true_eq_false, not_false_eq_true, Int.reduceLT, UInt8.reduceLT, UInt8.reduceLE, UInt8.reduceToNat]
        exact loopQ_intro (m := n - 1 - (k + 1)) (by omega) (nxt k _ _ (fun j hj => by
          by_cases hjk : j = k
          · subst hjk; rw [← hd]; exact hdc
          · exact hck j (by omega)) (by omega) hk h0 (by rw [hstep]; rfl) h6 h52 h53 rfl)
      · simp (maxSteps := 1000000) (disch := omega) only [h0, h5, h6, h52, h53, h54, hlt, hid, load_cp1, shr6, q6, W_seq, W_region, W_cond, W_block, W_skip, W_label, W_exit, W_goto, W_ret, WO_cons, WO_consG, WO_nil, wantedA_eq, wantB, evOp, ev_tmp, ev_const, ev_fn, WN_some, WN_none, updO_some, updO_none, upd_eq,
 ↓reduceIte, Nat.reduceEqDiff, List.nil_append, List.cons_append, List.append_nil, List.map_cons, List.map_nil, env0_zero, env0_succ, env0_nil, Option.map_some, Option.map_none, seqQ_normal, seqQ_ret, seqQ_exit, seqQ_goto, blockQ_normal, blockQ_ret, blockQ_exit, blockQ_goto, condW_bool, loopQ_ret, loopQ_exit, loopQ_goto, endQ_ret, endQ_normal,
 lss_i, leq_i, gtr_i, geq_i, eql_i, neq_i, eql_8, neq_8, lss_8, leq_8, gtr_8, geq_8, eql_s, neq_s, eql_b, neq_b, not_b, by_bys, by_nils, load_cp1, beq_true, beq_false, Bool.not_eq_true', decide_eq_true_eq, decide_eq_false_iff_not, decide_true, decide_false,
 Int.toNat_natCast, Int.ofNat_lt, Int.ofNat_le, Int.natCast_inj, Bool.false_eq_true, Bool.true_eq_false, extPV, List.getElem?_cons_zero, List.getElem?_cons_succ, nilckPV, Int.reduceToNat, Int.reduceLE, true_and, and_true, reduceCtorEq, or_false, false_or, or_true, Option.some.injEq, exists_eq_left', Bool.not_true, Bool.not_false, ne_eq, Int.reduceEq, not_true_eq_false, not_false_eq_true, Int.reduceLT, UInt8.reduceLT, UInt8.reduceLE, UInt8.reduceToNat]
        exact wrong _ _ hk hno hne
    · obtain rfl : k = n - 1 := by omega
      exact absurd hck hcb
end Go.Ab

/-
  A point's bytes, by the document; the point at a text's front is the one whose bytes stand there.
-/
namespace Go.Ab
set_option linter.unusedVariables false
set_option linter.unusedSimpArgs false
variable {st s : St} {e : Env}

theorem rPoint_spec {p : Nat} : call prog (.fn 85 []) [.int .i32 (p : Int)] st = some (.bool (decide (pointN p)), st) := by
  refine call_of_W prog_85 ?_
  unfold F_posthornref02_Point; dsimp only
  have e0 : (0 : Int) ≤ (p : Int) := by omega
  by_cases h2 : p < 55296
  · have e2 : (p : Int) < 55296 := by omega
    simp (maxSteps := 1000000) (disch := omega) only [e0, e2, W_seq, W_region, W_cond, W_block, W_skip, W_label, W_exit, W_goto, W_ret, WO_cons, WO_consG, WO_nil, wantedA_eq, wantB, evOp, ev_tmp, ev_const, ev_fn, WN_some, WN_none, updO_some, updO_none, upd_eq,
 ↓reduceIte, Nat.reduceEqDiff, List.nil_append, List.cons_append, List.append_nil, List.map_cons, List.map_nil, env0_zero, env0_succ, env0_nil, Option.map_some, Option.map_none, seqQ_normal, seqQ_ret, seqQ_exit, seqQ_goto, blockQ_normal, blockQ_ret, blockQ_exit, blockQ_goto, condW_bool, loopQ_ret, loopQ_exit, loopQ_goto, endQ_ret, endQ_normal,
 lss_i, leq_i, gtr_i, geq_i, eql_i, neq_i, eql_8, neq_8, lss_8, leq_8, gtr_8, geq_8, eql_s, neq_s, eql_b, neq_b, not_b, by_bys, by_nils, load_cp1, beq_true, beq_false, Bool.not_eq_true', decide_eq_true_eq, decide_eq_false_iff_not, decide_true, decide_false,
 Int.toNat_natCast, Int.ofNat_lt, Int.ofNat_le, Int.natCast_inj, Bool.false_eq_true, Bool.true_eq_false, extPV, List.getElem?_cons_zero, List.getElem?_cons_succ, nilckPV, Int.reduceToNat, Int.reduceLE, true_and, and_true, reduceCtorEq, or_false, false_or, or_true, Option.some.injEq, exists_eq_left', Bool.not_true, Bool.not_false, ne_eq, Int.reduceEq, not_true_eq_false, not_false_eq_true, Int.reduceLT, UInt8.reduceLT, UInt8.reduceLE, UInt8.reduceToNat]
    rw [show decide (pointN p) = true by simp [pointN, h2]]
    exact end1 rfl Kp_bool
  have e2 : ¬ (p : Int) < 55296 := by omega
  by_cases h3 : 57343 < p
  · have e3 : (57343 : Int) < (p : Int) := by omega
    by_cases h1 : p ≤ 1114111
    · have e1 : (p : Int) ≤ 1114111 := by omega
      simp (maxSteps := 1000000) (disch := omega) only [e0, e1, e2, e3, W_seq, W_region, W_cond, W_block, W_skip, W_label, W_exit, W_goto, W_ret, WO_cons, WO_consG, WO_nil, wantedA_eq, wantB, evOp, ev_tmp, ev_const, ev_fn, WN_some, WN_none, updO_some, updO_none, upd_eq,
 ↓reduceIte, Nat.reduceEqDiff, List.nil_append, List.cons_append, List.append_nil, List.map_cons, List.map_nil, env0_zero, env0_succ, env0_nil, Option.map_some, Option.map_none, seqQ_normal, seqQ_ret, seqQ_exit, seqQ_goto, blockQ_normal, blockQ_ret, blockQ_exit, blockQ_goto, condW_bool, loopQ_ret, loopQ_exit, loopQ_goto, endQ_ret, endQ_normal,
 lss_i, leq_i, gtr_i, geq_i, eql_i, neq_i, eql_8, neq_8, lss_8, leq_8, gtr_8, geq_8, eql_s, neq_s, eql_b, neq_b, not_b, by_bys, by_nils, load_cp1, beq_true, beq_false, Bool.not_eq_true', decide_eq_true_eq, decide_eq_false_iff_not, decide_true, decide_false,
 Int.toNat_natCast, Int.ofNat_lt, Int.ofNat_le, Int.natCast_inj, Bool.false_eq_true, Bool.true_eq_false, extPV, List.getElem?_cons_zero, List.getElem?_cons_succ, nilckPV, Int.reduceToNat, Int.reduceLE, true_and, and_true, reduceCtorEq, or_false, false_or, or_true, Option.some.injEq, exists_eq_left', Bool.not_true, Bool.not_false, ne_eq, Int.reduceEq, not_true_eq_false, not_false_eq_true, Int.reduceLT, UInt8.reduceLT, UInt8.reduceLE, UInt8.reduceToNat]
      rw [show decide (pointN p) = true by simp [pointN, h3, h1]]
      exact end1 rfl Kp_bool
    · have e1 : ¬ (p : Int) ≤ 1114111 := by omega
      simp (maxSteps := 1000000) (disch := omega) only [e0, e1, e2, e3, W_seq, W_region, W_cond, W_block, W_skip, W_label, W_exit, W_goto, W_ret, WO_cons, WO_consG, WO_nil, wantedA_eq, wantB, evOp, ev_tmp, ev_const, ev_fn, WN_some, WN_none, updO_some, updO_none, upd_eq,
 ↓reduceIte, Nat.reduceEqDiff, List.nil_append, List.cons_append, List.append_nil, List.map_cons, List.map_nil, env0_zero, env0_succ, env0_nil, Option.map_some, Option.map_none, seqQ_normal, seqQ_ret, seqQ_exit, seqQ_goto, blockQ_normal, blockQ_ret, blockQ_exit, blockQ_goto, condW_bool, loopQ_ret, loopQ_exit, loopQ_goto, endQ_ret, endQ_normal,
 lss_i, leq_i, gtr_i, geq_i, eql_i, neq_i, eql_8, neq_8, lss_8, leq_8, gtr_8, geq_8, eql_s, neq_s, eql_b, neq_b, not_b, by_bys, by_nils, load_cp1, beq_true, beq_false, Bool.not_eq_true', decide_eq_true_eq, decide_eq_false_iff_not, decide_true, decide_false,
 Int.toNat_natCast, Int.ofNat_lt, Int.ofNat_le, Int.natCast_inj, Bool.false_eq_true, Bool.true_eq_false, extPV, List.getElem?_cons_zero, List.getElem?_cons_succ, nilckPV, Int.reduceToNat, Int.reduceLE, true_and, and_true, reduceCtorEq, or_false, false_or, or_true, Option.some.injEq, exists_eq_left', Bool.not_true, Bool.not_false, ne_eq, Int.reduceEq, not_true_eq_false, not_false_eq_true, Int.reduceLT, UInt8.reduceLT, UInt8.reduceLE, UInt8.reduceToNat]
      rw [show decide (pointN p) = false from decide_eq_false (by unfold pointN; omega)]
      exact end1 rfl Kp_bool
  · have e3 : ¬ (57343 : Int) < (p : Int) := by omega
    simp (maxSteps := 1000000) (disch := omega) only [e0, e2, e3, W_seq, W_region, W_cond, W_block, W_skip, W_label, W_exit, W_goto, W_ret, WO_cons, WO_consG, WO_nil, wantedA_eq, wantB, evOp, ev_tmp, ev_const, ev_fn, WN_some, WN_none, updO_some, updO_none, upd_eq,
 ↓reduceIte, Nat.reduceEqDiff, List.nil_append, List.cons_append, List.append_nil, List.map_cons, List.map_nil, env0_zero, env0_succ, env0_nil, Option.map_some, Option.map_none, seqQ_normal, seqQ_ret, seqQ_exit, seqQ_goto, blockQ_normal, blockQ_ret, blockQ_exit, blockQ_goto, condW_bool, loopQ_ret, loopQ_exit, loopQ_goto, endQ_ret, endQ_normal,
 lss_i, leq_i, gtr_i, geq_i, eql_i, neq_i, eql_8, neq_8, lss_8, leq_8, gtr_8, geq_8, eql_s, neq_s, eql_b, neq_b, not_b, by_bys, by_nils, load_cp1, beq_true, beq_false, Bool.not_eq_true', decide_eq_true_eq, decide_eq_false_iff_not, decide_true, decide_false,
 Int.toNat_natCast, Int.ofNat_lt, Int.ofNat_le, Int.natCast_inj, Bool.false_eq_true, Bool.true_eq_false, extPV, List.getElem?_cons_zero, List.getElem?_cons_succ, nilckPV, Int.reduceToNat, Int.reduceLE, true_and, and_true, reduceCtorEq, or_false, false_or, or_true, Option.some.injEq, exists_eq_left', Bool.not_true, Bool.not_false, ne_eq, Int.reduceEq, not_true_eq_false, not_false_eq_true, Int.reduceLT, UInt8.reduceLT, UInt8.reduceLE, UInt8.reduceToNat]
    rw [show decide (pointN p) = false from decide_eq_false (by unfold pointN; omega)]
    exact end1 rfl Kp_bool

def putOf (p : Nat) : List UInt8 :=
  if p < 128 then [UInt8.ofNat p] else if p < 2048 then [UInt8.ofNat (192 + p / 64), UInt8.ofNat (128 + p % 64)]
  else if p < 65536 then [UInt8.ofNat (224 + p / 4096), UInt8.ofNat (128 + p / 64 % 64), UInt8.ofNat (128 + p % 64)]
  else [UInt8.ofNat (240 + p / 262144), UInt8.ofNat (128 + p / 4096 % 64), UInt8.ofNat (128 + p / 64 % 64), UInt8.ofNat (128 + p % 64)]

theorem quo32 {ek : EK} {p : Nat} {c : Int} (h1 : 0 < c) (h : p < 2147483648) : binPV .quo ek (.int .i32 (p : Int)) (.int .i32 c) = some (.int .i32 ((p / c.toNat : Nat) : Int)) := by
  obtain ⟨d, rfl⟩ : ∃ d : Nat, c = (d : Int) := ⟨c.toNat, by omega⟩
  simp only [binPV, binI, if_true]
  rw [if_neg (by omega), Int.toNat_natCast]
  have : (p : Int).tdiv (d : Int) = ((p / d : Nat) : Int) := (Int.ofNat_tdiv p d).symm
  have h3 := Nat.div_le_self p d
  have h4 : (0 : Int) ≤ ((p / d : Nat) : Int) := Int.natCast_nonneg _
  rw [this, wrap32 (by omega) (by omega)]
theorem rem32 {ek : EK} {p : Nat} {c : Int} (h1 : 0 < c) : binPV .rem ek (.int .i32 (p : Int)) (.int .i32 c) = some (.int .i32 ((p % c.toNat : Nat) : Int)) := by
  obtain ⟨d, rfl⟩ : ∃ d : Nat, c = (d : Int) := ⟨c.toNat, by omega⟩
  simp only [binPV, binI, if_true]
  rw [if_neg (by omega), Int.toNat_natCast]
  have : (p : Int).tmod (d : Int) = ((p % d : Nat) : Int) := (Int.ofNat_tmod p d).symm
  rw [this]
theorem addc32 {ek : EK} {a : Nat} {c : Int} (h1 : 0 ≤ c) (h2 : c.toNat + a < 2147483648) : binPV .add ek (.int .i32 c) (.int .i32 (a : Int)) = some (.int .i32 ((c.toNat + a : Nat) : Int)) := by
  simp only [binPV, binI, reduceIte, Option.some.injEq]
  rw [wrap32 (by omega) (by omega)]
  congr 1; omega
theorem cI8 {n : Nat} (h : n < 256) : cIntPV .u8 (.int .i32 (n : Int)) = some (.b8 (UInt8.ofNat n)) := by
  simp only [cIntPV]
  have : IntKind.u8.wrap (n : Int) = (n : Int) := by
    unfold IntKind.wrap
    simp only [IntKind.signed, IntKind.bits]
    simp
    omega
  rw [this, Int.toNat_natCast]
theorem leave_mine2 {v : PV} {l : List UInt8} {n : Int} (hk : Kept st s) (hm : Mine st s v l) (hne : l ≠ []) : leave st s (.tup [v, .int .i64 n]) = (.tup [.bys (.own st.toks.length) l, .int .i64 n], st.tok1) := by
  have e1 := hk.bx; have e2 := hk.lp; have e3 := hk.tk
  rcases hm.1 with ⟨rfl, rfl⟩ | ⟨i, rfl, hi⟩
  · exact absurd rfl hne
  · have h2 := hm.2 i rfl
    simp [leave, PV.inB, PV.inB.inBAll, hk.lw, keepRes, keepVals, keepVal, keepLeaf, keepTok, hi, show ¬ i < st.toks.length by omega, e1, e2, e3, St.tok1]
theorem lit8_3 {a b c : UInt8} : lit8Fill (List.replicate 3 0) [(0, .b8 a), (1, .b8 b), (2, .b8 c)] = some [a, b, c] := rfl
theorem lit8_4 {a b c d : UInt8} : lit8Fill (List.replicate 4 0) [(0, .b8 a), (1, .b8 b), (2, .b8 c), (3, .b8 d)] = some [a, b, c, d] := rfl

def putV (st : St) (p : Nat) : PV × St := if pointN p then (.tup [.bys (.own st.toks.length) (putOf p), .int .i64 0], st.tok1) else (.tup [.nils, .int .i64 20], st)

theorem Put_spec {p : Nat} (hp : p < 2147483648) : call prog (.fn 81 []) [.int .i32 (p : Int)] st = some (putV st p) := by
  refine call_of_W prog_81 ?_
  unfold F_posthornref02_Put; dsimp only
  have hk : Kept st { boxes := st.boxes, toks := st.toks, loops := st.loops, low := st.boxes.length } := Kept.start
  have hip := fun S : St => rPoint_spec (st := S) (p := p)
  by_cases hpt : pointN p
  · simp only [decide_eq_true hpt] at hip
    have hpt2 : p ≤ 1114111 := by unfold pointN at hpt; omega
    have hv : putV st p = (.tup [.bys (.own st.toks.length) (putOf p), .int .i64 0], st.tok1) := by simp [putV, hpt]
    have fin : ∀ (v : PV) (S : St), Kept st S → Mine st S v (putOf p) → ∀ E : Env, E 2 = v → E 3 = .int .i64 0 → ∃ rv, resOf E S [.tmp 2, .tmp 3] = some rv ∧ leave st S rv = putV st p := by
      intro v S k1 m1 E k2 k3
      refine ⟨.tup [v, .int .i64 0], ?_, ?_⟩
      · have hnt : notTup v = true := by rcases m1.1 with ⟨rfl, _⟩ | ⟨i, rfl, _⟩ <;> rfl
        simp [resOf, rvAll, rv1, k2, k3, hnt, packRes]
        rfl
      · rw [hv]
        refine leave_mine2 k1 m1 ?_
        unfold putOf
        split
        · simp
        · split
          · simp
          · split <;> simp
    have app : ∀ m : List UInt8, m.length ≤ 4 → ∃ v S, app8 (St.tok1 { boxes := st.boxes, toks := st.toks, loops := st.loops, low := st.boxes.length }) .nils (.bys (.own st.toks.length) m) = some (v, S) ∧ Kept st S ∧ Mine st S v m := by
      intro m hm
      obtain ⟨v, S, a1, k1, m1⟩ := hk.tok1.app8 (v := .nils) (l := []) (y := .bys (.own st.toks.length) m) (m := m) Mine.nil rfl (by simp [room]; omega)
      exact ⟨v, S, a1, k1, by simpa using m1⟩
    by_cases h1 : p < 128
    · have e1 : (p : Int) < 128 := by omega
      obtain ⟨v, S, a1, k1, m1⟩ := app [UInt8.ofNat p] (by simp)
      simp (maxSteps := 1000000) (disch := omega) only [hip, e1, cI8, lit8_1, freshT_eq, a1, W_seq, W_region, W_cond, W_block, W_skip, W_label, W_exit, W_goto, W_ret, WO_cons, WO_consG, WO_nil, wantedA_eq, wantB, evOp, ev_tmp, ev_const, ev_fn, WN_some, WN_none, updO_some, updO_none, upd_eq,
 ↓reduceIte, Nat.reduceEqDiff, List.nil_append, List.cons_append, List.append_nil, List.map_cons, List.map_nil, env0_zero, env0_succ, env0_nil, Option.map_some, Option.map_none, seqQ_normal, seqQ_ret, seqQ_exit, seqQ_goto, blockQ_normal, blockQ_ret, blockQ_exit, blockQ_goto, condW_bool, loopQ_ret, loopQ_exit, loopQ_goto, endQ_ret, endQ_normal,
 lss_i, leq_i, gtr_i, geq_i, eql_i, neq_i, eql_8, neq_8, lss_8, leq_8, gtr_8, geq_8, eql_s, neq_s, eql_b, neq_b, not_b, by_bys, by_nils, load_cp1, beq_true, beq_false, Bool.not_eq_true', decide_eq_true_eq, decide_eq_false_iff_not, decide_true, decide_false,
 Int.toNat_natCast, Int.ofNat_lt, Int.ofNat_le, Int.natCast_inj, Bool.false_eq_true, Bool.true_eq_false, extPV, List.getElem?_cons_zero, List.getElem?_cons_succ, nilckPV, Int.reduceToNat, Int.reduceLE, true_and, and_true, reduceCtorEq, or_false, false_or, or_true, Option.some.injEq, exists_eq_left', Bool.not_true, Bool.not_false, ne_eq, Int.reduceEq, not_true_eq_false, not_false_eq_true, Int.reduceLT, UInt8.reduceLT, UInt8.reduceLE, UInt8.reduceToNat]
      exact fin v S k1 (by simpa [putOf, h1] using m1) _ rfl rfl
    have e1 : ¬ (p : Int) < 128 := by omega
    by_cases h2 : p < 2048
    · have e2 : (p : Int) < 2048 := by omega
      obtain ⟨v, S, a1, k1, m1⟩ := app [UInt8.ofNat (192 + p / 64), UInt8.ofNat (128 + p % 64)] (by simp)
      simp (maxSteps := 1000000) (disch := omega) only [hip, e1, e2, quo32, rem32, addc32, cI8, lit8_2, freshT_eq, a1, W_seq, W_region, W_cond, W_block, W_skip, W_label, W_exit, W_goto, W_ret, WO_cons, WO_consG, WO_nil, wantedA_eq, wantB, evOp, ev_tmp, ev_const, ev_fn, WN_some, WN_none, updO_some, updO_none, upd_eq,
 ↓reduceIte, Nat.reduceEqDiff, List.nil_append, List.cons_append, List.append_nil, List.map_cons, List.map_nil, env0_zero, env0_succ, env0_nil, Option.map_some, Option.map_none, seqQ_normal, seqQ_ret, seqQ_exit, seqQ_goto, blockQ_normal, blockQ_ret, blockQ_exit, blockQ_goto, condW_bool, loopQ_ret, loopQ_exit, loopQ_goto, endQ_ret, endQ_normal,
 lss_i, leq_i, gtr_i, geq_i, eql_i, neq_i, eql_8, neq_8, lss_8, leq_8, gtr_8, geq_8, eql_s, neq_s, eql_b, neq_b, not_b, by_bys, by_nils, load_cp1, beq_true, beq_false, Bool.not_eq_true', decide_eq_true_eq, decide_eq_false_iff_not, decide_true, decide_false,
 Int.toNat_natCast, Int.ofNat_lt, Int.ofNat_le, Int.natCast_inj, Bool.false_eq_true, Bool.true_eq_false, extPV, List.getElem?_cons_zero, List.getElem?_cons_succ, nilckPV, Int.reduceToNat, Int.reduceLE, true_and, and_true, reduceCtorEq, or_false, false_or, or_true, Option.some.injEq, exists_eq_left', Bool.not_true, Bool.not_false, ne_eq, Int.reduceEq, not_true_eq_false, not_false_eq_true, Int.reduceLT, UInt8.reduceLT, UInt8.reduceLE, UInt8.reduceToNat]
      exact fin v S k1 (by simpa [putOf, h1, h2] using m1) _ rfl rfl
    have e2 : ¬ (p : Int) < 2048 := by omega
    by_cases h3 : p < 65536
    · have e3 : (p : Int) < 65536 := by omega
      obtain ⟨v, S, a1, k1, m1⟩ := app [UInt8.ofNat (224 + p / 4096), UInt8.ofNat (128 + p / 64 % 64), UInt8.ofNat (128 + p % 64)] (by simp)
      simp (maxSteps := 1000000) (disch := omega) only [hip, e1, e2, e3, quo32, rem32, addc32, cI8, lit8_3, freshT_eq, a1, W_seq, W_region, W_cond, W_block, W_skip, W_label, W_exit, W_goto, W_ret, WO_cons, WO_consG, WO_nil, wantedA_eq, wantB, evOp, ev_tmp, ev_const, ev_fn, WN_some, WN_none, updO_some, updO_none, upd_eq,
 ↓reduceIte, Nat.reduceEqDiff, List.nil_append, List.cons_append, List.append_nil, List.map_cons, List.map_nil, env0_zero, env0_succ, env0_nil, Option.map_some, Option.map_none, seqQ_normal, seqQ_ret, seqQ_exit, seqQ_goto, blockQ_normal, blockQ_ret, blockQ_exit, blockQ_goto, condW_bool, loopQ_ret, loopQ_exit, loopQ_goto, endQ_ret, endQ_normal,
 lss_i, leq_i, gtr_i, geq_i, eql_i, neq_i, eql_8, neq_8, lss_8, leq_8, gtr_8, geq_8, eql_s, neq_s, eql_b, neq_b, not_b, by_bys, by_nils, load_cp1, beq_true, beq_false, Bool.not_eq_true', decide_eq_true_eq, decide_eq_false_iff_not, decide_true, decide_false,
 Int.toNat_natCast, Int.ofNat_lt, Int.ofNat_le, Int.natCast_inj, Bool.false_eq_true, Bool.true_eq_false, extPV, List.getElem?_cons_zero, List.getElem?_cons_succ, nilckPV, Int.reduceToNat, Int.reduceLE, true_and, and_true, reduceCtorEq, or_false, false_or, or_true, Option.some.injEq, exists_eq_left', Bool.not_true, Bool.not_false, ne_eq, Int.reduceEq, not_true_eq_false, not_false_eq_true, Int.reduceLT, UInt8.reduceLT, UInt8.reduceLE, UInt8.reduceToNat]
      exact fin v S k1 (by simpa [putOf, h1, h2, h3] using m1) _ rfl rfl
    · have e3 : ¬ (p : Int) < 65536 := by omega
      obtain ⟨v, S, a1, k1, m1⟩ := app [UInt8.ofNat (240 + p / 262144), UInt8.ofNat (128 + p / 4096 % 64), UInt8.ofNat (128 + p / 64 % 64), UInt8.ofNat (128 + p % 64)] (by simp)
      simp (maxSteps := 1000000) (disch := omega) only [hip, e1, e2, e3, quo32, rem32, addc32, cI8, lit8_4, freshT_eq, a1, W_seq, W_region, W_cond, W_block, W_skip, W_label, W_exit, W_goto, W_ret, WO_cons, WO_consG, WO_nil, wantedA_eq, wantB, evOp, ev_tmp, ev_const, ev_fn, WN_some, WN_none, updO_some, updO_none, upd_eq,
 ↓reduceIte, Nat.reduceEqDiff, List.nil_append, List.cons_append, List.append_nil, List.map_cons, List.map_nil, env0_zero, env0_succ, env0_nil, Option.map_some, Option.map_none, seqQ_normal, seqQ_ret, seqQ_exit, seqQ_goto, blockQ_normal, blockQ_ret, blockQ_exit, blockQ_goto, condW_bool, loopQ_ret, loopQ_exit, loopQ_goto, endQ_ret, endQ_normal,
 lss_i, leq_i, gtr_i, geq_i, eql_i, neq_i, eql_8, neq_8, lss_8, leq_8, gtr_8, geq_8, eql_s, neq_s, eql_b, neq_b, not_b, by_bys, by_nils, load_cp1, beq_true, beq_false, Bool.not_eq_true', decide_eq_true_eq, decide_eq_false_iff_not, decide_true, decide_false,
 Int.toNat_natCast, Int.ofNat_lt, Int.ofNat_le, Int.natCast_inj, Bool.false_eq_true, Bool.true_eq_false, extPV, List.getElem?_cons_zero, List.getElem?_cons_succ, nilckPV, Int.reduceToNat, Int.reduceLE, true_and, and_true, reduceCtorEq, or_false, false_or, or_true, Option.some.injEq, exists_eq_left', Bool.not_true, Bool.not_false, ne_eq, Int.reduceEq, not_true_eq_false, not_false_eq_true, Int.reduceLT, UInt8.reduceLT, UInt8.reduceLE, UInt8.reduceToNat]
      exact fin v S k1 (by simpa [putOf, h1, h2, h3] using m1) _ rfl rfl
  · simp only [decide_eq_false hpt] at hip
    have hv : putV st p = (.tup [.nils, .int .i64 20], st) := by simp [putV, hpt]
    have fin : ∀ E : Env, E 2 = .nils → E 3 = .int .i64 20 → ∃ rv, resOf E { boxes := st.boxes, toks := st.toks, loops := st.loops, low := st.boxes.length } [.tmp 2, .tmp 3] = some rv ∧ leave st { boxes := st.boxes, toks := st.toks, loops := st.loops, low := st.boxes.length } rv = putV st p := by
      intro E k2 k3
      exact ⟨.tup [.nils, .int .i64 20], by simp [resOf, rvAll, rv1, k2, k3, notTup, packRes], by rw [hv]; exact hk.leave rfl (fun _ _ => rfl)⟩
    simp (maxSteps := 1000000) (disch := omega) only [hip, W_seq, W_region, W_cond, W_block, W_skip, W_label, W_exit, W_goto, W_ret, WO_cons, WO_consG, WO_nil, wantedA_eq, wantB, evOp, ev_tmp, ev_const, ev_fn, WN_some, WN_none, updO_some, updO_none, upd_eq,
 ↓reduceIte, Nat.reduceEqDiff, List.nil_append, List.cons_append, List.append_nil, List.map_cons, List.map_nil, env0_zero, env0_succ, env0_nil, Option.map_some, Option.map_none, seqQ_normal, seqQ_ret, seqQ_exit, seqQ_goto, blockQ_normal, blockQ_ret, blockQ_exit, blockQ_goto, condW_bool, loopQ_ret, loopQ_exit, loopQ_goto, endQ_ret, endQ_normal,
 lss_i, leq_i, gtr_i, geq_i, eql_i, neq_i, eql_8, neq_8, lss_8, leq_8, gtr_8, geq_8, eql_s, neq_s, eql_b, neq_b, not_b, by_bys, by_nils, load_cp1, beq_true, beq_false, Bool.not_eq_true', decide_eq_true_eq, decide_eq_false_iff_not, decide_true, decide_false,
 Int.toNat_natCast, Int.ofNat_lt, Int.ofNat_le, Int.natCast_inj, Bool.false_eq_true, Bool.true_eq_false, extPV, List.getElem?_cons_zero, List.getElem?_cons_succ, nilckPV, Int.reduceToNat, Int.reduceLE, true_and, and_true, reduceCtorEq, or_false, false_or, or_true, Option.some.injEq, exists_eq_left', Bool.not_true, Bool.not_false, ne_eq, Int.reduceEq, not_true_eq_false, not_false_eq_true, Int.reduceLT, UInt8.reduceLT, UInt8.reduceLE, UInt8.reduceToNat]
    exact fin _ rfl rfl
end Go.Ab

/-
  The point at the front is the one whose bytes stand there.
-/
namespace Go.Ab
set_option linter.unusedVariables false
set_option linter.unusedSimpArgs false
variable {st s : St} {e : Env}

def mdN (n : Nat) : Nat := if n = 2 then 32 else if n = 3 then 16 else 8
def qN (l : List UInt8) (n : Nat) : Nat := accP l ((l.getD 0 0).toNat % mdN n) (n - 1)
def succN (l : List UInt8) (n : Nat) : Prop := pointN (qN l n) ∧ putOf (qN l n) = l.take n

theorem u8_of {a : UInt8} {k : Nat} (h : k = a.toNat) : UInt8.ofNat k = a := by rw [h]; simp
theorem of_u8 {a : UInt8} {k : Nat} (h : UInt8.ofNat k = a) (hk : k < 256) : k = a.toNat := by
  rw [← h]; simp; omega

theorem lead2 {c : Nat} (h : 192 ≤ c ∧ c < 224) : lead c = (c % 32, 2) := by unfold lead; rw [if_pos h]
theorem lead3 {c : Nat} (h : 224 ≤ c ∧ c < 240) : lead c = (c % 16, 3) := by unfold lead; rw [if_neg (by omega), if_pos h]
theorem lead4 {c : Nat} (h : 240 ≤ c ∧ c < 248) : lead c = (c % 8, 4) := by unfold lead; rw [if_neg (by omega), if_neg (by omega), if_pos h]

theorem next_of {l : List UInt8} {p n : Nat} (hne : l ≠ []) (hc : ¬ (l.getD 0 0).toNat < 128) (hl : lead (l.getD 0 0).toNat = (p, n)) (hn : n ≠ 0) (hlen : n ≤ l.length) (hcb : contB l (n - 1)) (hp : pointN (accP l p (n - 1))) (hlow : lowN n ≤ accP l p (n - 1)) :
    nextOf l = some (accP l p (n - 1), n) := by
  unfold nextOf
  rw [if_neg hne, if_neg hc, hl, if_neg]
  simp only [not_or, Classical.not_not]
  exact ⟨hn, by omega, hcb, hp, by omega⟩

theorem succ_next {l : List UInt8} {n : Nat} (hn : n = 2 ∨ n = 3 ∨ n = 4) (hlen : n ≤ l.length) (hc : ¬ (l.getD 0 0).toNat < 128) (h : succN l n) : nextOf l = some (qN l n, n) := by
  have hne : l ≠ [] := by rintro rfl; simp at hlen; omega
  obtain ⟨h1, h2⟩ := h
  rcases hn with rfl | rfl | rfl
  · match l, hlen with
    | a :: b :: r, _ =>
      simp only [qN, mdN, accP, if_true, List.getD_cons_zero, List.getD_cons_succ, Nat.reduceSub, List.take_succ_cons, List.take_zero] at h1 h2 hc ⊢
      have ha := a.toNat_lt; have hb := b.toNat_lt
      obtain ⟨q, hq⟩ : ∃ q, q = 64 * (a.toNat % 32) + b.toNat % 64 := ⟨_, rfl⟩
      rw [← hq] at h1 h2 ⊢
      unfold putOf at h2
      split at h2
      · simp at h2
      · split at h2
        · simp only [List.cons.injEq, and_true] at h2
          have e1 := of_u8 h2.1 (by omega)
          have e2 := of_u8 h2.2 (by omega)
          have := next_of (l := a :: b :: r) (p := a.toNat % 32) (n := 2) hne (by simpa using hc) (lead2 (by simp only [List.getD_cons_zero]; omega)) (by omega) (by simp) (by
            intro j hj
            match j, hj with
            | 0, _ => simp only [List.getD_cons_succ, List.getD_cons_zero]; omega) (by simpa [accP, ← hq] using h1) (by simp [accP, lowN, ← hq]; omega)
          simpa [accP, ← hq] using this
        · split at h2 <;> simp at h2
  · match l, hlen with
    | a :: b :: c :: r, _ =>
      simp only [qN, mdN, accP, if_true, List.getD_cons_zero, List.getD_cons_succ, Nat.reduceSub, Nat.reduceEqDiff, if_false, List.take_succ_cons, List.take_zero] at h1 h2 hc ⊢
      have ha := a.toNat_lt; have hb := b.toNat_lt; have hcc := c.toNat_lt
      obtain ⟨q, hq⟩ : ∃ q, q = 64 * (64 * (a.toNat % 16) + b.toNat % 64) + c.toNat % 64 := ⟨_, rfl⟩
      rw [← hq] at h1 h2 ⊢
      unfold putOf at h2
      split at h2
      · simp at h2
      · split at h2
        · simp at h2
        · split at h2
          · simp only [List.cons.injEq, and_true] at h2
            have e1 := of_u8 h2.1 (by omega)
            have e2 := of_u8 h2.2.1 (by omega)
            have e3 := of_u8 h2.2.2 (by omega)
            have := next_of (l := a :: b :: c :: r) (p := a.toNat % 16) (n := 3) hne (by simpa using hc) (lead3 (by simp only [List.getD_cons_zero]; omega)) (by omega) (by simp) (by
              intro j hj
              match j, hj with
              | 0, _ => simp only [List.getD_cons_succ, List.getD_cons_zero]; omega
              | 1, _ => simp only [List.getD_cons_succ, List.getD_cons_zero]; omega) (by simpa [accP, ← hq] using h1) (by simp [accP, lowN, ← hq]; omega)
            simpa [accP, ← hq] using this
          · simp at h2
  · match l, hlen with
    | a :: b :: c :: d :: r, _ =>
      simp only [qN, mdN, accP, if_true, List.getD_cons_zero, List.getD_cons_succ, Nat.reduceSub, Nat.reduceEqDiff, if_false, List.take_succ_cons, List.take_zero] at h1 h2 hc ⊢
      have ha := a.toNat_lt; have hb := b.toNat_lt; have hcc := c.toNat_lt; have hdd := d.toNat_lt
      obtain ⟨q, hq⟩ : ∃ q, q = 64 * (64 * (64 * (a.toNat % 8) + b.toNat % 64) + c.toNat % 64) + d.toNat % 64 := ⟨_, rfl⟩
      rw [← hq] at h1 h2 ⊢
      have hq2 : q ≤ 1114111 := by unfold pointN at h1; omega
      unfold putOf at h2
      split at h2
      · simp at h2
      · split at h2
        · simp at h2
        · split at h2
          · simp at h2
          · simp only [List.cons.injEq, and_true] at h2
            have e1 := of_u8 h2.1 (by omega)
            have e2 := of_u8 h2.2.1 (by omega)
            have e3 := of_u8 h2.2.2.1 (by omega)
            have e4 := of_u8 h2.2.2.2 (by omega)
            have := next_of (l := a :: b :: c :: d :: r) (p := a.toNat % 8) (n := 4) hne (by simpa using hc) (lead4 (by simp only [List.getD_cons_zero]; omega)) (by omega) (by simp) (by
              intro j hj
              match j, hj with
              | 0, _ => simp only [List.getD_cons_succ, List.getD_cons_zero]; omega
              | 1, _ => simp only [List.getD_cons_succ, List.getD_cons_zero]; omega
              | 2, _ => simp only [List.getD_cons_succ, List.getD_cons_zero]; omega) (by simpa [accP, ← hq] using h1) (by simp [accP, lowN, ← hq]; omega)
            simpa [accP, ← hq] using this

theorem next_succ {l : List UInt8} {v n : Nat} (hc : ¬ (l.getD 0 0).toNat < 128) (h : nextOf l = some (v, n)) : (n = 2 ∨ n = 3 ∨ n = 4) ∧ n ≤ l.length ∧ succN l n := by
  unfold nextOf at h
  split at h
  · cases h
  rename_i hne
  simp only at h
  split at h
  · cases h
  rename_i hcond
  simp only [not_or, Classical.not_not] at hcond
  obtain ⟨c1, c2, c3, c4, c5⟩ := hcond
  simp only [Option.some.injEq, Prod.mk.injEq] at h
  obtain ⟨hv, hn⟩ := h
  rw [hn] at c1 c2 c3 c4 c5 hv
  have hl : lead (l.getD 0 0).toNat = ((lead (l.getD 0 0).toNat).1, n) := by rw [← hn]
  unfold lead at hl
  split at hl
  · rename_i hr
    simp only [Prod.mk.injEq] at hl
    obtain ⟨-, rfl⟩ := hl
    rw [lead2 hr] at c4 c5
    match l, c2 with
    | a :: b :: r, _ =>
      refine ⟨.inl rfl, by simp, ?_⟩
      have hb := c3 0 (by omega)
      simp only [succN, qN, mdN, accP, lowN, if_true, List.getD_cons_zero, List.getD_cons_succ, Nat.reduceSub, List.take_succ_cons, List.take_zero] at hr hb c4 c5 ⊢
      obtain ⟨q, hq⟩ : ∃ q, q = 64 * (a.toNat % 32) + b.toNat % 64 := ⟨_, rfl⟩
      rw [← hq] at c4 c5 ⊢
      refine ⟨c4, ?_⟩
      unfold putOf
      rw [if_neg (by omega), if_pos (by omega), u8_of (a := a) (by omega), u8_of (a := b) (by omega)]
    | [], h => simp at h
    | [a], h => simp at h
  · split at hl
    · rename_i hr
      simp only [Prod.mk.injEq] at hl
      obtain ⟨-, rfl⟩ := hl
      rw [lead3 hr] at c4 c5
      match l, c2 with
      | a :: b :: c :: r, _ =>
        refine ⟨.inr (.inl rfl), by simp, ?_⟩
        have hb := c3 0 (by omega)
        have hb2 := c3 1 (by omega)
        simp only [succN, qN, mdN, accP, lowN, if_true, List.getD_cons_zero, List.getD_cons_succ, Nat.reduceSub, Nat.reduceEqDiff, if_false, List.take_succ_cons, List.take_zero] at hr hb hb2 c4 c5 ⊢
        obtain ⟨q, hq⟩ : ∃ q, q = 64 * (64 * (a.toNat % 16) + b.toNat % 64) + c.toNat % 64 := ⟨_, rfl⟩
        rw [← hq] at c4 c5 ⊢
        refine ⟨c4, ?_⟩
        unfold putOf
        rw [if_neg (by omega), if_neg (by omega), if_pos (by omega), u8_of (a := a) (by omega), u8_of (a := b) (by omega), u8_of (a := c) (by omega)]
      | [], h => simp at h
      | [a], h => simp at h
      | [a, b], h => simp at h
    · split at hl
      · rename_i hr
        simp only [Prod.mk.injEq] at hl
        obtain ⟨-, rfl⟩ := hl
        rw [lead4 hr] at c4 c5
        match l, c2 with
        | a :: b :: c :: d :: r, _ =>
          refine ⟨.inr (.inr rfl), by simp, ?_⟩
          have hb := c3 0 (by omega)
          have hb2 := c3 1 (by omega)
          have hb3 := c3 2 (by omega)
          simp only [succN, qN, mdN, accP, lowN, if_true, List.getD_cons_zero, List.getD_cons_succ, Nat.reduceSub, Nat.reduceEqDiff, if_false, List.take_succ_cons, List.take_zero] at hr hb hb2 hb3 c4 c5 ⊢
          obtain ⟨q, hq⟩ : ∃ q, q = 64 * (64 * (64 * (a.toNat % 8) + b.toNat % 64) + c.toNat % 64) + d.toNat % 64 := ⟨_, rfl⟩
          rw [← hq] at c4 c5 ⊢
          refine ⟨c4, ?_⟩
          unfold putOf
          rw [if_neg (by omega), if_neg (by omega), if_neg (by omega), u8_of (a := a) (by omega), u8_of (a := b) (by omega), u8_of (a := c) (by omega), u8_of (a := d) (by omega)]
        | [], h => simp at h
        | [a], h => simp at h
        | [a, b], h => simp at h
        | [a, b, c], h => simp at h
      · simp only [Prod.mk.injEq] at hl
        exact absurd hl.2.symm c1
end Go.Ab

/-
  The point at a text's front: the document's function.
-/
namespace Go.Ab
set_option linter.unusedVariables false
set_option linter.unusedSimpArgs false
variable {st s : St} {e : Env}

theorem mul32 {ek : EK} {a : Nat} (h : 64 * a < 2147483648) : binPV .mul ek (.int .i32 64) (.int .i32 (a : Int)) = some (.int .i32 ((64 * a : Nat) : Int)) := by
  simp only [binPV, binI, reduceIte, Option.some.injEq]
  rw [wrap32 (by omega) (by omega)]
  congr 1

set_option maxHeartbeats 1000000 in
theorem rNext_spec {x : PV} {l : List UInt8} (hx : x.by = some l) (hl : l.length ≤ 100000000) : call prog (.fn 75 []) [x] st = some (nextV l, st) := by
  refine call_of_W prog_75 ?_
  unfold F_posthornref02_Next; dsimp only
  by_cases hne : l = []
  · have e1 : decide ((l.length : Int) = 0) = true := by simp [hne]
    simp (maxSteps := 1000000) (disch := omega) only [len_by hx, e1, W_seq, W_region, W_cond, W_block, W_skip, W_label, W_exit, W_goto, W_ret, WO_cons, WO_consG, WO_nil, wantedA_eq, wantB, evOp, ev_tmp, ev_const, ev_fn, WN_some, WN_none, updO_some, updO_none, upd_eq,
 ↓reduceIte, Nat.reduceEqDiff, List.nil_append, List.cons_append, List.append_nil, List.map_cons, List.map_nil, env0_zero, env0_succ, env0_nil, Option.map_some, Option.map_none, seqQ_normal, seqQ_ret, seqQ_exit, seqQ_goto, blockQ_normal, blockQ_ret, blockQ_exit, blockQ_goto, condW_bool, loopQ_ret, loopQ_exit, loopQ_goto, endQ_ret, endQ_normal,
 lss_i, leq_i, gtr_i, geq_i, eql_i, neq_i, eql_8, neq_8, lss_8, leq_8, gtr_8, geq_8, eql_s, neq_s, eql_b, neq_b, not_b, by_bys, by_nils, load_cp1, beq_true, beq_false, Bool.not_eq_true', decide_eq_true_eq, decide_eq_false_iff_not, decide_true, decide_false,
 Int.toNat_natCast, Int.ofNat_lt, Int.ofNat_le, Int.natCast_inj, Bool.false_eq_true, Bool.true_eq_false, extPV, List.getElem?_cons_zero, List.getElem?_cons_succ, nilckPV, Int.reduceToNat, Int.reduceLE, true_and, and_true, reduceCtorEq, or_false, false_or, or_true, Option.some.injEq, exists_eq_left', Bool.not_true, Bool.not_false, ne_eq, Int.reduceEq, not_true_eq_false, not_false_eq_true, Int.reduceLT, UInt8.reduceLT, UInt8.reduceLE, UInt8.reduceToNat]
    exact ⟨.tup [.int .i32 0, .int .i64 0, .int .i64 42], rfl, by
      rw [show nextV l = .tup [.int .i32 0, .int .i64 0, .int .i64 42] by simp [nextV, nextOf, hne]]
      exact Kept.start.leave rfl (fun _ _ => rfl)⟩
  have hlen : 0 < l.length := List.length_pos_iff.2 hne
  have e1 : ¬ ((l.length : Int) = 0) := by omega
  obtain ⟨c, hc⟩ : ∃ c, c = l.getD 0 0 := ⟨_, rfl⟩
  have hi0 : iaddrPV 1 x (.int .i64 0) = some (.cp [.b8 c]) := by rw [hc]; exact iaddr_by hx (by omega) (by simpa using hlen)
  by_cases h128 : c < 128
  · have h128' : c.toNat < 128 := by rw [UInt8.lt_iff_toNat_lt] at h128; simpa using h128
    simp (maxSteps := 1000000) (disch := omega) only [len_by hx, e1, hi0, load_cp1, h128, cI32, W_seq, W_region, W_cond, W_block, W_skip, W_label, W_exit, W_goto, W_ret, WO_cons, WO_consG, WO_nil, wantedA_eq, wantB, evOp, ev_tmp, ev_const, ev_fn, WN_some, WN_none, updO_some, updO_none, upd_eq,
 ↓reduceIte, Nat.reduceEqDiff, List.nil_append, List.cons_append, List.append_nil, List.map_cons, List.map_nil, env0_zero, env0_succ, env0_nil, Option.map_some, Option.map_none, seqQ_normal, seqQ_ret, seqQ_exit, seqQ_goto, blockQ_normal, blockQ_ret, blockQ_exit, blockQ_goto, condW_bool, loopQ_ret, loopQ_exit, loopQ_goto, endQ_ret, endQ_normal,
 lss_i, leq_i, gtr_i, geq_i, eql_i, neq_i, eql_8, neq_8, lss_8, leq_8, gtr_8, geq_8, eql_s, neq_s, eql_b, neq_b, not_b, by_bys, by_nils, load_cp1, beq_true, beq_false, Bool.not_eq_true', decide_eq_true_eq, decide_eq_false_iff_not, decide_true, decide_false,
 Int.toNat_natCast, Int.ofNat_lt, Int.ofNat_le, Int.natCast_inj, Bool.false_eq_true, Bool.true_eq_false, extPV, List.getElem?_cons_zero, List.getElem?_cons_succ, nilckPV, Int.reduceToNat, Int.reduceLE, true_and, and_true, reduceCtorEq, or_false, false_or, or_true, Option.some.injEq, exists_eq_left', Bool.not_true, Bool.not_false, ne_eq, Int.reduceEq, not_true_eq_false, not_false_eq_true, Int.reduceLT, UInt8.reduceLT, UInt8.reduceLE, UInt8.reduceToNat]
    exact ⟨.tup [.int .i32 (c.toNat : Int), .int .i64 1, .int .i64 0], rfl, by
      rw [nextV_some (p := c.toNat) (n := 1) (by unfold nextOf; rw [if_neg hne, ← hc, if_pos h128'])]
      exact Kept.start.leave rfl (fun _ _ => rfl)⟩
  have h128' : ¬ (l.getD 0 0).toNat < 128 := by rw [← hc]; rw [UInt8.lt_iff_toNat_lt] at h128; simpa using h128
  simp (maxSteps := 1000000) (disch := omega) only [len_by hx, e1, hi0, load_cp1, h128, W_seq, W_region, W_cond, W_block, W_skip, W_label, W_exit, W_goto, W_ret, WO_cons, WO_consG, WO_nil, wantedA_eq, wantB, evOp, ev_tmp, ev_const, ev_fn, WN_some, WN_none, updO_some, updO_none, upd_eq,
 ↓reduceIte, Nat.reduceEqDiff, List.nil_append, List.cons_append, List.append_nil, List.map_cons, List.map_nil, env0_zero, env0_succ, env0_nil, Option.map_some, Option.map_none, seqQ_normal, seqQ_ret, seqQ_exit, seqQ_goto, blockQ_normal, blockQ_ret, blockQ_exit, blockQ_goto, condW_bool, loopQ_ret, loopQ_exit, loopQ_goto, endQ_ret, endQ_normal,
 lss_i, leq_i, gtr_i, geq_i, eql_i, neq_i, eql_8, neq_8, lss_8, leq_8, gtr_8, geq_8, eql_s, neq_s, eql_b, neq_b, not_b, by_bys, by_nils, load_cp1, beq_true, beq_false, Bool.not_eq_true', decide_eq_true_eq, decide_eq_false_iff_not, decide_true, decide_false,
 Int.toNat_natCast, Int.ofNat_lt, Int.ofNat_le, Int.natCast_inj, Bool.false_eq_true, Bool.true_eq_false, extPV, List.getElem?_cons_zero, List.getElem?_cons_succ, nilckPV, Int.reduceToNat, Int.reduceLE, true_and, and_true, reduceCtorEq, or_false, false_or, or_true, Option.some.injEq, exists_eq_left', Bool.not_true, Bool.not_false, ne_eq, Int.reduceEq, not_true_eq_false, not_false_eq_true, Int.reduceLT, UInt8.reduceLT, UInt8.reduceLE, UInt8.reduceToNat]
  obtain ⟨I, hI⟩ : ∃ I : Nat → Env → St → Prop, I = fun m E S => ∃ n, m = 5 - n ∧ 2 ≤ n ∧ n ≤ 5 ∧ Kept st S ∧ (∀ k, 2 ≤ k → k < n → k ≤ l.length → ¬ succN l k) ∧ E 0 = x ∧ E 5 = .int .i64 (n : Int) := ⟨_, rfl⟩
  refine W_loop I ?_ (n := 3) (by
    rw [hI]
    exact ⟨2, rfl, by omega, by omega, Kept.start, fun k h1 h2 => by omega, rfl, rfl⟩)
  intro m e S hh
  rw [hI] at hh
  obtain ⟨n, rfl, hn2, hn5, hk, hall, h0, h5⟩ := hh
  by_cases hr : n ≤ 4 ∧ n ≤ l.length
  · obtain ⟨hn4, hnl⟩ := hr
    have r1 : (n : Int) ≤ 4 := by omega
    have hn : n = 2 ∨ n = 3 ∨ n = 4 := by omega
    refine W_cut (fun E S => Kept st S ∧ E 0 = x ∧ E 5 = .int .i64 (n : Int)) ?_ ?_
    · simp (maxSteps := 1000000) (disch := omega) only [h0, h5, r1, len_by hx, hnl, W_seq, W_region, W_cond, W_block, W_skip, W_label, W_exit, W_goto, W_ret, WO_cons, WO_consG, WO_nil, wantedA_eq, wantB, evOp, ev_tmp, ev_const, ev_fn, WN_some, WN_none, updO_some, updO_none, upd_eq,
 ↓reduceIte, Nat.reduceEqDiff, List.nil_append, List.cons_append, List.append_nil, List.map_cons, List.map_nil, env0_zero, env0_succ, env0_nil, Option.map_some, Option.map_none, seqQ_normal, seqQ_ret, seqQ_exit, seqQ_goto, blockQ_normal, blockQ_ret, blockQ_exit, blockQ_goto, condW_bool, loopQ_ret, loopQ_exit, loopQ_goto, endQ_ret, endQ_normal,
 lss_i, leq_i, gtr_i, geq_i, eql_i, neq_i, eql_8, neq_8, lss_8, leq_8, gtr_8, geq_8, eql_s, neq_s, eql_b, neq_b, not_b, by_bys, by_nils, load_cp1, beq_true, beq_false, Bool.not_eq_true', decide_eq_true_eq, decide_eq_false_iff_not, decide_true, decide_false,
 Int.toNat_natCast, Int.ofNat_lt, Int.ofNat_le, Int.natCast_inj, Bool.false_eq_true, Bool.true_eq_false, extPV, List.getElem?_cons_zero, List.getElem?_cons_succ, nilckPV, Int.reduceToNat, Int.reduceLE, true_and, and_true, reduceCtorEq, or_false, false_or, or_true, Option.some.injEq, exists_eq_left', Bool.not_true, Bool.not_false, ne_eq, Int.reduceEq, not_true_eq_false, not_false_eq_true, Int.reduceLT, UInt8.reduceLT, UInt8.reduceLE, UInt8.reduceToNat]
      exact hk
    clear hk h0 h5
    rintro e S ⟨hk, h0, h5⟩
    rw [W_seq, W_block]
    refine W_cut (fun E S => Kept st S ∧ E 0 = x ∧ E 5 = .int .i64 (n : Int) ∧ E 6 = .int .i32 ((c.toNat % 32 : Nat) : Int)) ?_ ?_
    · simp (maxSteps := 1000000) (disch := omega) only [h0, h5, hi0, load_cp1, cI32, rem32, W_seq, W_region, W_cond, W_block, W_skip, W_label, W_exit, W_goto, W_ret, WO_cons, WO_consG, WO_nil, wantedA_eq, wantB, evOp, ev_tmp, ev_const, ev_fn, WN_some, WN_none, updO_some, updO_none, upd_eq,
 ↓reduceIte, Nat.reduceEqDiff, List.nil_append, List.cons_append, List.append_nil, List.map_cons, List.map_nil, env0_zero, env0_succ, env0_nil, Option.map_some, Option.map_none, seqQ_normal, seqQ_ret, seqQ_exit, seqQ_goto, blockQ_normal, blockQ_ret, blockQ_exit, blockQ_goto, condW_bool, loopQ_ret, loopQ_exit, loopQ_goto, endQ_ret, endQ_normal,
 lss_i, leq_i, gtr_i, geq_i, eql_i, neq_i, eql_8, neq_8, lss_8, leq_8, gtr_8, geq_8, eql_s, neq_s, eql_b, neq_b, not_b, by_bys, by_nils, load_cp1, beq_true, beq_false, Bool.not_eq_true', decide_eq_true_eq, decide_eq_false_iff_not, decide_true, decide_false,
 Int.toNat_natCast, Int.ofNat_lt, Int.ofNat_le, Int.natCast_inj, Bool.false_eq_true, Bool.true_eq_false, extPV, List.getElem?_cons_zero, List.getElem?_cons_succ, nilckPV, Int.reduceToNat, Int.reduceLE, true_and, and_true, reduceCtorEq, or_false, false_or, or_true, Option.some.injEq, exists_eq_left', Bool.not_true, Bool.not_false, ne_eq, Int.reduceEq, not_true_eq_false, not_false_eq_true, Int.reduceLT, UInt8.reduceLT, UInt8.reduceLE, UInt8.reduceToNat]
      exact hk
    clear hk h0 h5
    rintro e S ⟨hk, h0, h5, h6⟩
    refine W_cut (fun E S => Kept st S ∧ E 0 = x ∧ E 5 = .int .i64 (n : Int) ∧ E 6 = .int .i32 ((if n = 3 then c.toNat % 16 else c.toNat % 32 : Nat) : Int)) ?_ ?_
    · by_cases q : n = 3
      · have d3 : decide ((n : Int) = 3) = true := by simp [q]
        simp (maxSteps := 1000000) (disch := omega) only [h0, h5, h6, d3, hi0, load_cp1, cI32, rem32, W_seq, W_region, W_cond, W_block, W_skip, W_label, W_exit, W_goto, W_ret, WO_cons, WO_consG, WO_nil, wantedA_eq, wantB, evOp, ev_tmp, ev_const, ev_fn, WN_some, WN_none, updO_some, updO_none, upd_eq,
 ↓reduceIte, Nat.reduceEqDiff, List.nil_append, List.cons_append, List.append_nil, List.map_cons, List.map_nil, env0_zero, env0_succ, env0_nil, Option.map_some, Option.map_none, seqQ_normal, seqQ_ret, seqQ_exit, seqQ_goto, blockQ_normal, blockQ_ret, blockQ_exit, blockQ_goto, condW_bool, loopQ_ret, loopQ_exit, loopQ_goto, endQ_ret, endQ_normal,
 lss_i, leq_i, gtr_i, geq_i, eql_i, neq_i, eql_8, neq_8, lss_8, leq_8, gtr_8, geq_8, eql_s, neq_s, eql_b, neq_b, not_b, by_bys, by_nils, load_cp1, beq_true, beq_false, Bool.not_eq_true', decide_eq_true_eq, decide_eq_false_iff_not, decide_true, decide_false,
 Int.toNat_natCast, Int.ofNat_lt, Int.ofNat_le, Int.natCast_inj, Bool.false_eq_true, Bool.true_eq_false, extPV, List.getElem?_cons_zero, List.getElem?_cons_succ, nilckPV, Int.reduceToNat, Int.reduceLE, true_and, and_true, reduceCtorEq, or_false, false_or, or_true, Option.some.injEq, exists_eq_left', Bool.not_true, Bool.not_false, ne_eq, Int.reduceEq, not_true_eq_false, not_false_eq_true, Int.reduceLT, UInt8.reduceLT, UInt8.reduceLE, UInt8.reduceToNat]
        exact ⟨hk, by simp [q]⟩
      · have d3 : ¬ (n : Int) = 3 := by omega
        simp (maxSteps := 1000000) (disch := omega) only [h0, h5, h6, d3, W_seq, W_region, W_cond, W_block, W_skip, W_label, W_exit, W_goto, W_ret, WO_cons, WO_consG, WO_nil, wantedA_eq, wantB, evOp, ev_tmp, ev_const, ev_fn, WN_some, WN_none, updO_some, updO_none, upd_eq,
 ↓reduceIte, Nat.reduceEqDiff, List.nil_append, List.cons_append, List.append_nil, List.map_cons, List.map_nil, env0_zero, env0_succ, env0_nil, Option.map_some, Option.map_none, seqQ_normal, seqQ_ret, seqQ_exit, seqQ_goto, blockQ_normal, blockQ_ret, blockQ_exit, blockQ_goto, condW_bool, loopQ_ret, loopQ_exit, loopQ_goto, endQ_ret, endQ_normal,
 lss_i, leq_i, gtr_i, geq_i, eql_i, neq_i, eql_8, neq_8, lss_8, leq_8, gtr_8, geq_8, eql_s, neq_s, eql_b, neq_b, not_b, by_bys, by_nils, load_cp1, beq_true, beq_false, Bool.not_eq_true', decide_eq_true_eq, decide_eq_false_iff_not, decide_true, decide_false,
 Int.toNat_natCast, Int.ofNat_lt, Int.ofNat_le, Int.natCast_inj, Bool.false_eq_true, Bool.true_eq_false, extPV, List.getElem?_cons_zero, List.getElem?_cons_succ, nilckPV, Int.reduceToNat, Int.reduceLE, true_and, and_true, reduceCtorEq, or_false, false_or, or_true, Option.some.injEq, exists_eq_left', Bool.not_true, Bool.not_false, ne_eq, Int.reduceEq, not_true_eq_false, not_false_eq_true, Int.reduceLT, UInt8.reduceLT, UInt8.reduceLE, UInt8.reduceToNat]
        exact ⟨hk, by simp [q]⟩
    clear hk h0 h5 h6
    rintro e S ⟨hk, h0, h5, h6⟩
    refine W_cut (fun E S => Kept st S ∧ E 0 = x ∧ E 5 = .int .i64 (n : Int) ∧ E 6 = .int .i32 ((c.toNat % mdN n : Nat) : Int)) ?_ ?_
    · by_cases q : n = 4
      · have d4 : decide ((n : Int) = 4) = true := by simp [q]
        simp (maxSteps := 1000000) (disch := omega) only [h0, h5, h6, d4, hi0, load_cp1, cI32, rem32, W_seq, W_region, W_cond, W_block, W_skip, W_label, W_exit, W_goto, W_ret, WO_cons, WO_consG, WO_nil, wantedA_eq, wantB, evOp, ev_tmp, ev_const, ev_fn, WN_some, WN_none, updO_some, updO_none, upd_eq,
 ↓reduceIte, Nat.reduceEqDiff, List.nil_append, List.cons_append, List.append_nil, List.map_cons, List.map_nil, env0_zero, env0_succ, env0_nil, Option.map_some, Option.map_none, seqQ_normal, seqQ_ret, seqQ_exit, seqQ_goto, blockQ_normal, blockQ_ret, blockQ_exit, blockQ_goto, condW_bool, loopQ_ret, loopQ_exit, loopQ_goto, endQ_ret, endQ_normal,
 lss_i, leq_i, gtr_i, geq_i, eql_i, neq_i, eql_8, neq_8, lss_8, leq_8, gtr_8, geq_8, eql_s, neq_s, eql_b, neq_b, not_b, by_bys, by_nils, load_cp1, beq_true, beq_false, Bool.not_eq_true', decide_eq_true_eq, decide_eq_false_iff_not, decide_true, decide_false,
 Int.toNat_natCast, Int.ofNat_lt, Int.ofNat_le, Int.natCast_inj, Bool.false_eq_true, Bool.true_eq_false, extPV, List.getElem?_cons_zero, List.getElem?_cons_succ, nilckPV, Int.reduceToNat, Int.reduceLE, true_and, and_true, reduceCtorEq, or_false, false_or, or_true, Option.some.injEq, exists_eq_left', Bool.not_true, Bool.not_false, ne_eq, Int.reduceEq, not_true_eq_false, not_false_eq_true, Int.reduceLT, UInt8.reduceLT, UInt8.reduceLE, UInt8.reduceToNat]
        exact ⟨hk, by simp [q, mdN]⟩
      · have d4 : ¬ (n : Int) = 4 := by omega
        simp (maxSteps := 1000000) (disch := omega) only [h0, h5, h6, d4, W_seq, W_region, W_cond, W_block, W_skip, W_label, W_exit, W_goto, W_ret, WO_cons, WO_consG, WO_nil, wantedA_eq, wantB, evOp, ev_tmp, ev_const, ev_fn, WN_some, WN_none, updO_some, updO_none, upd_eq,
 ↓reduceIte, Nat.reduceEqDiff, List.nil_append, List.cons_append, List.append_nil, List.map_cons, List.map_nil, env0_zero, env0_succ, env0_nil, Option.map_some, Option.map_none, seqQ_normal, seqQ_ret, seqQ_exit, seqQ_goto, blockQ_normal, blockQ_ret, blockQ_exit, blockQ_goto, condW_bool, loopQ_ret, loopQ_exit, loopQ_goto, endQ_ret, endQ_normal,
 lss_i, leq_i, gtr_i, geq_i, eql_i, neq_i, eql_8, neq_8, lss_8, leq_8, gtr_8, geq_8, eql_s, neq_s, eql_b, neq_b, not_b, by_bys, by_nils, load_cp1, beq_true, beq_false, Bool.not_eq_true', decide_eq_true_eq, decide_eq_false_iff_not, decide_true, decide_false,
 Int.toNat_natCast, Int.ofNat_lt, Int.ofNat_le, Int.natCast_inj, Bool.false_eq_true, Bool.true_eq_false, extPV, List.getElem?_cons_zero, List.getElem?_cons_succ, nilckPV, Int.reduceToNat, Int.reduceLE, true_and, and_true, reduceCtorEq, or_false, false_or, or_true, Option.some.injEq, exists_eq_left', Bool.not_true, Bool.not_false, ne_eq, Int.reduceEq, not_true_eq_false, not_false_eq_true, Int.reduceLT, UInt8.reduceLT, UInt8.reduceLE, UInt8.reduceToNat]
        refine ⟨hk, ?_⟩
        by_cases q3 : n = 3
        · simp [mdN, q3]
        · have q2 : n = 2 := by omega
          simp [mdN, q2]
    clear hk h0 h5 h6
    rintro e S ⟨hk, h0, h5, h6⟩
    obtain ⟨p, hp⟩ : ∃ p, p = c.toNat % mdN n := ⟨_, rfl⟩
    rw [← hp] at h6
    have hp32 : p < 32 := by
      rw [hp]; unfold mdN
      split
      · omega
      · split <;> omega
    have hacc : ∀ k, k ≤ 3 → accP l p k < 8388609 := by
      intro k hk
      have := accP_lt (l := l) (p := p) k
      have h64 : (p + 1) * 64 ^ k ≤ 32 * 64 ^ 3 := Nat.mul_le_mul (by omega) (Nat.pow_le_pow_right (by omega) hk)
      have : 32 * 64 ^ 3 = 8388608 := by decide
      omega
    have hq : qN l n = accP l p (n - 1) := by unfold qN; rw [← hc, ← hp]
    refine W_cut (fun E S => Kept st S ∧ E 0 = x ∧ E 5 = .int .i64 (n : Int) ∧ E 6 = .int .i32 ((accP l p (n - 1) : Nat) : Int)) ?_ ?_
    · simp (maxSteps := 1000000) (disch := omega) only [h0, h5, h6, W_seq, W_region, W_cond, W_block, W_skip, W_label, W_exit, W_goto, W_ret, WO_cons, WO_consG, WO_nil, wantedA_eq, wantB, evOp, ev_tmp, ev_const, ev_fn, WN_some, WN_none, updO_some, updO_none, upd_eq,
 ↓reduceIte, Nat.reduceEqDiff, List.nil_append, List.cons_append, List.append_nil, List.map_cons, List.map_nil, env0_zero, env0_succ, env0_nil, Option.map_some, Option.map_none, seqQ_normal, seqQ_ret, seqQ_exit, seqQ_goto, blockQ_normal, blockQ_ret, blockQ_exit, blockQ_goto, condW_bool, loopQ_ret, loopQ_exit, loopQ_goto, endQ_ret, endQ_normal,
 lss_i, leq_i, gtr_i, geq_i, eql_i, neq_i, eql_8, neq_8, lss_8, leq_8, gtr_8, geq_8, eql_s, neq_s, eql_b, neq_b, not_b, by_bys, by_nils, load_cp1, beq_true, beq_false, Bool.not_eq_true', decide_eq_true_eq, decide_eq_false_iff_not, decide_true, decide_false,
 Int.toNat_natCast, Int.ofNat_lt, Int.ofNat_le, Int.natCast_inj, Bool.false_eq_true, Bool.true_eq_false, extPV, List.getElem?_cons_zero, List.getElem?_cons_succ, nilckPV, Int.reduceToNat, Int.reduceLE, true_and, and_true, reduceCtorEq, or_false, false_or, or_true, Option.some.injEq, exists_eq_left', Bool.not_true, Bool.not_false, ne_eq, Int.reduceEq, not_true_eq_false, not_false_eq_true, Int.reduceLT, UInt8.reduceLT, UInt8.reduceLE, UInt8.reduceToNat]
      obtain ⟨II, hII⟩ : ∃ II : Nat → Env → St → Prop, II = fun m E S => ∃ k, m = n - 1 - k ∧ k ≤ n - 1 ∧ Kept st S ∧ E 0 = x ∧ E 5 = .int .i64 (n : Int) ∧ E 6 = .int .i32 ((accP l p k : Nat) : Int) ∧ E 7 = .int .i64 ((k + 1 : Nat) : Int) := ⟨_, rfl⟩
      refine W_loop II ?_ (n := n - 1) (by
        rw [hII]
        exact ⟨0, rfl, by omega, hk, h0, h5, h6, rfl⟩)
      clear hk h0 h5 h6
      intro m E S hh
      rw [hII] at hh
      obtain ⟨k, rfl, hk1, hk, h0, h5, h6, h7⟩ := hh
      by_cases hlt : k + 1 < n
      · obtain ⟨d, hd⟩ : ∃ d, d = l.getD (k + 1) 0 := ⟨_, rfl⟩
        have hid : iaddrPV 1 x (.int .i64 ((k + 1 : Nat) : Int)) = some (.cp [.b8 d]) := by
          rw [hd]; exact iaddr_by hx (by omega) (by rw [Int.toNat_natCast]; omega)
        have ha := hacc k (by omega)
        have hstep : accP l p (k + 1) = 64 * accP l p k + d.toNat % 64 := by rw [hd]; rfl
        simp (maxSteps := 1000000) (disch := omega) only [h0, h5, h6, h7, hlt, hid, load_cp1, cI32, rem32, mul32, addc32, add_n, W_seq, W_region, W_cond, W_block, W_skip, W_label, W_exit, W_goto, W_ret, WO_cons, WO_consG, WO_nil, wantedA_eq, wantB, evOp, ev_tmp, ev_const, ev_fn, WN_some, WN_none, updO_some, updO_none, upd_eq,
 ↓reduceIte, Nat.reduceEqDiff, List.nil_append, List.cons_append, List.append_nil, List.map_cons, List.map_nil, env0_zero, env0_succ, env0_nil, Option.map_some, Option.map_none, seqQ_normal, seqQ_ret, seqQ_exit, seqQ_goto, blockQ_normal, blockQ_ret, blockQ_exit, blockQ_goto, condW_bool, loopQ_ret, loopQ_exit, loopQ_goto, endQ_ret, endQ_normal,
 lss_i, leq_i, gtr_i, geq_i, eql_i, neq_i, eql_8, neq_8, lss_8, leq_8, gtr_8, geq_8, eql_s, neq_s, eql_b, neq_b, not_b, by_bys, by_nils, load_cp1, beq_true, beq_false, Bool.not_eq_true', decide_eq_true_eq, decide_eq_false_iff_not, decide_true, decide_false,
 Int.toNat_natCast, Int.ofNat_lt, Int.ofNat_le, Int.natCast_inj, Bool.false_eq_true, Bool.true_eq_false, extPV, List.getElem?_cons_zero, List.getElem?_cons_succ, nilckPV, Int.reduceToNat, Int.reduceLE, true_and, and_true, reduceCtorEq, or_false, false_or, or_true, Option.some.injEq, exists_eq_left', Bool.not_true, Bool.not_false, ne_eq, Int.reduceEq, not_true_eq_false, not_false_eq_true, Int.reduceLT, UInt8.reduceLT, UInt8.reduceLE, UInt8.reduceToNat]
        refine loopQ_intro (m := n - 1 - (k + 1)) (by omega) ?_
        rw [hII]
        exact ⟨k + 1, rfl, by omega, hk, h0, h5, by rw [hstep]; rfl, rfl⟩
      · obtain rfl : k = n - 1 := by omega
        simp (maxSteps := 1000000) (disch := omega) only [h0, h5, h6, h7, hlt, W_seq, W_region, W_cond, W_block, W_skip, W_label, W_exit, W_goto, W_ret, WO_cons, WO_consG, WO_nil, wantedA_eq, wantB, evOp, ev_tmp, ev_const, ev_fn, WN_some, WN_none, updO_some, updO_none, upd_eq,
 ↓reduceIte, Nat.reduceEqDiff, List.nil_append, List.cons_append, List.append_nil, List.map_cons, List.map_nil, env0_zero, env0_succ, env0_nil, Option.map_some, Option.map_none, seqQ_normal, seqQ_ret, seqQ_exit, seqQ_goto, blockQ_normal, blockQ_ret, blockQ_exit, blockQ_goto, condW_bool, loopQ_ret, loopQ_exit, loopQ_goto, endQ_ret, endQ_normal,
 lss_i, leq_i, gtr_i, geq_i, eql_i, neq_i, eql_8, neq_8, lss_8, leq_8, gtr_8, geq_8, eql_s, neq_s, eql_b, neq_b, not_b, by_bys, by_nils, load_cp1, beq_true, beq_false, Bool.not_eq_true', decide_eq_true_eq, decide_eq_false_iff_not, decide_true, decide_false,
 Int.toNat_natCast, Int.ofNat_lt, Int.ofNat_le, Int.natCast_inj, Bool.false_eq_true, Bool.true_eq_false, extPV, List.getElem?_cons_zero, List.getElem?_cons_succ, nilckPV, Int.reduceToNat, Int.reduceLE, true_and, and_true, reduceCtorEq, or_false, false_or, or_true, Option.some.injEq, exists_eq_left', Bool.not_true, Bool.not_false, ne_eq, Int.reduceEq, not_true_eq_false, not_false_eq_true, Int.reduceLT, UInt8.reduceLT, UInt8.reduceLE, UInt8.reduceToNat]
        exact hk
    clear hk h0 h5 h6
    rintro e S ⟨hk, h0, h5, h6⟩
    rw [← hq] at h6
    have hqb : qN l n < 2147483648 := by rw [hq]; have := hacc (n - 1) (by omega); omega
    have hput := Put_spec (st := S) hqb
    have hnext : ¬ succN l n → ∀ (E : Env) (S : St), Kept st S → E 0 = x → E 5 = .int .i64 ((n + 1 : Nat) : Int) → I (5 - (n + 1)) E S := by
      intro hs E S k1 k2 k3
      rw [hI]
      refine ⟨n + 1, rfl, by omega, by omega, k1, fun k j1 j2 j3 => ?_, k2, k3⟩
      by_cases hkn : k = n
      · subst hkn; exact hs
      · exact hall k j1 (by omega) j3
    by_cases hpt : pointN (qN l n)
    · have hput' : call prog (.fn 81 []) [.int .i32 ((qN l n : Nat) : Int)] S = some (.tup [.bys (.own S.toks.length) (putOf (qN l n)), .int .i64 0], S.tok1) := by
        rw [hput]; simp [putV, hpt]
      have hsl := slc_hi (k := .i64) (c := (n : Int)) hx (by omega) (by simpa using hnl)
      rw [Int.toNat_natCast] at hsl
      by_cases hs : putOf (qN l n) = l.take n
      · have hyes := succ_next hn hnl h128' ⟨hpt, hs⟩
        simp (maxSteps := 1000000) (disch := omega) only [h0, h5, h6, hput', b2s_by by_bys, hsl, b2s_by (takeB_by hx), eq_true hs, W_seq, W_region, W_cond, W_block, W_skip, W_label, W_exit, W_goto, W_ret, WO_cons, WO_consG, WO_nil, wantedA_eq, wantB, evOp, ev_tmp, ev_const, ev_fn, WN_some, WN_none, updO_some, updO_none, upd_eq,
 ↓reduceIte, Nat.reduceEqDiff, List.nil_append, List.cons_append, List.append_nil, List.map_cons, List.map_nil, env0_zero, env0_succ, env0_nil, Option.map_some, Option.map_none, seqQ_normal, seqQ_ret, seqQ_exit, seqQ_goto, blockQ_normal, blockQ_ret, blockQ_exit, blockQ_goto, condW_bool, loopQ_ret, loopQ_exit, loopQ_goto, endQ_ret, endQ_normal,
 lss_i, leq_i, gtr_i, geq_i, eql_i, neq_i, eql_8, neq_8, lss_8, leq_8, gtr_8, geq_8, eql_s, neq_s, eql_b, neq_b, not_b, by_bys, by_nils, load_cp1, beq_true, beq_false, Bool.not_eq_true', decide_eq_true_eq, decide_eq_false_iff_not, decide_true, decide_false,
 Int.toNat_natCast, Int.ofNat_lt, Int.ofNat_le, Int.natCast_inj, Bool.false_eq_true, Bool.true_eq_false, extPV, List.getElem?_cons_zero, List.getElem?_cons_succ, nilckPV, Int.reduceToNat, Int.reduceLE, true_and, and_true, reduceCtorEq, or_false, false_or, or_true, Option.some.injEq, exists_eq_left', Bool.not_true, Bool.not_false, ne_eq, Int.reduceEq, not_true_eq_false, not_false_eq_true, Int.reduceLT, UInt8.reduceLT, UInt8.reduceLE, UInt8.reduceToNat]
        refine ⟨.tup [.int .i32 ((qN l n : Nat) : Int), .int .i64 (n : Int), .int .i64 0], rfl, ?_⟩
        rw [nextV_some hyes]
        exact hk.tok1.leave rfl (fun _ _ => rfl)
      · simp (maxSteps := 1000000) (disch := omega) only [h0, h5, h6, hput', b2s_by by_bys, hsl, b2s_by (takeB_by hx), hs, add_n, W_seq, W_region, W_cond, W_block, W_skip, W_label, W_exit, W_goto, W_ret, WO_cons, WO_consG, WO_nil, wantedA_eq, wantB, evOp, ev_tmp, ev_const, ev_fn, WN_some, WN_none, updO_some, updO_none, upd_eq,
 ↓reduceIte, Nat.reduceEqDiff, List.nil_append, List.cons_append, List.append_nil, List.map_cons, List.map_nil, env0_zero, env0_succ, env0_nil, Option.map_some, Option.map_none, seqQ_normal, seqQ_ret, seqQ_exit, seqQ_goto, blockQ_normal, blockQ_ret, blockQ_exit, blockQ_goto, condW_bool, loopQ_ret, loopQ_exit, loopQ_goto, endQ_ret, endQ_normal,
 lss_i, leq_i, gtr_i, geq_i, eql_i, neq_i, eql_8, neq_8, lss_8, leq_8, gtr_8, geq_8, eql_s, neq_s, eql_b, neq_b, not_b, by_bys, by_nils, load_cp1, beq_true, beq_false, Bool.not_eq_true', decide_eq_true_eq, decide_eq_false_iff_not, decide_true, decide_false,
 Int.toNat_natCast, Int.ofNat_lt, Int.ofNat_le, Int.natCast_inj, Bool.false_eq_true, Bool.true_eq_false, extPV, List.getElem?_cons_zero, List.getElem?_cons_succ, nilckPV, Int.reduceToNat, Int.reduceLE, true_and, and_true, reduceCtorEq, or_false, false_or, or_true, Option.some.injEq, exists_eq_left', Bool.not_true, Bool.not_false, ne_eq, Int.reduceEq, not_true_eq_false, not_false_eq_true, Int.reduceLT, UInt8.reduceLT, UInt8.reduceLE, UInt8.reduceToNat]
        exact loopQ_intro (m := 5 - (n + 1)) (by omega) (hnext (fun h => hs h.2) _ _ hk.tok1 h0 rfl)
    · have hput' : call prog (.fn 81 []) [.int .i32 ((qN l n : Nat) : Int)] S = some (.tup [.nils, .int .i64 20], S) := by
        rw [hput]; simp [putV, hpt]
      simp (maxSteps := 1000000) (disch := omega) only [h0, h5, h6, hput', add_n, W_seq, W_region, W_cond, W_block, W_skip, W_label, W_exit, W_goto, W_ret, WO_cons, WO_consG, WO_nil, wantedA_eq, wantB, evOp, ev_tmp, ev_const, ev_fn, WN_some, WN_none, updO_some, updO_none, upd_eq,
 ↓reduceIte, Nat.reduceEqDiff, List.nil_append, List.cons_append, List.append_nil, List.map_cons, List.map_nil, env0_zero, env0_succ, env0_nil, Option.map_some, Option.map_none, seqQ_normal, seqQ_ret, seqQ_exit, seqQ_goto, blockQ_normal, blockQ_ret, blockQ_exit, blockQ_goto, condW_bool, loopQ_ret, loopQ_exit, loopQ_goto, endQ_ret, endQ_normal,
 lss_i, leq_i, gtr_i, geq_i, eql_i, neq_i, eql_8, neq_8, lss_8, leq_8, gtr_8, geq_8, eql_s, neq_s, eql_b, neq_b, not_b, by_bys, by_nils, load_cp1, beq_true, beq_false, Bool.not_eq_true', decide_eq_true_eq, decide_eq_false_iff_not, decide_true, decide_false,
 Int.toNat_natCast, Int.ofNat_lt, Int.ofNat_le, Int.natCast_inj, Bool.false_eq_true, Bool.true_eq_false, extPV, List.getElem?_cons_zero, List.getElem?_cons_succ, nilckPV, Int.reduceToNat, Int.reduceLE, true_and, and_true, reduceCtorEq, or_false, false_or, or_true, Option.some.injEq, exists_eq_left', Bool.not_true, Bool.not_false, ne_eq, Int.reduceEq, not_true_eq_false, not_false_eq_true, Int.reduceLT, UInt8.reduceLT, UInt8.reduceLE, UInt8.reduceToNat]
      exact loopQ_intro (m := 5 - (n + 1)) (by omega) (hnext (fun h => hpt h.1) _ _ hk h0 rfl)
  · have hno : nextOf l = none := by
      cases h : nextOf l with
      | none => rfl
      | some r =>
        obtain ⟨v, k⟩ := r
        obtain ⟨k1, k2, k3⟩ := next_succ h128' h
        exact absurd k3 (hall k (by omega) (by omega) k2)
    have fin : ∀ E : Env, E 2 = .int .i32 0 → E 3 = .int .i64 0 → E 4 = .int .i64 20 → ∃ rv, resOf E S [.tmp 2, .tmp 3, .tmp 4] = some rv ∧ leave st S rv = (nextV l, st) := by
      intro E k2 k3 k4
      exact ⟨.tup [.int .i32 0, .int .i64 0, .int .i64 20], by simp [resOf, rvAll, rv1, k2, k3, k4, notTup, packRes], by rw [nextV_none hno hne]; exact hk.leave rfl (fun _ _ => rfl)⟩
    by_cases hn4 : n ≤ 4
    · have r1 : (n : Int) ≤ 4 := by omega
      have r2 : ¬ n ≤ l.length := by omega
      simp (maxSteps := 1000000) (disch := omega) only [h0, h5, r1, len_by hx, r2, W_seq, W_region, W_cond, W_block, W_skip, W_label, W_exit, W_goto, W_ret, WO_cons, WO_consG, WO_nil, wantedA_eq, wantB, evOp, ev_tmp, ev_const, ev_fn, WN_some, WN_none, updO_some, updO_none, upd_eq,
 ↓reduceIte, Nat.reduceEqDiff, List.nil_append, List.cons_append, List.append_nil, List.map_cons, List.map_nil, env0_zero, env0_succ, env0_nil, Option.map_some, Option.map_none, seqQ_normal, seqQ_ret, seqQ_exit, seqQ_goto, blockQ_normal, blockQ_ret, blockQ_exit, blockQ_goto, condW_bool, loopQ_ret, loopQ_exit, loopQ_goto, endQ_ret, endQ_normal,
 lss_i, leq_i, gtr_i, geq_i, eql_i, neq_i, eql_8, neq_8, lss_8, leq_8, gtr_8, geq_8, eql_s, neq_s, eql_b, neq_b, not_b, by_bys, by_nils, load_cp1, beq_true, beq_false, Bool.not_eq_true', decide_eq_true_eq, decide_eq_false_iff_not, decide_true, decide_false,
 Int.toNat_natCast, Int.ofNat_lt, Int.ofNat_le, Int.natCast_inj, Bool.false_eq_true, Bool.true_eq_false, extPV, List.getElem?_cons_zero, List.getElem?_cons_succ, nilckPV, Int.reduceToNat, Int.reduceLE, true_and, and_true, reduceCtorEq, or_false, false_or, or_true, Option.some.injEq, exists_eq_left', Bool.not_true, Bool.not_false, ne_eq, Int.reduceEq, not_true_eq_false, not_false_eq_true, Int.reduceLT, UInt8.reduceLT, UInt8.reduceLE, UInt8.reduceToNat]
      exact fin _ rfl rfl rfl
    · have r1 : ¬ (n : Int) ≤ 4 := by omega
      simp (maxSteps := 1000000) (disch := omega) only [h0, h5, r1, W_seq, W_region, W_cond, W_block, W_skip, W_label, W_exit, W_goto, W_ret, WO_cons, WO_consG, WO_nil, wantedA_eq, wantB, evOp, ev_tmp, ev_const, ev_fn, WN_some, WN_none, updO_some, updO_none, upd_eq,
 ↓reduceIte, Nat.reduceEqDiff, List.nil_append, List.cons_append, List.append_nil, List.map_cons, List.map_nil, env0_zero, env0_succ, env0_nil, Option.map_some, Option.map_none, seqQ_normal, seqQ_ret, seqQ_exit, seqQ_goto, blockQ_normal, blockQ_ret, blockQ_exit, blockQ_goto, condW_bool, loopQ_ret, loopQ_exit, loopQ_goto, endQ_ret, endQ_normal,
 lss_i, leq_i, gtr_i, geq_i, eql_i, neq_i, eql_8, neq_8, lss_8, leq_8, gtr_8, geq_8, eql_s, neq_s, eql_b, neq_b, not_b, by_bys, by_nils, load_cp1, beq_true, beq_false, Bool.not_eq_true', decide_eq_true_eq, decide_eq_false_iff_not, decide_true, decide_false,
 Int.toNat_natCast, Int.ofNat_lt, Int.ofNat_le, Int.natCast_inj, Bool.false_eq_true, Bool.true_eq_false, extPV, List.getElem?_cons_zero, List.getElem?_cons_succ, nilckPV, Int.reduceToNat, Int.reduceLE, true_and, and_true, reduceCtorEq, or_false, false_or, or_true, Option.some.injEq, exists_eq_left', Bool.not_true, Bool.not_false, ne_eq, Int.reduceEq, not_true_eq_false, not_false_eq_true, Int.reduceLT, UInt8.reduceLT, UInt8.reduceLE, UInt8.reduceToNat]
      exact fin _ rfl rfl rfl
end Go.Ab

/-
  A text's points; whether it is one.
-/
namespace Go.Ab
set_option linter.unusedVariables false
set_option linter.unusedSimpArgs false
variable {st s : St} {e : Env}

theorem next_pos {l : List UInt8} {p n : Nat} (h : nextOf l = some (p, n)) : 1 ≤ n ∧ n ≤ l.length ∧ p < 2147483648 := by
  by_cases hc : (l.getD 0 0).toNat < 128
  · unfold nextOf at h
    split at h
    · cases h
    · rename_i hne
      cases h
      have := List.length_pos_iff.2 hne
      omega
  · obtain ⟨h1, h2, h3⟩ := next_succ hc h
    have h4 := succ_next h1 h2 hc h3
    rw [h] at h4
    simp only [Option.some.injEq, Prod.mk.injEq] at h4
    have := h3.1
    rw [← h4.1] at this
    unfold pointN at this
    omega

/-- A text's points from a place on; or where there is none. -/
def ptsOf : Nat → List UInt8 → Nat → Except Nat (List Nat)
  | 0, _, _ => .ok []
  | k + 1, l, i => if i < l.length then match nextOf (l.drop i) with
    | none => .error i
    | some (p, n) => match ptsOf k l (i + n) with
      | .ok r => .ok (p :: r)
      | .error j => .error j
    else .ok []
def ptV (p : Nat) : PV := .int .i32 (p : Int)
def ptsV (st : St) (r : Except Nat (List Nat)) : PV × St := match r with
  | .ok ps => (.tup [newSl st 1 (ps.map ptV), .agg [.int .i64 0, .int .i64 0]], newS st (ps.map ptV).isEmpty)
  | .error j => (.tup [.nils, .agg [.int .i64 (j : Int), .int .i64 20]], st)

theorem Kept.appS {esz : Nat} {v : PV} {xs : List PV} (hk : Kept st s) (h : Own st s esz v xs) : Kept st (Ab.appS s v) := by
  have htl := hk.tl
  rcases h with ⟨rfl, rfl⟩ | ⟨i, rfl, h2, h3⟩
  · exact hk.tok1
  · refine hk.of rfl rfl hk.lw (fun j hj => ?_) ?_
    · show (s.toks.set i false ++ [true])[j]? = s.toks[j]?
      rw [List.getElem?_append_left (by simp; omega), List.getElem?_set_ne (by omega)]
    · show st.toks.length ≤ (s.toks.set i false ++ [true]).length
      simp; omega
theorem Own.appK {esz : Nat} {v : PV} {xs ys : List PV} (hk : Kept st s) (h : Own st s esz v xs) : Own st (Ab.appS s v) esz (.sl esz (.own s.toks.length) ys) ys := by
  have htl := hk.tl
  refine .inr ⟨_, rfl, htl, ?_⟩
  rcases h with ⟨rfl, rfl⟩ | ⟨i, rfl, h2, h3⟩
  · simp [Ab.appS, St.tok1]
  · show (s.toks.set i false ++ [true])[s.toks.length]? = some true
    rw [List.getElem?_append_right (by simp)]; simp
theorem leave_ownA {v : PV} {xs : List PV} {a b : Int} (hk : Kept st s) (h : Own st s 1 v xs) (hne : xs = [] → v = .nils) : leave st s (.tup [v, .agg [.int .i64 a, .int .i64 b]]) = (.tup [newSl st 1 xs, .agg [.int .i64 a, .int .i64 b]], newS st xs.isEmpty) := by
  have e1 := hk.bx; have e2 := hk.lp; have e3 := hk.tk
  rcases h with ⟨rfl, rfl⟩ | ⟨i, rfl, h2, h3⟩
  · simp [leave, PV.inB, PV.inB.inBAll, hk.lw, keepRes, keepVals, keepVal, keepCells, keepLeaf, e1, e2, e3, newSl, newS]
  · by_cases hx : xs = []
    · have := hne hx; cases this
    · simp [leave, PV.inB, PV.inB.inBAll, hk.lw, keepRes, keepVals, keepVal, keepCells, keepLeaf, keepTok, h3, show ¬ i < st.toks.length by omega, e1, e2, e3, newSl, newS, hx, St.tok1]
theorem liti1 {p : Int} : litFill 1 (List.replicate 1 (.int .i32 0)) [(0, .int .i32 p)] = some [.int .i32 p] := lit1 rfl rfl
theorem build2i {a b : Int} : buildCells [.int .i64 0, .int .i64 0] [(0, 1, .int .i64 a), (1, 1, .int .i64 b)] = some [.int .i64 a, .int .i64 b] := by
  simp [buildCells, PV.cells, leafOk, setCells]
theorem build0i : buildCells [.int .i64 0, .int .i64 0] [] = some [.int .i64 0, .int .i64 0] := rfl

/-- The box of a fault. -/
def FB (st s : St) (a b : Int) : Prop := st.boxes.length < s.boxes.length ∧ s.boxes[st.boxes.length]? = some [.int .i64 a, .int .i64 b]
theorem FB.store {a b c d : Int} (hk : Kept st s) (h : FB st s a b) : ∃ s', storePV s 2 (.ptr st.boxes.length 0) (.agg [.int .i64 c, .int .i64 d]) = some s' ∧ Kept st s' ∧ FB st s' c d ∧ s'.toks = s.toks := by
  refine ⟨{ s with boxes := s.boxes.set st.boxes.length [.int .i64 c, .int .i64 d] }, ?_, ?_, ⟨by simpa using h.1, by simp [h.1]⟩, rfl⟩
  · simp [storePV, h.2, PV.cells, PV.inB, PV.inB.inBAll, leafOk, hasTok, tokOf, setCells]
  · exact hk.of (by rw [List.take_set_of_le (Nat.le_refl _)]) rfl hk.lw (fun _ _ => rfl) hk.tl
theorem FB.load {a b : Int} (h : FB st s a b) : loadPV s true 2 (.ptr st.boxes.length 0) = some (.agg [.int .i64 a, .int .i64 b]) := by
  simp [loadPV, h.2, readCells]
theorem FB.appS {v : PV} {esz : Nat} {xs : List PV} {a b : Int} (h : FB st s a b) (ho : Own st s esz v xs) : FB st (Ab.appS s v) a b := by
  rcases ho with ⟨rfl, rfl⟩ | ⟨i, rfl, _, _⟩ <;> exact h

set_option maxHeartbeats 1000000 in
theorem uPoints_spec {x : PV} {l : List UInt8} (hx : x.by = some l) (hl : l.length ≤ 100000000) : call prog (.fn 69 []) [x] st = some (ptsV st (ptsOf (l.length + 1) l 0)) := by
  refine call_of_W prog_69 ?_
  unfold F_utf_Points; dsimp only
  obtain ⟨T, hT⟩ : ∃ T, T = ptsOf (l.length + 1) l 0 := ⟨_, rfl⟩
  rw [← hT]
  refine W_cut (fun E S => Kept st S ∧ FB st S 0 0 ∧ E 0 = x ∧ E 3 = .ptr st.boxes.length 0) ?_ ?_
  · simp (maxSteps := 1000000) (disch := omega) only [allocPV, W_seq, W_region, W_cond, W_block, W_skip, W_label, W_exit, W_goto, W_ret, WO_cons, WO_consG, WO_nil, wantedA_eq, wantB, evOp, ev_tmp, ev_const, ev_fn, WN_some, WN_none, updO_some, updO_none, upd_eq,
 ↓reduceIte, Nat.reduceEqDiff, List.nil_append, List.cons_append, List.append_nil, List.map_cons, List.map_nil, env0_zero, env0_succ, env0_nil, Option.map_some, Option.map_none, seqQ_normal, seqQ_ret, seqQ_exit, seqQ_goto, blockQ_normal, blockQ_ret, blockQ_exit, blockQ_goto, condW_bool, loopQ_ret, loopQ_exit, loopQ_goto, endQ_ret, endQ_normal,
 lss_i, leq_i, gtr_i, geq_i, eql_i, neq_i, eql_8, neq_8, lss_8, leq_8, gtr_8, geq_8, eql_s, neq_s, eql_b, neq_b, not_b, by_bys, by_nils, load_cp1, beq_true, beq_false, Bool.not_eq_true', decide_eq_true_eq, decide_eq_false_iff_not, decide_true, decide_false,
 Int.toNat_natCast, Int.ofNat_lt, Int.ofNat_le, Int.natCast_inj, Bool.false_eq_true, Bool.true_eq_false, extPV, List.getElem?_cons_zero, List.getElem?_cons_succ, nilckPV, Int.reduceToNat, Int.reduceLE, true_and, and_true, reduceCtorEq, or_false, false_or, or_true, Option.some.injEq, exists_eq_left', Bool.not_true, Bool.not_false, ne_eq, Int.reduceEq, not_true_eq_false, not_false_eq_true, Int.reduceLT, UInt8.reduceLT, UInt8.reduceLE, UInt8.reduceToNat]
    exact ⟨Kept.start.alloc, by simp, by simp⟩
  rintro e S ⟨hk, hb, h0, h3⟩
  simp (maxSteps := 1000000) (disch := omega) only [h0, h3, W_seq, W_region, W_cond, W_block, W_skip, W_label, W_exit, W_goto, W_ret, WO_cons, WO_consG, WO_nil, wantedA_eq, wantB, evOp, ev_tmp, ev_const, ev_fn, WN_some, WN_none, updO_some, updO_none, upd_eq,
 ↓reduceIte, Nat.reduceEqDiff, List.nil_append, List.cons_append, List.append_nil, List.map_cons, List.map_nil, env0_zero, env0_succ, env0_nil, Option.map_some, Option.map_none, seqQ_normal, seqQ_ret, seqQ_exit, seqQ_goto, blockQ_normal, blockQ_ret, blockQ_exit, blockQ_goto, condW_bool, loopQ_ret, loopQ_exit, loopQ_goto, endQ_ret, endQ_normal,
 lss_i, leq_i, gtr_i, geq_i, eql_i, neq_i, eql_8, neq_8, lss_8, leq_8, gtr_8, geq_8, eql_s, neq_s, eql_b, neq_b, not_b, by_bys, by_nils, load_cp1, beq_true, beq_false, Bool.not_eq_true', decide_eq_true_eq, decide_eq_false_iff_not, decide_true, decide_false,
 Int.toNat_natCast, Int.ofNat_lt, Int.ofNat_le, Int.natCast_inj, Bool.false_eq_true, Bool.true_eq_false, extPV, List.getElem?_cons_zero, List.getElem?_cons_succ, nilckPV, Int.reduceToNat, Int.reduceLE, true_and, and_true, reduceCtorEq, or_false, false_or, or_true, Option.some.injEq, exists_eq_left', Bool.not_true, Bool.not_false, ne_eq, Int.reduceEq, not_true_eq_false, not_false_eq_true, Int.reduceLT, UInt8.reduceLT, UInt8.reduceLE, UInt8.reduceToNat]
  obtain ⟨I, hI⟩ : ∃ I : Nat → Env → St → Prop, I = fun m E S => ∃ (i k : Nat) (v : PV) (acc : List Nat), m = l.length - i ∧ l.length + 1 - i ≤ k ∧ i ≤ l.length ∧ acc.length ≤ i ∧ Kept st S ∧ FB st S 0 0 ∧ Own st S 1 v (acc.map ptV) ∧ (acc.map ptV = [] → v = .nils) ∧ T = (match ptsOf k l i with | .ok r => .ok (acc ++ r) | .error j => .error j) ∧ E 0 = x ∧ E 3 = .ptr st.boxes.length 0 ∧ E 4 = v ∧ E 5 = .int .i64 (i : Int) := ⟨_, rfl⟩
  refine W_loop I ?_ (n := l.length) (by
    rw [hI]
    refine ⟨0, l.length + 1, .nils, [], rfl, by omega, by omega, by simp, hk, hb, .inl ⟨rfl, rfl⟩, fun _ => rfl, ?_, h0, h3, rfl, rfl⟩
    rw [hT]; split <;> simp_all)
  clear hk hb h0 h3
  intro m e S hh
  rw [hI] at hh
  obtain ⟨i, k, v, acc, rfl, hki, hil, hacl, hk, hb, ho, hnil, hTT, h0, h3, h4, h5⟩ := hh
  by_cases hlt : i < l.length
  · obtain ⟨k, rfl⟩ : ∃ k', k = k' + 1 := ⟨k - 1, by omega⟩
    simp only [ptsOf, hlt, if_true] at hTT
    have hnx := fun S : St => uNext_spec (st := S) (dropB_by (i := i) hx) (by simp; omega)
    have hsl := slc_lo (k := .i64) (c := (i : Int)) hx (by omega) (by simpa using hil)
    rw [Int.toNat_natCast] at hsl
    cases hno : nextOf (l.drop i) with
    | none =>
      simp only [hno] at hTT
      have hdn : l.drop i ≠ [] := by intro h; have := congrArg List.length h; simp at this; omega
      rw [nextV_none hno hdn] at hnx
      obtain ⟨S2, a1, k1, b1, -⟩ := FB.store (c := (i : Int)) (d := 20) hk hb
      have hld := b1.load
      simp (maxSteps := 1000000) (disch := omega) only [h0, h3, h4, h5, len_by hx, hlt, hsl, hnx, build2i, a1, W_seq, W_region, W_cond, W_block, W_skip, W_label, W_exit, W_goto, W_ret, WO_cons, WO_consG, WO_nil, wantedA_eq, wantB, evOp, ev_tmp, ev_const, ev_fn, WN_some, WN_none, updO_some, updO_none, upd_eq,
 ↓reduceIte, Nat.reduceEqDiff, List.nil_append, List.cons_append, List.append_nil, List.map_cons, List.map_nil, env0_zero, env0_succ, env0_nil, Option.map_some, Option.map_none, seqQ_normal, seqQ_ret, seqQ_exit, seqQ_goto, blockQ_normal, blockQ_ret, blockQ_exit, blockQ_goto, condW_bool, loopQ_ret, loopQ_exit, loopQ_goto, endQ_ret, endQ_normal,
 lss_i, leq_i, gtr_i, geq_i, eql_i, neq_i, eql_8, neq_8, lss_8, leq_8, gtr_8, geq_8, eql_s, neq_s, eql_b, neq_b, not_b, by_bys, by_nils, load_cp1, beq_true, beq_false, Bool.not_eq_true', decide_eq_true_eq, decide_eq_false_iff_not, decide_true, decide_false,
 Int.toNat_natCast, Int.ofNat_lt, Int.ofNat_le, Int.natCast_inj, Bool.false_eq_true, Bool.true_eq_false, extPV, List.getElem?_cons_zero, List.getElem?_cons_succ, nilckPV, Int.reduceToNat, Int.reduceLE, true_and, and_true, reduceCtorEq, or_false, false_or, or_true, Option.some.injEq, exists_eq_left', Bool.not_true, Bool.not_false, ne_eq, Int.reduceEq, not_true_eq_false, not_false_eq_true, Int.reduceLT, UInt8.reduceLT, UInt8.reduceLE, UInt8.reduceToNat]
      refine ⟨.tup [.nils, .agg [.int .i64 (i : Int), .int .i64 20]], ?_, ?_⟩
      · simp [resOf, rvAll, rv1, upd_eq, h3, hld, notTup, packRes]
      · rw [hTT]; exact k1.leave rfl (fun _ _ => rfl)
    | some pn =>
      obtain ⟨p, n⟩ := pn
      simp only [hno] at hTT
      rw [nextV_some hno] at hnx
      obtain ⟨hn1, hn2, hn3⟩ := next_pos hno
      simp only [List.length_drop] at hn2
      have happ := appV_own (u := ptV p) (t := .own S.toks.length) ho.tok1 (by simp only [List.length_map, room]; omega)
      have k2 := hk.tok1.appS ho.tok1
      have o2 := Own.appK (ys := acc.map ptV ++ [ptV p]) hk.tok1 ho.tok1
      have b2 : FB st (Ab.appS S.tok1 v) 0 0 := FB.appS (s := S.tok1) hb ho.tok1
      unfold ptV at happ
      simp (maxSteps := 1000000) (disch := omega) only [h0, h3, h4, h5, len_by hx, hlt, hsl, hnx, liti1, freshT_eq, happ, add_n, W_seq, W_region, W_cond, W_block, W_skip, W_label, W_exit, W_goto, W_ret, WO_cons, WO_consG, WO_nil, wantedA_eq, wantB, evOp, ev_tmp, ev_const, ev_fn, WN_some, WN_none, updO_some, updO_none, upd_eq,
 ↓reduceIte, Nat.reduceEqDiff, List.nil_append, List.cons_append, List.append_nil, List.map_cons, List.map_nil, env0_zero, env0_succ, env0_nil, Option.map_some, Option.map_none, seqQ_normal, seqQ_ret, seqQ_exit, seqQ_goto, blockQ_normal, blockQ_ret, blockQ_exit, blockQ_goto, condW_bool, loopQ_ret, loopQ_exit, loopQ_goto, endQ_ret, endQ_normal,
 lss_i, leq_i, gtr_i, geq_i, eql_i, neq_i, eql_8, neq_8, lss_8, leq_8, gtr_8, geq_8, eql_s, neq_s, eql_b, neq_b, not_b, by_bys, by_nils, load_cp1, beq_true, beq_false, Bool.not_eq_true', decide_eq_true_eq, decide_eq_false_iff_not, decide_true, decide_false,
 Int.toNat_natCast, Int.ofNat_lt, Int.ofNat_le, Int.natCast_inj, Bool.false_eq_true, Bool.true_eq_false, extPV, List.getElem?_cons_zero, List.getElem?_cons_succ, nilckPV, Int.reduceToNat, Int.reduceLE, true_and, and_true, reduceCtorEq, or_false, false_or, or_true, Option.some.injEq, exists_eq_left', Bool.not_true, Bool.not_false, ne_eq, Int.reduceEq, not_true_eq_false, not_false_eq_true, Int.reduceLT, UInt8.reduceLT, UInt8.reduceLE, UInt8.reduceToNat]
      refine loopQ_intro (m := l.length - (i + n)) (by omega) ?_
      rw [hI]
      refine ⟨i + n, k, _, acc ++ [p], rfl, by omega, by omega, by simp; omega, k2, b2, ?_, fun h => by simp at h, ?_, h0, h3, rfl, rfl⟩
      · rw [List.map_append]; exact o2
      · rw [hTT]
        cases ptsOf k l (i + n) with
        | ok r => simp
        | error j => rfl
  · obtain rfl : i = l.length := by omega
    have hTf : T = .ok acc := by
      rw [hTT]
      cases k with
      | zero => simp [ptsOf]
      | succ k => simp [ptsOf]
    obtain ⟨S2, a1, k1, b1, t1⟩ := FB.store (c := 0) (d := 0) hk hb
    have hld := b1.load
    have ho2 : Own st S2 1 v (acc.map ptV) := by
      rcases ho with h | ⟨i, h1, h2, h3⟩
      · exact .inl h
      · exact .inr ⟨i, h1, h2, by rw [t1]; exact h3⟩
    simp (maxSteps := 1000000) (disch := omega) only [h0, h3, h4, h5, len_by hx, hlt, build0i, a1, W_seq, W_region, W_cond, W_block, W_skip, W_label, W_exit, W_goto, W_ret, WO_cons, WO_consG, WO_nil, wantedA_eq, wantB, evOp, ev_tmp, ev_const, ev_fn, WN_some, WN_none, updO_some, updO_none, upd_eq,
 ↓reduceIte, Nat.reduceEqDiff, List.nil_append, List.cons_append, List.append_nil, List.map_cons, List.map_nil, env0_zero, env0_succ, env0_nil, Option.map_some, Option.map_none, seqQ_normal, seqQ_ret, seqQ_exit, seqQ_goto, blockQ_normal, blockQ_ret, blockQ_exit, blockQ_goto, condW_bool, loopQ_ret, loopQ_exit, loopQ_goto, endQ_ret, endQ_normal,
 lss_i, leq_i, gtr_i, geq_i, eql_i, neq_i, eql_8, neq_8, lss_8, leq_8, gtr_8, geq_8, eql_s, neq_s, eql_b, neq_b, not_b, by_bys, by_nils, load_cp1, beq_true, beq_false, Bool.not_eq_true', decide_eq_true_eq, decide_eq_false_iff_not, decide_true, decide_false,
 Int.toNat_natCast, Int.ofNat_lt, Int.ofNat_le, Int.natCast_inj, Bool.false_eq_true, Bool.true_eq_false, extPV, List.getElem?_cons_zero, List.getElem?_cons_succ, nilckPV, Int.reduceToNat, Int.reduceLE, true_and, and_true, reduceCtorEq, or_false, false_or, or_true, Option.some.injEq, exists_eq_left', Bool.not_true, Bool.not_false, ne_eq, Int.reduceEq, not_true_eq_false, not_false_eq_true, Int.reduceLT, UInt8.reduceLT, UInt8.reduceLE, UInt8.reduceToNat]
    refine ⟨.tup [v, .agg [.int .i64 0, .int .i64 0]], ?_, ?_⟩
    · have hnt : notTup v = true := by rcases ho with ⟨rfl, _⟩ | ⟨i, rfl, _⟩ <;> rfl
      simp [resOf, rvAll, rv1, upd_eq, h3, hld, hnt, packRes]
      rfl
    · rw [hTf]; exact leave_ownA k1 ho2 hnil
set_option maxHeartbeats 1000000 in
theorem rPoints_spec {x : PV} {l : List UInt8} (hx : x.by = some l) (hl : l.length ≤ 100000000) : call prog (.fn 80 []) [x] st = some (ptsV st (ptsOf (l.length + 1) l 0)) := by
  refine call_of_W prog_80 ?_
  unfold F_posthornref02_Points; dsimp only
  obtain ⟨T, hT⟩ : ∃ T, T = ptsOf (l.length + 1) l 0 := ⟨_, rfl⟩
  rw [← hT]
  refine W_cut (fun E S => Kept st S ∧ FB st S 0 0 ∧ E 0 = x ∧ E 3 = .ptr st.boxes.length 0) ?_ ?_
  · simp (maxSteps := 1000000) (disch := omega) only [allocPV, W_seq, W_region, W_cond, W_block, W_skip, W_label, W_exit, W_goto, W_ret, WO_cons, WO_consG, WO_nil, wantedA_eq, wantB, evOp, ev_tmp, ev_const, ev_fn, WN_some, WN_none, updO_some, updO_none, upd_eq,
 ↓reduceIte, Nat.reduceEqDiff, List.nil_append, List.cons_append, List.append_nil, List.map_cons, List.map_nil, env0_zero, env0_succ, env0_nil, Option.map_some, Option.map_none, seqQ_normal, seqQ_ret, seqQ_exit, seqQ_goto, blockQ_normal, blockQ_ret, blockQ_exit, blockQ_goto, condW_bool, loopQ_ret, loopQ_exit, loopQ_goto, endQ_ret, endQ_normal,
 lss_i, leq_i, gtr_i, geq_i, eql_i, neq_i, eql_8, neq_8, lss_8, leq_8, gtr_8, geq_8, eql_s, neq_s, eql_b, neq_b, not_b, by_bys, by_nils, load_cp1, beq_true, beq_false, Bool.not_eq_true', decide_eq_true_eq, decide_eq_false_iff_not, decide_true, decide_false,
 Int.toNat_natCast, Int.ofNat_lt, Int.ofNat_le, Int.natCast_inj, Bool.false_eq_true, Bool.true_eq_false, extPV, List.getElem?_cons_zero, List.getElem?_cons_succ, nilckPV, Int.reduceToNat, Int.reduceLE, true_and, and_true, reduceCtorEq, or_false, false_or, or_true, Option.some.injEq, exists_eq_left', Bool.not_true, Bool.not_false, ne_eq, Int.reduceEq, not_true_eq_false, not_false_eq_true, Int.reduceLT, UInt8.reduceLT, UInt8.reduceLE, UInt8.reduceToNat]
    exact ⟨Kept.start.alloc, by simp, by simp⟩
  rintro e S ⟨hk, hb, h0, h3⟩
  simp (maxSteps := 1000000) (disch := omega) only [h0, h3, W_seq, W_region, W_cond, W_block, W_skip, W_label, W_exit, W_goto, W_ret, WO_cons, WO_consG, WO_nil, wantedA_eq, wantB, evOp, ev_tmp, ev_const, ev_fn, WN_some, WN_none, updO_some, updO_none, upd_eq,
 ↓reduceIte, Nat.reduceEqDiff, List.nil_append, List.cons_append, List.append_nil, List.map_cons, List.map_nil, env0_zero, env0_succ, env0_nil, Option.map_some, Option.map_none, seqQ_normal, seqQ_ret, seqQ_exit, seqQ_goto, blockQ_normal, blockQ_ret, blockQ_exit, blockQ_goto, condW_bool, loopQ_ret, loopQ_exit, loopQ_goto, endQ_ret, endQ_normal,
 lss_i, leq_i, gtr_i, geq_i, eql_i, neq_i, eql_8, neq_8, lss_8, leq_8, gtr_8, geq_8, eql_s, neq_s, eql_b, neq_b, not_b, by_bys, by_nils, load_cp1, beq_true, beq_false, Bool.not_eq_true', decide_eq_true_eq, decide_eq_false_iff_not, decide_true, decide_false,
 Int.toNat_natCast, Int.ofNat_lt, Int.ofNat_le, Int.natCast_inj, Bool.false_eq_true, Bool.true_eq_false, extPV, List.getElem?_cons_zero, List.getElem?_cons_succ, nilckPV, Int.reduceToNat, Int.reduceLE, true_and, and_true, reduceCtorEq, or_false, false_or, or_true, Option.some.injEq, exists_eq_left', Bool.not_true, Bool.not_false, ne_eq, Int.reduceEq, not_true_eq_false, not_false_eq_true, Int.reduceLT, UInt8.reduceLT, UInt8.reduceLE, UInt8.reduceToNat]
  obtain ⟨I, hI⟩ : ∃ I : Nat → Env → St → Prop, I = fun m E S => ∃ (i k : Nat) (v : PV) (acc : List Nat), m = l.length - i ∧ l.length + 1 - i ≤ k ∧ i ≤ l.length ∧ acc.length ≤ i ∧ Kept st S ∧ FB st S 0 0 ∧ Own st S 1 v (acc.map ptV) ∧ (acc.map ptV = [] → v = .nils) ∧ T = (match ptsOf k l i with | .ok r => .ok (acc ++ r) | .error j => .error j) ∧ E 0 = x ∧ E 3 = .ptr st.boxes.length 0 ∧ E 4 = v ∧ E 5 = .int .i64 (i : Int) := ⟨_, rfl⟩
  refine W_loop I ?_ (n := l.length) (by
    rw [hI]
    refine ⟨0, l.length + 1, .nils, [], rfl, by omega, by omega, by simp, hk, hb, .inl ⟨rfl, rfl⟩, fun _ => rfl, ?_, h0, h3, rfl, rfl⟩
    rw [hT]; split <;> simp_all)
  clear hk hb h0 h3
  intro m e S hh
  rw [hI] at hh
  obtain ⟨i, k, v, acc, rfl, hki, hil, hacl, hk, hb, ho, hnil, hTT, h0, h3, h4, h5⟩ := hh
  by_cases hlt : i < l.length
  · obtain ⟨k, rfl⟩ : ∃ k', k = k' + 1 := ⟨k - 1, by omega⟩
    simp only [ptsOf, hlt, if_true] at hTT
    have hnx := fun S : St => rNext_spec (st := S) (dropB_by (i := i) hx) (by simp; omega)
    have hsl := slc_lo (k := .i64) (c := (i : Int)) hx (by omega) (by simpa using hil)
    rw [Int.toNat_natCast] at hsl
    cases hno : nextOf (l.drop i) with
    | none =>
      simp only [hno] at hTT
      have hdn : l.drop i ≠ [] := by intro h; have := congrArg List.length h; simp at this; omega
      rw [nextV_none hno hdn] at hnx
      obtain ⟨S2, a1, k1, b1, -⟩ := FB.store (c := (i : Int)) (d := 20) hk hb
      have hld := b1.load
      simp (maxSteps := 1000000) (disch := omega) only [h0, h3, h4, h5, len_by hx, hlt, hsl, hnx, build2i, a1, W_seq, W_region, W_cond, W_block, W_skip, W_label, W_exit, W_goto, W_ret, WO_cons, WO_consG, WO_nil, wantedA_eq, wantB, evOp, ev_tmp, ev_const, ev_fn, WN_some, WN_none, updO_some, updO_none, upd_eq,
 ↓reduceIte, Nat.reduceEqDiff, List.nil_append, List.cons_append, List.append_nil, List.map_cons, List.map_nil, env0_zero, env0_succ, env0_nil, Option.map_some, Option.map_none, seqQ_normal, seqQ_ret, seqQ_exit, seqQ_goto, blockQ_normal, blockQ_ret, blockQ_exit, blockQ_goto, condW_bool, loopQ_ret, loopQ_exit, loopQ_goto, endQ_ret, endQ_normal,
 lss_i, leq_i, gtr_i, geq_i, eql_i, neq_i, eql_8, neq_8, lss_8, leq_8, gtr_8, geq_8, eql_s, neq_s, eql_b, neq_b, not_b, by_bys, by_nils, load_cp1, beq_true, beq_false, Bool.not_eq_true', decide_eq_true_eq, decide_eq_false_iff_not, decide_true, decide_false,
 Int.toNat_natCast, Int.ofNat_lt, Int.ofNat_le, Int.natCast_inj, Bool.false_eq_true, Bool.true_eq_false, extPV, List.getElem?_cons_zero, List.getElem?_cons_succ, nilckPV, Int.reduceToNat, Int.reduceLE, true_and, and_true, reduceCtorEq, or_false, false_or, or_true, Option.some.injEq, exists_eq_left', Bool.not_true, Bool.not_false, ne_eq, Int.reduceEq, not_true_eq_false, not_false_eq_true, Int.reduceLT, UInt8.reduceLT, UInt8.reduceLE, UInt8.reduceToNat]
      refine ⟨.tup [.nils, .agg [.int .i64 (i : Int), .int .i64 20]], ?_, ?_⟩
      · simp [resOf, rvAll, rv1, upd_eq, h3, hld, notTup, packRes]
      · rw [hTT]; exact k1.leave rfl (fun _ _ => rfl)
    | some pn =>
      obtain ⟨p, n⟩ := pn
      simp only [hno] at hTT
      rw [nextV_some hno] at hnx
      obtain ⟨hn1, hn2, hn3⟩ := next_pos hno
      simp only [List.length_drop] at hn2
      have happ := appV_own (u := ptV p) (t := .own S.toks.length) ho.tok1 (by simp only [List.length_map, room]; omega)
      have k2 := hk.tok1.appS ho.tok1
      have o2 := Own.appK (ys := acc.map ptV ++ [ptV p]) hk.tok1 ho.tok1
      have b2 : FB st (Ab.appS S.tok1 v) 0 0 := FB.appS (s := S.tok1) hb ho.tok1
      unfold ptV at happ
      simp (maxSteps := 1000000) (disch := omega) only [h0, h3, h4, h5, len_by hx, hlt, hsl, hnx, liti1, freshT_eq, happ, add_n, W_seq, W_region, W_cond, W_block, W_skip, W_label, W_exit, W_goto, W_ret, WO_cons, WO_consG, WO_nil, wantedA_eq, wantB, evOp, ev_tmp, ev_const, ev_fn, WN_some, WN_none, updO_some, updO_none, upd_eq,
 ↓reduceIte, Nat.reduceEqDiff, List.nil_append, List.cons_append, List.append_nil, List.map_cons, List.map_nil, env0_zero, env0_succ, env0_nil, Option.map_some, Option.map_none, seqQ_normal, seqQ_ret, seqQ_exit, seqQ_goto, blockQ_normal, blockQ_ret, blockQ_exit, blockQ_goto, condW_bool, loopQ_ret, loopQ_exit, loopQ_goto, endQ_ret, endQ_normal,
 lss_i, leq_i, gtr_i, geq_i, eql_i, neq_i, eql_8, neq_8, lss_8, leq_8, gtr_8, geq_8, eql_s, neq_s, eql_b, neq_b, not_b, by_bys, by_nils, load_cp1, beq_true, beq_false, Bool.not_eq_true', decide_eq_true_eq, decide_eq_false_iff_not, decide_true, decide_false,
 Int.toNat_natCast, Int.ofNat_lt, Int.ofNat_le, Int.natCast_inj, Bool.false_eq_true, Bool.true_eq_false, extPV, List.getElem?_cons_zero, List.getElem?_cons_succ, nilckPV, Int.reduceToNat, Int.reduceLE, true_and, and_true, reduceCtorEq, or_false, false_or, or_true, Option.some.injEq, exists_eq_left', Bool.not_true, Bool.not_false, ne_eq, Int.reduceEq, not_true_eq_false, not_false_eq_true, Int.reduceLT, UInt8.reduceLT, UInt8.reduceLE, UInt8.reduceToNat]
      refine loopQ_intro (m := l.length - (i + n)) (by omega) ?_
      rw [hI]
      refine ⟨i + n, k, _, acc ++ [p], rfl, by omega, by omega, by simp; omega, k2, b2, ?_, fun h => by simp at h, ?_, h0, h3, rfl, rfl⟩
      · rw [List.map_append]; exact o2
      · rw [hTT]
        cases ptsOf k l (i + n) with
        | ok r => simp
        | error j => rfl
  · obtain rfl : i = l.length := by omega
    have hTf : T = .ok acc := by
      rw [hTT]
      cases k with
      | zero => simp [ptsOf]
      | succ k => simp [ptsOf]
    obtain ⟨S2, a1, k1, b1, t1⟩ := FB.store (c := 0) (d := 0) hk hb
    have hld := b1.load
    have ho2 : Own st S2 1 v (acc.map ptV) := by
      rcases ho with h | ⟨i, h1, h2, h3⟩
      · exact .inl h
      · exact .inr ⟨i, h1, h2, by rw [t1]; exact h3⟩
    simp (maxSteps := 1000000) (disch := omega) only [h0, h3, h4, h5, len_by hx, hlt, build0i, a1, W_seq, W_region, W_cond, W_block, W_skip, W_label, W_exit, W_goto, W_ret, WO_cons, WO_consG, WO_nil, wantedA_eq, wantB, evOp, ev_tmp, ev_const, ev_fn, WN_some, WN_none, updO_some, updO_none, upd_eq,
 ↓reduceIte, Nat.reduceEqDiff, List.nil_append, List.cons_append, List.append_nil, List.map_cons, List.map_nil, env0_zero, env0_succ, env0_nil, Option.map_some, Option.map_none, seqQ_normal, seqQ_ret, seqQ_exit, seqQ_goto, blockQ_normal, blockQ_ret, blockQ_exit, blockQ_goto, condW_bool, loopQ_ret, loopQ_exit, loopQ_goto, endQ_ret, endQ_normal,
 lss_i, leq_i, gtr_i, geq_i, eql_i, neq_i, eql_8, neq_8, lss_8, leq_8, gtr_8, geq_8, eql_s, neq_s, eql_b, neq_b, not_b, by_bys, by_nils, load_cp1, beq_true, beq_false, Bool.not_eq_true', decide_eq_true_eq, decide_eq_false_iff_not, decide_true, decide_false,
 Int.toNat_natCast, Int.ofNat_lt, Int.ofNat_le, Int.natCast_inj, Bool.false_eq_true, Bool.true_eq_false, extPV, List.getElem?_cons_zero, List.getElem?_cons_succ, nilckPV, Int.reduceToNat, Int.reduceLE, true_and, and_true, reduceCtorEq, or_false, false_or, or_true, Option.some.injEq, exists_eq_left', Bool.not_true, Bool.not_false, ne_eq, Int.reduceEq, not_true_eq_false, not_false_eq_true, Int.reduceLT, UInt8.reduceLT, UInt8.reduceLE, UInt8.reduceToNat]
    refine ⟨.tup [v, .agg [.int .i64 0, .int .i64 0]], ?_, ?_⟩
    · have hnt : notTup v = true := by rcases ho with ⟨rfl, _⟩ | ⟨i, rfl, _⟩ <;> rfl
      simp [resOf, rvAll, rv1, upd_eq, h3, hld, hnt, packRes]
      rfl
    · rw [hTf]; exact leave_ownA k1 ho2 hnil
end Go.Ab

/-
  Whether a text is one of points; where it can be cut.
-/
namespace Go.Ab
set_option linter.unusedVariables false
set_option linter.unusedSimpArgs false
variable {st s : St} {e : Env}

/-- Is a text one of points? -/
def validOf (l : List UInt8) : Bool := match ptsOf (l.length + 1) l 0 with
  | .ok _ => true
  | .error _ => false

theorem pts_parts {l : List UInt8} {S : St} (hk : Kept st S) : ∃ w a S', ptsV S (ptsOf (l.length + 1) l 0) = (.tup [w, .agg [.int .i64 a, .int .i64 (if validOf l = true then 0 else 20)]], S') ∧ Kept st S' := by
  unfold validOf
  cases ptsOf (l.length + 1) l 0 with
  | ok ps =>
    refine ⟨_, 0, _, rfl, ?_⟩
    unfold newS; split
    · exact hk
    · exact hk.tok1
  | error j => exact ⟨_, _, _, rfl, hk⟩
theorem store_i2 {B : List (List PV)} {T : List Bool} {L : List LoopS} {lo : Nat} {a b : Int} : storePV ⟨B ++ [[.int .i64 0, .int .i64 0]], T, L, lo⟩ 2 (.ptr B.length 0) (.agg [.int .i64 a, .int .i64 b]) = some ⟨B ++ [[.int .i64 a, .int .i64 b]], T, L, lo⟩ := by
  simp [storePV, PV.cells, PV.inB, PV.inB.inBAll, leafOk, setCells, hasTok, tokOf]
theorem load_i1 {B : List (List PV)} {T : List Bool} {L : List LoopS} {lo : Nat} {a b : Int} : loadPV ⟨B ++ [[.int .i64 a, .int .i64 b]], T, L, lo⟩ false 1 (.ptr B.length 1) = some (.int .i64 b) := by
  simp [loadPV, readCells]

theorem uValid_spec {x : PV} {l : List UInt8} (hx : x.by = some l) (hl : l.length ≤ 100000000) : call prog (.fn 53 []) [x] st = some (.bool (validOf l), st) := by
  refine call_of_W prog_53 ?_
  unfold F_utf_Valid; dsimp only
  obtain ⟨w, a, S', h1, hk⟩ := pts_parts (l := l) (st := st) Kept.start
  have hp := uPoints_spec (st := { boxes := st.boxes, toks := st.toks, loops := st.loops, low := st.boxes.length }) hx hl
  rw [h1] at hp
  cases hv : validOf l with
  | true =>
    simp only [hv, if_true] at hp
    simp (maxSteps := 1000000) (disch := omega) only [hp, allocPV, store_i2, faddrPV, Nat.zero_add, load_i1, W_seq, W_region, W_cond, W_block, W_skip, W_label, W_exit, W_goto, W_ret, WO_cons, WO_consG, WO_nil, wantedA_eq, wantB, evOp, ev_tmp, ev_const, ev_fn, WN_some, WN_none, updO_some, updO_none, upd_eq,
 ↓reduceIte, Nat.reduceEqDiff, List.nil_append, List.cons_append, List.append_nil, List.map_cons, List.map_nil, env0_zero, env0_succ, env0_nil, Option.map_some, Option.map_none, seqQ_normal, seqQ_ret, seqQ_exit, seqQ_goto, blockQ_normal, blockQ_ret, blockQ_exit, blockQ_goto, condW_bool, loopQ_ret, loopQ_exit, loopQ_goto, endQ_ret, endQ_normal,
 lss_i, leq_i, gtr_i, geq_i, eql_i, neq_i, eql_8, neq_8, lss_8, leq_8, gtr_8, geq_8, eql_s, neq_s, eql_b, neq_b, not_b, by_bys, by_nils, load_cp1, beq_true, beq_false, Bool.not_eq_true', decide_eq_true_eq, decide_eq_false_iff_not, decide_true, decide_false,
 Int.toNat_natCast, Int.ofNat_lt, Int.ofNat_le, Int.natCast_inj, Bool.false_eq_true, Bool.true_eq_false, extPV, List.getElem?_cons_zero, List.getElem?_cons_succ, nilckPV, Int.reduceToNat, Int.reduceLE, true_and, and_true, reduceCtorEq, or_false, false_or, or_true, Option.some.injEq, exists_eq_left', Bool.not_true, Bool.not_false, ne_eq, Int.reduceEq, not_true_eq_false, not_false_eq_true, Int.reduceLT, UInt8.reduceLT, UInt8.reduceLE, UInt8.reduceToNat]
    exact ⟨.bool true, rfl, hk.alloc.leave rfl (fun _ _ => rfl)⟩
  | false =>
    simp only [hv, Bool.false_eq_true, if_false] at hp
    simp (maxSteps := 1000000) (disch := omega) only [hp, allocPV, store_i2, faddrPV, Nat.zero_add, load_i1, W_seq, W_region, W_cond, W_block, W_skip, W_label, W_exit, W_goto, W_ret, WO_cons, WO_consG, WO_nil, wantedA_eq, wantB, evOp, ev_tmp, ev_const, ev_fn, WN_some, WN_none, updO_some, updO_none, upd_eq,
 ↓reduceIte, Nat.reduceEqDiff, List.nil_append, List.cons_append, List.append_nil, List.map_cons, List.map_nil, env0_zero, env0_succ, env0_nil, Option.map_some, Option.map_none, seqQ_normal, seqQ_ret, seqQ_exit, seqQ_goto, blockQ_normal, blockQ_ret, blockQ_exit, blockQ_goto, condW_bool, loopQ_ret, loopQ_exit, loopQ_goto, endQ_ret, endQ_normal,
 lss_i, leq_i, gtr_i, geq_i, eql_i, neq_i, eql_8, neq_8, lss_8, leq_8, gtr_8, geq_8, eql_s, neq_s, eql_b, neq_b, not_b, by_bys, by_nils, load_cp1, beq_true, beq_false, Bool.not_eq_true', decide_eq_true_eq, decide_eq_false_iff_not, decide_true, decide_false,
 Int.toNat_natCast, Int.ofNat_lt, Int.ofNat_le, Int.natCast_inj, Bool.false_eq_true, Bool.true_eq_false, extPV, List.getElem?_cons_zero, List.getElem?_cons_succ, nilckPV, Int.reduceToNat, Int.reduceLE, true_and, and_true, reduceCtorEq, or_false, false_or, or_true, Option.some.injEq, exists_eq_left', Bool.not_true, Bool.not_false, ne_eq, Int.reduceEq, not_true_eq_false, not_false_eq_true, Int.reduceLT, UInt8.reduceLT, UInt8.reduceLE, UInt8.reduceToNat]
    exact ⟨.bool false, rfl, hk.alloc.leave rfl (fun _ _ => rfl)⟩
theorem rValid_spec {x : PV} {l : List UInt8} (hx : x.by = some l) (hl : l.length ≤ 100000000) : call prog (.fn 74 []) [x] st = some (.bool (validOf l), st) := by
  refine call_of_W prog_74 ?_
  unfold F_posthornref02_Valid; dsimp only
  obtain ⟨w, a, S', h1, hk⟩ := pts_parts (l := l) (st := st) Kept.start
  have hp := rPoints_spec (st := { boxes := st.boxes, toks := st.toks, loops := st.loops, low := st.boxes.length }) hx hl
  rw [h1] at hp
  cases hv : validOf l with
  | true =>
    simp only [hv, if_true] at hp
    simp (maxSteps := 1000000) (disch := omega) only [hp, allocPV, store_i2, faddrPV, Nat.zero_add, load_i1, W_seq, W_region, W_cond, W_block, W_skip, W_label, W_exit, W_goto, W_ret, WO_cons, WO_consG, WO_nil, wantedA_eq, wantB, evOp, ev_tmp, ev_const, ev_fn, WN_some, WN_none, updO_some, updO_none, upd_eq,
 ↓reduceIte, Nat.reduceEqDiff, List.nil_append, List.cons_append, List.append_nil, List.map_cons, List.map_nil, env0_zero, env0_succ, env0_nil, Option.map_some, Option.map_none, seqQ_normal, seqQ_ret, seqQ_exit, seqQ_goto, blockQ_normal, blockQ_ret, blockQ_exit, blockQ_goto, condW_bool, loopQ_ret, loopQ_exit, loopQ_goto, endQ_ret, endQ_normal,
 lss_i, leq_i, gtr_i, geq_i, eql_i, neq_i, eql_8, neq_8, lss_8, leq_8, gtr_8, geq_8, eql_s, neq_s, eql_b, neq_b, not_b, by_bys, by_nils, load_cp1, beq_true, beq_false, Bool.not_eq_true', decide_eq_true_eq, decide_eq_false_iff_not, decide_true, decide_false,
 Int.toNat_natCast, Int.ofNat_lt, Int.ofNat_le, Int.natCast_inj, Bool.false_eq_true, Bool.true_eq_false, extPV, List.getElem?_cons_zero, List.getElem?_cons_succ, nilckPV, Int.reduceToNat, Int.reduceLE, true_and, and_true, reduceCtorEq, or_false, false_or, or_true, Option.some.injEq, exists_eq_left', Bool.not_true, Bool.not_false, ne_eq, Int.reduceEq, not_true_eq_false, not_false_eq_true, Int.reduceLT, UInt8.reduceLT, UInt8.reduceLE, UInt8.reduceToNat]
    exact ⟨.bool true, rfl, hk.alloc.leave rfl (fun _ _ => rfl)⟩
  | false =>
    simp only [hv, Bool.false_eq_true, if_false] at hp
    simp (maxSteps := 1000000) (disch := omega) only [hp, allocPV, store_i2, faddrPV, Nat.zero_add, load_i1, W_seq, W_region, W_cond, W_block, W_skip, W_label, W_exit, W_goto, W_ret, WO_cons, WO_consG, WO_nil, wantedA_eq, wantB, evOp, ev_tmp, ev_const, ev_fn, WN_some, WN_none, updO_some, updO_none, upd_eq,
 ↓reduceIte, Nat.reduceEqDiff, List.nil_append, List.cons_append, List.append_nil, List.map_cons, List.map_nil, env0_zero, env0_succ, env0_nil, Option.map_some, Option.map_none, seqQ_normal, seqQ_ret, seqQ_exit, seqQ_goto, blockQ_normal, blockQ_ret, blockQ_exit, blockQ_goto, condW_bool, loopQ_ret, loopQ_exit, loopQ_goto, endQ_ret, endQ_normal,
 lss_i, leq_i, gtr_i, geq_i, eql_i, neq_i, eql_8, neq_8, lss_8, leq_8, gtr_8, geq_8, eql_s, neq_s, eql_b, neq_b, not_b, by_bys, by_nils, load_cp1, beq_true, beq_false, Bool.not_eq_true', decide_eq_true_eq, decide_eq_false_iff_not, decide_true, decide_false,
 Int.toNat_natCast, Int.ofNat_lt, Int.ofNat_le, Int.natCast_inj, Bool.false_eq_true, Bool.true_eq_false, extPV, List.getElem?_cons_zero, List.getElem?_cons_succ, nilckPV, Int.reduceToNat, Int.reduceLE, true_and, and_true, reduceCtorEq, or_false, false_or, or_true, Option.some.injEq, exists_eq_left', Bool.not_true, Bool.not_false, ne_eq, Int.reduceEq, not_true_eq_false, not_false_eq_true, Int.reduceLT, UInt8.reduceLT, UInt8.reduceLE, UInt8.reduceToNat]
    exact ⟨.bool false, rfl, hk.alloc.leave rfl (fun _ _ => rfl)⟩

/-! ### Where a text can be cut -/
def isCont (c : UInt8) : Prop := 128 ≤ c.toNat ∧ c.toNat < 192
instance {c : UInt8} : Decidable (isCont c) := by unfold isCont; infer_instance
def back (l : List UInt8) : Nat → Nat
  | 0 => 0
  | n + 1 => if n + 1 < l.length ∧ isCont (l.getD (n + 1) 0) then back l n else n + 1
def cutOf (l : List UInt8) (m : Nat) : Nat := if validOf l = true then back l (min m l.length) else min m l.length

theorem back_le {l : List UInt8} : ∀ n, back l n ≤ n := by
  intro n
  induction n with
  | zero => simp [back]
  | succ n ih => simp only [back]; split <;> omega
theorem back_to {l : List UInt8} {i : Nat} (h0 : i = 0 ∨ ¬ (i < l.length ∧ isCont (l.getD i 0))) : ∀ k, (∀ j, i < j → j ≤ i + k → j < l.length ∧ isCont (l.getD j 0)) → back l (i + k) = i := by
  intro k
  induction k with
  | zero =>
    intro _
    cases i with
    | zero => rfl
    | succ i =>
      simp only [Nat.add_zero, back]
      rcases h0 with h | h
      · omega
      · rw [if_neg h]
  | succ k ih =>
    intro h
    show back l ((i + k) + 1) = i
    simp only [back]
    rw [if_pos (h (i + k + 1) (by omega) (by omega))]
    exact ih (fun j h1 h2 => h j h1 (by omega))

theorem next_cont {l : List UInt8} {p n : Nat} (h : nextOf l = some (p, n)) : ¬ isCont (l.getD 0 0) ∧ ∀ j, 1 ≤ j → j < n → isCont (l.getD j 0) := by
  unfold nextOf at h
  split at h
  · cases h
  split at h
  · rename_i hc
    cases h
    exact ⟨fun hh => by unfold isCont at hh; omega, fun j h1 h2 => by omega⟩
  · rename_i hc
    simp only at h
    split at h
    · cases h
    · rename_i hcond
      simp only [not_or, Classical.not_not] at hcond
      cases h
      refine ⟨fun hh => ?_, fun j h1 h2 => ?_⟩
      · apply hcond.1
        unfold isCont at hh
        unfold lead
        rw [if_neg (by omega), if_neg (by omega), if_neg (by omega)]
      · have := hcond.2.2.1 (j - 1) (by omega)
        rw [show j - 1 + 1 = j by omega] at this
        exact this

theorem uCut_spec {x : PV} {l : List UInt8} {m : Nat} (hx : x.by = some l) (hl : l.length ≤ 100000000) : call prog (.fn 61 []) [x, .int .i64 (m : Int)] st = some (.int .i64 ((cutOf l m : Nat) : Int), st) := by
  refine call_of_W prog_61 ?_
  unfold F_utf_Cut; dsimp only
  have hm1 : mnmxPV false [.int .i64 (m : Int), .int .i64 (l.length : Int)] = some (.int .i64 ((min m l.length : Nat) : Int)) := by
    simp [mnmxPV] <;> omega
  have hm2 : mnmxPV true [.int .i64 ((min m l.length : Nat) : Int), .int .i64 0] = some (.int .i64 ((min m l.length : Nat) : Int)) := by
    simp [mnmxPV] <;> omega
  have hv := fun S : St => uValid_spec (st := S) hx hl
  obtain ⟨q, hq⟩ : ∃ q, q = min m l.length := ⟨_, rfl⟩
  rw [← hq] at hm1 hm2
  have hql : q ≤ l.length := by omega
  cases hvl : validOf l with
  | false =>
    have hc : cutOf l m = q := by simp [cutOf, hvl, hq]
    rw [hc]
    simp only [hvl] at hv
    simp (maxSteps := 1000000) (disch := omega) only [len_by hx, hm1, hm2, hv, W_seq, W_region, W_cond, W_block, W_skip, W_label, W_exit, W_goto, W_ret, WO_cons, WO_consG, WO_nil, wantedA_eq, wantB, evOp, ev_tmp, ev_const, ev_fn, WN_some, WN_none, updO_some, updO_none, upd_eq,
 ↓reduceIte, Nat.reduceEqDiff, List.nil_append, List.cons_append, List.append_nil, List.map_cons, List.map_nil, env0_zero, env0_succ, env0_nil, Option.map_some, Option.map_none, seqQ_normal, seqQ_ret, seqQ_exit, seqQ_goto, blockQ_normal, blockQ_ret, blockQ_exit, blockQ_goto, condW_bool, loopQ_ret, loopQ_exit, loopQ_goto, endQ_ret, endQ_normal,
 lss_i, leq_i, gtr_i, geq_i, eql_i, neq_i, eql_8, neq_8, lss_8, leq_8, gtr_8, geq_8, eql_s, neq_s, eql_b, neq_b, not_b, by_bys, by_nils, load_cp1, beq_true, beq_false, Bool.not_eq_true', decide_eq_true_eq, decide_eq_false_iff_not, decide_true, decide_false,
 Int.toNat_natCast, Int.ofNat_lt, Int.ofNat_le, Int.natCast_inj, Bool.false_eq_true, Bool.true_eq_false, extPV, List.getElem?_cons_zero, List.getElem?_cons_succ, nilckPV, Int.reduceToNat, Int.reduceLE, true_and, and_true, reduceCtorEq, or_false, false_or, or_true, Option.some.injEq, exists_eq_left', Bool.not_true, Bool.not_false, ne_eq, Int.reduceEq, not_true_eq_false, not_false_eq_true, Int.reduceLT, UInt8.reduceLT, UInt8.reduceLE, UInt8.reduceToNat]
    exact ⟨.int .i64 (q : Int), rfl, Kept.start.leave rfl (fun _ _ => rfl)⟩
  | true =>
    have hc : cutOf l m = back l q := by simp [cutOf, hvl, hq]
    rw [hc]
    simp only [hvl] at hv
    simp (maxSteps := 1000000) (disch := omega) only [len_by hx, hm1, hm2, hv, W_seq, W_region, W_cond, W_block, W_skip, W_label, W_exit, W_goto, W_ret, WO_cons, WO_consG, WO_nil, wantedA_eq, wantB, evOp, ev_tmp, ev_const, ev_fn, WN_some, WN_none, updO_some, updO_none, upd_eq,
 ↓reduceIte, Nat.reduceEqDiff, List.nil_append, List.cons_append, List.append_nil, List.map_cons, List.map_nil, env0_zero, env0_succ, env0_nil, Option.map_some, Option.map_none, seqQ_normal, seqQ_ret, seqQ_exit, seqQ_goto, blockQ_normal, blockQ_ret, blockQ_exit, blockQ_goto, condW_bool, loopQ_ret, loopQ_exit, loopQ_goto, endQ_ret, endQ_normal,
 lss_i, leq_i, gtr_i, geq_i, eql_i, neq_i, eql_8, neq_8, lss_8, leq_8, gtr_8, geq_8, eql_s, neq_s, eql_b, neq_b, not_b, by_bys, by_nils, load_cp1, beq_true, beq_false, Bool.not_eq_true', decide_eq_true_eq, decide_eq_false_iff_not, decide_true, decide_false,
 Int.toNat_natCast, Int.ofNat_lt, Int.ofNat_le, Int.natCast_inj, Bool.false_eq_true, Bool.true_eq_false, extPV, List.getElem?_cons_zero, List.getElem?_cons_succ, nilckPV, Int.reduceToNat, Int.reduceLE, true_and, and_true, reduceCtorEq, or_false, false_or, or_true, Option.some.injEq, exists_eq_left', Bool.not_true, Bool.not_false, ne_eq, Int.reduceEq, not_true_eq_false, not_false_eq_true, Int.reduceLT, UInt8.reduceLT, UInt8.reduceLE, UInt8.reduceToNat]
    obtain ⟨I, hI⟩ : ∃ I : Nat → Env → St → Prop, I = fun k E S => ∃ i : Nat, i = k ∧ i ≤ l.length ∧ Kept st S ∧ back l i = back l q ∧ E 0 = x ∧ E 1 = .int .i64 (i : Int) := ⟨_, rfl⟩
    refine W_loop I ?_ (n := q) (by
      rw [hI]
      exact ⟨q, rfl, hql, Kept.start, rfl, rfl, rfl⟩)
    intro k e S hh
    rw [hI] at hh
    obtain ⟨i, rfl, hil, hk, hb, h0, h1⟩ := hh
    have fin : back l i = i → ∀ E : Env, E 4 = .int .i64 (i : Int) → ∃ rv, resOf E S [.tmp 4] = some rv ∧ leave st S rv = (.int .i64 ((back l q : Nat) : Int), st) := by
      intro hbi E k4
      exact ⟨.int .i64 (i : Int), by simp [resOf, rvAll, rv1, k4, notTup, packRes], by rw [← hb, hbi]; exact hk.leave rfl (fun _ _ => rfl)⟩
    cases i with
    | zero =>
      have e0 : ¬ (0 : Int) < ((0 : Nat) : Int) := by omega
      simp (maxSteps := 1000000) (disch := omega) only [h0, h1, e0, W_seq, W_region, W_cond, W_block, W_skip, W_label, W_exit, W_goto, W_ret, WO_cons, WO_consG, WO_nil, wantedA_eq, wantB, evOp, ev_tmp, ev_const, ev_fn, WN_some, WN_none, updO_some, updO_none, upd_eq,
 ↓reduceIte, Nat.reduceEqDiff, List.nil_append, List.cons_append, List.append_nil, List.map_cons, List.map_nil, env0_zero, env0_succ, env0_nil, Option.map_some, Option.map_none, seqQ_normal, seqQ_ret, seqQ_exit, seqQ_goto, blockQ_normal, blockQ_ret, blockQ_exit, blockQ_goto, condW_bool, loopQ_ret, loopQ_exit, loopQ_goto, endQ_ret, endQ_normal,
 lss_i, leq_i, gtr_i, geq_i, eql_i, neq_i, eql_8, neq_8, lss_8, leq_8, gtr_8, geq_8, eql_s, neq_s, eql_b, neq_b, not_b, by_bys, by_nils, load_cp1, beq_true, beq_false, Bool.not_eq_true', decide_eq_true_eq, decide_eq_false_iff_not, decide_true, decide_false,
 Int.toNat_natCast, Int.ofNat_lt, Int.ofNat_le, Int.natCast_inj, Bool.false_eq_true, Bool.true_eq_false, extPV, List.getElem?_cons_zero, List.getElem?_cons_succ, nilckPV, Int.reduceToNat, Int.reduceLE, true_and, and_true, reduceCtorEq, or_false, false_or, or_true, Option.some.injEq, exists_eq_left', Bool.not_true, Bool.not_false, ne_eq, Int.reduceEq, not_true_eq_false, not_false_eq_true, Int.reduceLT, UInt8.reduceLT, UInt8.reduceLE, UInt8.reduceToNat]
      exact fin rfl _ rfl
    | succ i =>
      have e0 : (0 : Int) < ((i + 1 : Nat) : Int) := by omega
      by_cases hlt : i + 1 < l.length
      · obtain ⟨d, hd⟩ : ∃ d, d = l.getD (i + 1) 0 := ⟨_, rfl⟩
        have hid : iaddrPV 1 x (.int .i64 ((i + 1 : Nat) : Int)) = some (.cp [.b8 d]) := by
          rw [hd]; exact iaddr_by hx (by omega) (by rw [Int.toNat_natCast]; omega)
        by_cases q6 : UInt8.ofNat (d.toNat / 64) = 2
        · have hdc := (isC d).1 q6
          simp (maxSteps := 1000000) (disch := omega) only [h0, h1, e0, len_by hx, hlt, hid, load_cp1, shr6, eq_true q6, sub_n, W_seq, W_region, W_cond, W_block, W_skip, W_label, W_exit, W_goto, W_ret, WO_cons, WO_consG, WO_nil, wantedA_eq, wantB, evOp, ev_tmp, ev_const, ev_fn, WN_some, WN_none, updO_some, updO_none, upd_eq,
 ↓reduceIte, Nat.reduceEqDiff, List.nil_append, List.cons_append, List.append_nil, List.map_cons, List.map_nil, env0_zero, env0_succ, env0_nil, Option.map_some, Option.map_none, seqQ_normal, seqQ_ret, seqQ_exit, seqQ_goto, blockQ_normal, blockQ_ret, blockQ_exit, blockQ_goto, condW_bool, loopQ_ret, loopQ_exit, loopQ_goto, endQ_ret, endQ_normal,
 lss_i, leq_i, gtr_i, geq_i, eql_i, neq_i, eql_8, neq_8, lss_8, leq_8, gtr_8, geq_8, eql_s, neq_s, eql_b, neq_b, not_b, by_bys, by_nils, load_cp1, beq_true, beq_false, Bool.not_eq_true', decide_eq_true_eq, decide_eq_false_iff_not, decide_true, decide_false,
 Int.toNat_natCast, Int.ofNat_lt, Int.ofNat_le, Int.natCast_inj, Bool.false_eq_true, Bool.true_eq_false, extPV, List.getElem?_cons_zero, List.getElem?_cons_succ, nilckPV, Int.reduceToNat, Int.reduceLE, true_and, and_true, reduceCtorEq, or_false, false_or, or_true, Option.some.injEq, exists_eq_left', Bool.not_true, Bool.not_false, ne_eq, Int.reduceEq, not_true_eq_false, not_false_eq_true, Int.reduceLT, UInt8.reduceLT, UInt8.reduceLE, UInt8.reduceToNat]
          refine loopQ_intro (m := i) (by omega) ?_
          rw [hI]
          refine ⟨i, rfl, by omega, hk, ?_, h0, rfl⟩
          rw [← hb]
          simp only [back]
          rw [if_pos ⟨hlt, by rw [← hd]; exact hdc⟩]
        · have hdc : ¬ isCont d := fun h => q6 ((isC d).2 h)
          simp (maxSteps := 1000000) (disch := omega) only [h0, h1, e0, len_by hx, hlt, hid, load_cp1, shr6, q6, W_seq, W_region, W_cond, W_block, W_skip, W_label, W_exit, W_goto, W_ret, WO_cons, WO_consG, WO_nil, wantedA_eq, wantB, evOp, ev_tmp, ev_const, ev_fn, WN_some, WN_none, updO_some, updO_none, upd_eq,
 ↓reduceIte, Nat.reduceEqDiff, List.nil_append, List.cons_append, List.append_nil, List.map_cons, List.map_nil, env0_zero, env0_succ, env0_nil, Option.map_some, Option.map_none, seqQ_normal, seqQ_ret, seqQ_exit, seqQ_goto, blockQ_normal, blockQ_ret, blockQ_exit, blockQ_goto, condW_bool, loopQ_ret, loopQ_exit, loopQ_goto, endQ_ret, endQ_normal,
 lss_i, leq_i, gtr_i, geq_i, eql_i, neq_i, eql_8, neq_8, lss_8, leq_8, gtr_8, geq_8, eql_s, neq_s, eql_b, neq_b, not_b, by_bys, by_nils, load_cp1, beq_true, beq_false, Bool.not_eq_true', decide_eq_true_eq, decide_eq_false_iff_not, decide_true, decide_false,
 Int.toNat_natCast, Int.ofNat_lt, Int.ofNat_le, Int.natCast_inj, Bool.false_eq_true, Bool.true_eq_false, extPV, List.getElem?_cons_zero, List.getElem?_cons_succ, nilckPV, Int.reduceToNat, Int.reduceLE, true_and, and_true, reduceCtorEq, or_false, false_or, or_true, Option.some.injEq, exists_eq_left', Bool.not_true, Bool.not_false, ne_eq, Int.reduceEq, not_true_eq_false, not_false_eq_true, Int.reduceLT, UInt8.reduceLT, UInt8.reduceLE, UInt8.reduceToNat]
          exact fin (by simp only [back]; rw [if_neg (by rw [← hd]; exact fun h => hdc h.2)]) _ rfl
      · simp (maxSteps := 1000000) (disch := omega) only [h0, h1, e0, len_by hx, hlt, W_seq, W_region, W_cond, W_block, W_skip, W_label, W_exit, W_goto, W_ret, WO_cons, WO_consG, WO_nil, wantedA_eq, wantB, evOp, ev_tmp, ev_const, ev_fn, WN_some, WN_none, updO_some, updO_none, upd_eq,
 ↓reduceIte, Nat.reduceEqDiff, List.nil_append, List.cons_append, List.append_nil, List.map_cons, List.map_nil, env0_zero, env0_succ, env0_nil, Option.map_some, Option.map_none, seqQ_normal, seqQ_ret, seqQ_exit, seqQ_goto, blockQ_normal, blockQ_ret, blockQ_exit, blockQ_goto, condW_bool, loopQ_ret, loopQ_exit, loopQ_goto, endQ_ret, endQ_normal,
 lss_i, leq_i, gtr_i, geq_i, eql_i, neq_i, eql_8, neq_8, lss_8, leq_8, gtr_8, geq_8, eql_s, neq_s, eql_b, neq_b, not_b, by_bys, by_nils, load_cp1, beq_true, beq_false, Bool.not_eq_true', decide_eq_true_eq, decide_eq_false_iff_not, decide_true, decide_false,
 Int.toNat_natCast, Int.ofNat_lt, Int.ofNat_le, Int.natCast_inj, Bool.false_eq_true, Bool.true_eq_false, extPV, List.getElem?_cons_zero, List.getElem?_cons_succ, nilckPV, Int.reduceToNat, Int.reduceLE, true_and, and_true, reduceCtorEq, or_false, false_or, or_true, Option.some.injEq, exists_eq_left', Bool.not_true, Bool.not_false, ne_eq, Int.reduceEq, not_true_eq_false, not_false_eq_true, Int.reduceLT, UInt8.reduceLT, UInt8.reduceLE, UInt8.reduceToNat]
        exact fin (by simp only [back]; rw [if_neg (fun h => hlt h.1)]) _ rfl
end Go.Ab
