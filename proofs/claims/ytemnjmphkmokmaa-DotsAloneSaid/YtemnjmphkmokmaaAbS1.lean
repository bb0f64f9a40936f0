/-
  What the smallest functions come to.
-/
import Derived.Test.YtemnjmphkmokmaaAbSimp
import Derived.Test.YtemnjmphkmokmaaAbProg5
namespace Go.Ab
set_option linter.unusedVariables false
set_option linter.unusedSimpArgs false
variable {st : St} {e : Env}

theorem Equal_spec {x y : PV} {a b : List UInt8} (hx : x.by = some a) (hy : y.by = some b) : call prog (.fn 34 []) [x, y] st = some (.bool (decide (a = b)), st) := by
  refine call_of_W prog_34 ?_
  unfold F_bytes_Equal; dsimp only
  simp only [b2s_by hx, b2s_by hy, W_seq, W_region, W_cond, W_block, W_skip, W_label, W_exit, W_goto, W_ret, WO_cons, WO_consG, WO_nil, wantedA_eq, wantB, evOp, ev_tmp, ev_const, ev_fn, WN_some, WN_none, updO_some, updO_none, upd_eq,
 ↓reduceIte, Nat.reduceEqDiff, List.nil_append, List.cons_append, List.append_nil, List.map_cons, List.map_nil, env0_zero, env0_succ, env0_nil, Option.map_some, Option.map_none, seqQ_normal, seqQ_ret, seqQ_exit, seqQ_goto, blockQ_normal, blockQ_ret, blockQ_exit, blockQ_goto, condW_bool, loopQ_ret, loopQ_exit, loopQ_goto, endQ_ret, endQ_normal,
 lss_i, leq_i, gtr_i, geq_i, eql_i, neq_i, eql_8, neq_8, lss_8, leq_8, gtr_8, geq_8, eql_s, neq_s, eql_b, neq_b, not_b, by_bys, by_nils, load_cp1, beq_true, beq_false, Bool.not_eq_true', decide_eq_true_eq, decide_eq_false_iff_not, decide_true, decide_false,
 Int.toNat_natCast, Int.ofNat_lt, Int.ofNat_le, Int.natCast_inj, Bool.false_eq_true, Bool.true_eq_false, extPV, List.getElem?_cons_zero, List.getElem?_cons_succ, nilckPV, Int.reduceToNat, Int.reduceLE, true_and, and_true, reduceCtorEq, or_false, false_or, or_true, Option.some.injEq, exists_eq_left', Bool.not_true, Bool.not_false]
  exact ⟨_, rfl, leave_pure rfl rfl⟩

theorem HasSuffix_spec {x y : PV} {a b : List UInt8} (hx : x.by = some a) (hy : y.by = some b) (ha : a.length < 4611686018427387904) : call prog (.fn 28 []) [x, y] st = some (.bool (decide (b <:+ a)), st) := by
  refine call_of_W prog_28 ?_
  by_cases h : b.length ≤ a.length
  · have hs : (x.dropB (a.length - b.length)).by = some (a.drop (a.length - b.length)) := dropB_by hx
    have h' : (b.length : Int) ≤ a.length := by omega
    unfold F_bytes_HasSuffix; dsimp only
    simp (maxSteps := 1000000) (disch := omega) only [len_by hx, len_by hy, h', sub_n, slc_lo hx, Equal_spec hs hy, W_seq, W_region, W_cond, W_block, W_skip, W_label, W_exit, W_goto, W_ret, WO_cons, WO_consG, WO_nil, wantedA_eq, wantB, evOp, ev_tmp, ev_const, ev_fn, WN_some, WN_none, updO_some, updO_none, upd_eq,
 ↓reduceIte, Nat.reduceEqDiff, List.nil_append, List.cons_append, List.append_nil, List.map_cons, List.map_nil, env0_zero, env0_succ, env0_nil, Option.map_some, Option.map_none, seqQ_normal, seqQ_ret, seqQ_exit, seqQ_goto, blockQ_normal, blockQ_ret, blockQ_exit, blockQ_goto, condW_bool, loopQ_ret, loopQ_exit, loopQ_goto, endQ_ret, endQ_normal,
 lss_i, leq_i, gtr_i, geq_i, eql_i, neq_i, eql_8, neq_8, lss_8, leq_8, gtr_8, geq_8, eql_s, neq_s, eql_b, neq_b, not_b, by_bys, by_nils, load_cp1, beq_true, beq_false, Bool.not_eq_true', decide_eq_true_eq, decide_eq_false_iff_not, decide_true, decide_false,
 Int.toNat_natCast, Int.ofNat_lt, Int.ofNat_le, Int.natCast_inj, Bool.false_eq_true, Bool.true_eq_false, extPV, List.getElem?_cons_zero, List.getElem?_cons_succ, nilckPV, Int.reduceToNat, Int.reduceLE, true_and, and_true, reduceCtorEq, or_false, false_or, or_true, Option.some.injEq, exists_eq_left', Bool.not_true, Bool.not_false]
    refine ⟨_, rfl, ?_⟩
    rw [show decide (a.drop (a.length - b.length) = b) = decide (b <:+ a) by
      rw [decide_eq_decide]
      exact ⟨fun hd => hd ▸ List.drop_suffix _ _, fun hd => by
        obtain ⟨t, rfl⟩ := hd
        simp⟩]
    exact leave_pure rfl rfl
  · have h' : ¬ (b.length : Int) ≤ a.length := by omega
    unfold F_bytes_HasSuffix; dsimp only
    simp (maxSteps := 1000000) (disch := omega) only [len_by hx, len_by hy, h', W_seq, W_region, W_cond, W_block, W_skip, W_label, W_exit, W_goto, W_ret, WO_cons, WO_consG, WO_nil, wantedA_eq, wantB, evOp, ev_tmp, ev_const, ev_fn, WN_some, WN_none, updO_some, updO_none, upd_eq,
 ↓reduceIte, Nat.reduceEqDiff, List.nil_append, List.cons_append, List.append_nil, List.map_cons, List.map_nil, env0_zero, env0_succ, env0_nil, Option.map_some, Option.map_none, seqQ_normal, seqQ_ret, seqQ_exit, seqQ_goto, blockQ_normal, blockQ_ret, blockQ_exit, blockQ_goto, condW_bool, loopQ_ret, loopQ_exit, loopQ_goto, endQ_ret, endQ_normal,
 lss_i, leq_i, gtr_i, geq_i, eql_i, neq_i, eql_8, neq_8, lss_8, leq_8, gtr_8, geq_8, eql_s, neq_s, eql_b, neq_b, not_b, by_bys, by_nils, load_cp1, beq_true, beq_false, Bool.not_eq_true', decide_eq_true_eq, decide_eq_false_iff_not, decide_true, decide_false,
 Int.toNat_natCast, Int.ofNat_lt, Int.ofNat_le, Int.natCast_inj, Bool.false_eq_true, Bool.true_eq_false, extPV, List.getElem?_cons_zero, List.getElem?_cons_succ, nilckPV, Int.reduceToNat, Int.reduceLE, true_and, and_true, reduceCtorEq, or_false, false_or, or_true, Option.some.injEq, exists_eq_left', Bool.not_true, Bool.not_false]
    refine ⟨_, rfl, ?_⟩
    rw [show decide (b <:+ a) = false by
      rw [decide_eq_false_iff_not]
      intro hd
      exact h hd.length_le]
    exact leave_pure rfl rfl
end Go.Ab
