/-
  The first laws on dots.
-/
import Derived.Test.YtemnjmphkmokmaaAbA5
namespace Go.Ab
set_option linter.unusedVariables false
set_option linter.unusedSimpArgs false

theorem al0 : call prog (.fn 2 []) [] ⟨[], [], [], 0⟩ = some (.bool true, ⟨[], [], [], 0⟩) := call_of alive5_0
theorem al1 : call prog (.fn 2 []) [] ⟨[], [true], [], 0⟩ = some (.bool true, ⟨[], [true], [], 0⟩) := call_of alive5_1
theorem al2 : call prog (.fn 2 []) [] ⟨[], [true, true], [], 0⟩ = some (.bool true, ⟨[], [true, true], [], 0⟩) := call_of alive5_2

theorem eql_fV {f : Int × Int} : binPV .eql (.struct [.i, .i]) (fV f) (fV f) = some (.bool true) := by
  simp [binPV, fV, eqPV, eqCells, eqLeaf]

theorem law_DotsStuffs {x : PV} {l : List UInt8} (hx : x.by = some l) (hxt : x.tokLt 0 = true) : ∃ s', call prog (.fn 7 []) [x] ⟨[], [], [], 0⟩ = some (.bool true, s') := by
  have fin : ∀ ts (e : Env), e 1 = .bool true → ∃ s', leave ⟨[], [], [], 0⟩ ⟨[], ts, [], 0⟩ (.bool true) = (.bool true, s') := fun ts e h => ⟨_, by simp [leave, PV.inB, keepRes, keepVal, keepLeaf]; rfl⟩
  suffices h : ∃ ts, call prog (.fn 7 []) [x] ⟨[], [], [], 0⟩ = some (leave ⟨[], [], [], 0⟩ ⟨[], ts, [], 0⟩ (.bool true)) by
    obtain ⟨ts, h⟩ := h
    exact ⟨_, by rw [h]; simp [leave, PV.inB, keepRes, keepVal, keepLeaf]; rfl⟩
  by_cases hl : 4000 < l.length
  · have hl' : (4000 : Int) < (l.length : Int) := by omega
    refine ⟨[], ?_⟩
    refine call_of_W prog_7 ?_
    unfold F_posthornlaw05_DotsStuffs; dsimp only
    simp (maxSteps := 1000000) (disch := omega) only [len_by hx, hl', List.length_nil, al0, W_seq, W_region, W_cond, W_block, W_skip, W_label, W_exit, W_goto, W_ret, WO_cons, WO_consG, WO_nil, wantedA_eq, wantB, evOp, ev_tmp, ev_const, ev_fn, WN_some, WN_none, updO_some, updO_none, upd_eq,
 ↓reduceIte, Nat.reduceEqDiff, List.nil_append, List.cons_append, List.append_nil, List.map_cons, List.map_nil, env0_zero, env0_succ, env0_nil, Option.map_some, Option.map_none, seqQ_normal, seqQ_ret, seqQ_exit, seqQ_goto, blockQ_normal, blockQ_ret, blockQ_exit, blockQ_goto, condW_bool, loopQ_ret, loopQ_exit, loopQ_goto, endQ_ret, endQ_normal,
 lss_i, leq_i, gtr_i, geq_i, eql_i, neq_i, eql_8, neq_8, lss_8, leq_8, gtr_8, geq_8, eql_s, neq_s, eql_b, neq_b, not_b, by_bys, by_nils, load_cp1, beq_true, beq_false, Bool.not_eq_true', decide_eq_true_eq, decide_eq_false_iff_not, decide_true, decide_false,
 Int.toNat_natCast, Int.ofNat_lt, Int.ofNat_le, Int.natCast_inj, Bool.false_eq_true, Bool.true_eq_false, extPV, List.getElem?_cons_zero, List.getElem?_cons_succ, nilckPV, Int.reduceToNat, Int.reduceLE, true_and, and_true, reduceCtorEq, or_false, false_or, or_true, Option.some.injEq, exists_eq_left', Bool.not_true, Bool.not_false, ne_eq, Int.reduceEq, not_true_eq_false, not_false_eq_true, Int.reduceLT, UInt8.reduceLT, UInt8.reduceLE, UInt8.reduceToNat]
    exact ⟨.bool true, rfl, rfl⟩
  · have hl' : ¬ (4000 : Int) < (l.length : Int) := by omega
    have h1 : ∀ ts, call prog (.fn 3 []) [x] ⟨[], ts, [], 0⟩ = some (if (rightOf l).2 ≠ 0 then (.tup [.nils, .int .i64 (rightOf l).2], ⟨[], ts, [], 0⟩) else (.tup [.bys (.own ts.length) (stuffOf l), .int .i64 0], ⟨[], ts ++ [true], [], 0⟩)) := fun ts => dStuff_spec hx (by omega) (tokLt_mono hxt (by omega))
    have h2 : ∀ ts, call prog (.fn 4 []) [x] ⟨[], ts, [], 0⟩ = some (if (rightOf l).2 ≠ 0 then (.tup [.nils, .int .i64 (rightOf l).2], ⟨[], ts, [], 0⟩) else (.tup [.bys (.own ts.length) (stuffOf l), .int .i64 0], ⟨[], ts ++ [true], [], 0⟩)) := fun ts => rStuff_spec hx (by omega)
    have h3 : ∀ ts, call prog (.fn 5 []) [x] ⟨[], ts, [], 0⟩ = some (fV (rightOf l), ⟨[], ts, [], 0⟩) := fun ts => dRight_spec hx (by omega) (tokLt_mono hxt (by omega))
    have h4 : ∀ ts, call prog (.fn 6 []) [x] ⟨[], ts, [], 0⟩ = some (fV (rightOf l), ⟨[], ts, [], 0⟩) := fun ts => rRight_spec hx (by omega)
    by_cases hr : (rightOf l).2 = 0
    · refine ⟨[true, true], ?_⟩
      refine call_of_W prog_7 ?_
      unfold F_posthornlaw05_DotsStuffs; dsimp only
      simp (maxSteps := 1000000) (disch := omega) only [len_by hx, hl', List.length_nil, h1, h2, hr, List.length_cons, Nat.zero_add, al2, h3, h4, eql_fV, b2s, W_seq, W_region, W_cond, W_block, W_skip, W_label, W_exit, W_goto, W_ret, WO_cons, WO_consG, WO_nil, wantedA_eq, wantB, evOp, ev_tmp, ev_const, ev_fn, WN_some, WN_none, updO_some, updO_none, upd_eq,
 ↓reduceIte, Nat.reduceEqDiff, List.nil_append, List.cons_append, List.append_nil, List.map_cons, List.map_nil, env0_zero, env0_succ, env0_nil, Option.map_some, Option.map_none, seqQ_normal, seqQ_ret, seqQ_exit, seqQ_goto, blockQ_normal, blockQ_ret, blockQ_exit, blockQ_goto, condW_bool, loopQ_ret, loopQ_exit, loopQ_goto, endQ_ret, endQ_normal,
 lss_i, leq_i, gtr_i, geq_i, eql_i, neq_i, eql_8, neq_8, lss_8, leq_8, gtr_8, geq_8, eql_s, neq_s, eql_b, neq_b, not_b, by_bys, by_nils, load_cp1, beq_true, beq_false, Bool.not_eq_true', decide_eq_true_eq, decide_eq_false_iff_not, decide_true, decide_false,
 Int.toNat_natCast, Int.ofNat_lt, Int.ofNat_le, Int.natCast_inj, Bool.false_eq_true, Bool.true_eq_false, extPV, List.getElem?_cons_zero, List.getElem?_cons_succ, nilckPV, Int.reduceToNat, Int.reduceLE, true_and, and_true, reduceCtorEq, or_false, false_or, or_true, Option.some.injEq, exists_eq_left', Bool.not_true, Bool.not_false, ne_eq, Int.reduceEq, not_true_eq_false, not_false_eq_true, Int.reduceLT, UInt8.reduceLT, UInt8.reduceLE, UInt8.reduceToNat]
      exact ⟨.bool true, rfl, rfl⟩
    · refine ⟨[], ?_⟩
      refine call_of_W prog_7 ?_
      unfold F_posthornlaw05_DotsStuffs; dsimp only
      simp (maxSteps := 1000000) (disch := omega) only [len_by hx, hl', List.length_nil, h1, h2, hr, al0, h3, h4, eql_fV, b2s, W_seq, W_region, W_cond, W_block, W_skip, W_label, W_exit, W_goto, W_ret, WO_cons, WO_consG, WO_nil, wantedA_eq, wantB, evOp, ev_tmp, ev_const, ev_fn, WN_some, WN_none, updO_some, updO_none, upd_eq,
 ↓reduceIte, Nat.reduceEqDiff, List.nil_append, List.cons_append, List.append_nil, List.map_cons, List.map_nil, env0_zero, env0_succ, env0_nil, Option.map_some, Option.map_none, seqQ_normal, seqQ_ret, seqQ_exit, seqQ_goto, blockQ_normal, blockQ_ret, blockQ_exit, blockQ_goto, condW_bool, loopQ_ret, loopQ_exit, loopQ_goto, endQ_ret, endQ_normal,
 lss_i, leq_i, gtr_i, geq_i, eql_i, neq_i, eql_8, neq_8, lss_8, leq_8, gtr_8, geq_8, eql_s, neq_s, eql_b, neq_b, not_b, by_bys, by_nils, load_cp1, beq_true, beq_false, Bool.not_eq_true', decide_eq_true_eq, decide_eq_false_iff_not, decide_true, decide_false,
 Int.toNat_natCast, Int.ofNat_lt, Int.ofNat_le, Int.natCast_inj, Bool.false_eq_true, Bool.true_eq_false, extPV, List.getElem?_cons_zero, List.getElem?_cons_succ, nilckPV, Int.reduceToNat, Int.reduceLE, true_and, and_true, reduceCtorEq, or_false, false_or, or_true, Option.some.injEq, exists_eq_left', Bool.not_true, Bool.not_false, ne_eq, Int.reduceEq, not_true_eq_false, not_false_eq_true, Int.reduceLT, UInt8.reduceLT, UInt8.reduceLE, UInt8.reduceToNat]
      exact ⟨.bool true, rfl, rfl⟩
end Go.Ab
