/-
  What is wrong with a text: the document's answer.
-/
import Derived.Test.YtemnjmphkmokmaaAbS6
namespace Go.Ab
set_option linter.unusedVariables false
set_option linter.unusedSimpArgs false
variable {st : St} {e : Env}

theorem rightGo_append {n : Nat} {a b : List (Nat × List UInt8 × Bool)} (h : ∀ q ∈ a, (faultOf n q).2 = 0) : rightGo n (a ++ b) = rightGo n b := by
  induction a with
  | nil => rfl
  | cons q a ih =>
    simp only [List.cons_append, rightGo]
    rw [if_neg (by simpa using h q (by simp)), ih (fun q' h' => h q' (by simp [h']))]

theorem place_len {ss : List (List UInt8 × Bool)} {a : Nat} : (place a ss).length = ss.length := by
  induction ss generalizing a with
  | nil => rfl
  | cons q r ih => obtain ⟨b, w⟩ := q; simp [place, ih]
theorem segs_len : ∀ (m acc : List UInt8), (segs m acc).length ≤ m.length + 1 := by
  intro m acc
  induction m, acc using segs.induct with
  | case1 => simp [segs]
  | case2 acc h => simp [segs, h]
  | case3 acc c => simp [segs]
  | case4 acc c d r h ih => simp only [segs, h, and_self, if_true, List.length_cons]; omega
  | case5 acc c d r h ih => simp only [segs, h, if_false, List.length_cons] at ih ⊢; omega

theorem rRight_spec {x : PV} {l : List UInt8} (hx : x.by = some l) (hl : l.length ≤ 1000000) : call prog (.fn 6 []) [x] st = some (fV (rightOf l), st) := by
  refine call_of_W prog_6 ?_
  unfold F_posthornref05_Right; dsimp only
  have hcl : ∀ i : Nat, i < (refLines l).length → (((refLines l).map lnV).getD i .undef).cells = [.int .i64 ((((refLines l).getD i (0, [], false)).1 : Nat) : Int), .bys .no ((refLines l).getD i (0, [], false)).2.1, .bool ((refLines l).getD i (0, [], false)).2.2] := fun i hi => by
    simp [List.getD, hi, lnV, PV.cells]
  simp (maxSteps := 1000000) (disch := omega) only [allocPV, Lines_spec hx hl, newS_eq, W_seq, W_region, W_cond, W_block, W_skip, W_label, W_exit, W_goto, W_ret, WO_cons, WO_consG, WO_nil, wantedA_eq, wantB, evOp, ev_tmp, ev_const, ev_fn, WN_some, WN_none, updO_some, updO_none, upd_eq,
 ↓reduceIte, Nat.reduceEqDiff, List.nil_append, List.cons_append, List.append_nil, List.map_cons, List.map_nil, env0_zero, env0_succ, env0_nil, Option.map_some, Option.map_none, seqQ_normal, seqQ_ret, seqQ_exit, seqQ_goto, blockQ_normal, blockQ_ret, blockQ_exit, blockQ_goto, condW_bool, loopQ_ret, loopQ_exit, loopQ_goto, endQ_ret, endQ_normal,
 lss_i, leq_i, gtr_i, geq_i, eql_i, neq_i, eql_8, neq_8, lss_8, leq_8, gtr_8, geq_8, eql_s, neq_s, eql_b, neq_b, not_b, by_bys, by_nils, load_cp1, beq_true, beq_false, Bool.not_eq_true', decide_eq_true_eq, decide_eq_false_iff_not, decide_true, decide_false,
 Int.toNat_natCast, Int.ofNat_lt, Int.ofNat_le, Int.natCast_inj, Bool.false_eq_true, Bool.true_eq_false, extPV, List.getElem?_cons_zero, List.getElem?_cons_succ, nilckPV, Int.reduceToNat, Int.reduceLE, true_and, and_true, reduceCtorEq, or_false, false_or, or_true, Option.some.injEq, exists_eq_left', Bool.not_true, Bool.not_false, ne_eq, Int.reduceEq, not_true_eq_false, not_false_eq_true, Int.reduceLT, UInt8.reduceLT, UInt8.reduceLE, UInt8.reduceToNat]
  generalize hv : newSl _ 3 _ = v
  have hvs : v.vs 3 = some ((refLines l).map lnV) := by rw [← hv]; exact newSl_vs
  generalize hts : (if ((refLines l).map lnV).isEmpty = true then ([] : List Bool) else [true]) = ts
  have hlen : ((refLines l).map lnV).length = (refLines l).length := by simp
  have hll : (refLines l).length ≤ 2000000 := by
    have := segs_len l []
    simp only [refLines, place_len]; omega
  have hst : ∀ a b ts ls lo, storePV ⟨st.boxes ++ [[.int .i64 0, .int .i64 0]], ts, ls, lo⟩ 2 (.ptr st.boxes.length 0) (.agg [.int .i64 a, .int .i64 b]) =
      some ⟨st.boxes ++ [[.int .i64 a, .int .i64 b]], ts, ls, lo⟩ := fun a b ts ls lo => by
    simp [storePV, PV.cells, PV.inB, PV.inB.inBAll, setCells, hasTok, tokOf, leafOk]
  have fin : ∀ (f : Int × Int) (e2 : Env), e2 2 = .ptr st.boxes.length 0 → ∃ rv, resOf e2 ⟨st.boxes ++ [[.int .i64 f.1, .int .i64 f.2]], st.toks ++ ts, st.loops, st.boxes.length⟩ [.cell 2 true 2] = some rv ∧ leave st ⟨st.boxes ++ [[.int .i64 f.1, .int .i64 f.2]], st.toks ++ ts, st.loops, st.boxes.length⟩ rv = (fV f, st) := fun f e2 h => by
    refine ⟨fV f, ?_, leave_gone rfl rfl⟩
    simp [resOf, rvAll, rv1, h, loadPV, readCells, notTup, packRes, fV]
  obtain ⟨I, hI⟩ : ∃ I : Nat → Env → St → Prop, I = fun n e s => ∃ i : Nat, n = (refLines l).length - i ∧ i ≤ (refLines l).length ∧ (∀ q ∈ (refLines l).take i, (faultOf l.length q).2 = 0) ∧ s = ⟨st.boxes ++ [[.int .i64 0, .int .i64 0]], st.toks ++ ts, st.loops, st.boxes.length⟩ ∧ e 0 = x ∧ e 2 = .ptr st.boxes.length 0 ∧ e 3 = v ∧ e 4 = .int .i64 (i : Int) := ⟨_, rfl⟩
  refine W_loop I ?_ (n := (refLines l).length) (by rw [hI]; exact ⟨0, rfl, by omega, by simp, rfl, rfl, rfl, rfl, rfl⟩)
  intro n e s h
  rw [hI] at h
  obtain ⟨i, rfl, hi, hn, rfl, h0, h2, h3, h4⟩ := h
  by_cases hlt : i < (refLines l).length
  · have hget : (refLines l).getD i (0, [], false) ∈ refLines l := by simp [List.getD, hlt]
    have hsplit : rightOf l = rightGo l.length ((refLines l).getD i (0, [], false) :: (refLines l).drop (i + 1)) := by
      unfold rightOf
      conv => lhs; rw [← List.take_append_drop i (refLines l)]
      rw [rightGo_append hn, List.drop_eq_getElem_cons hlt]
      simp [List.getD, hlt]
    have hc := hcl i hlt
    generalize hq : (refLines l).getD i (0, [], false) = q at hc hget hsplit
    have hqo := refLines_ok q hget
    have hb2 := bareAt_lt (l := q.2.1)
    have hq1 := hqo.1
    by_cases c1 : 0 ≤ bareAt q.2.1
    · have hr : rightOf l = ((q.1 : Int) + bareAt q.2.1, 41) := by
        rw [hsplit]; simp [rightGo, faultOf, c1]
      simp (maxSteps := 1000000) (disch := omega) only [h0, h2, h3, h4, hlt, len_vs hvs, hlen, iaddr_vs hvs, hc, faddrPV, List.drop_succ_cons, List.drop_zero, loadPV, readCells, rbare_spec by_bys, c1, add_i, build2 Leaf_int Leaf_int, hst, W_seq, W_region, W_cond, W_block, W_skip, W_label, W_exit, W_goto, W_ret, WO_cons, WO_consG, WO_nil, wantedA_eq, wantB, evOp, ev_tmp, ev_const, ev_fn, WN_some, WN_none, updO_some, updO_none, upd_eq,
 ↓reduceIte, Nat.reduceEqDiff, List.nil_append, List.cons_append, List.append_nil, List.map_cons, List.map_nil, env0_zero, env0_succ, env0_nil, Option.map_some, Option.map_none, seqQ_normal, seqQ_ret, seqQ_exit, seqQ_goto, blockQ_normal, blockQ_ret, blockQ_exit, blockQ_goto, condW_bool, loopQ_ret, loopQ_exit, loopQ_goto, endQ_ret, endQ_normal,
 lss_i, leq_i, gtr_i, geq_i, eql_i, neq_i, eql_8, neq_8, lss_8, leq_8, gtr_8, geq_8, eql_s, neq_s, eql_b, neq_b, not_b, by_bys, by_nils, load_cp1, beq_true, beq_false, Bool.not_eq_true', decide_eq_true_eq, decide_eq_false_iff_not, decide_true, decide_false,
 Int.toNat_natCast, Int.ofNat_lt, Int.ofNat_le, Int.natCast_inj, Bool.false_eq_true, Bool.true_eq_false, extPV, List.getElem?_cons_zero, List.getElem?_cons_succ, nilckPV, Int.reduceToNat, Int.reduceLE, true_and, and_true, reduceCtorEq, or_false, false_or, or_true, Option.some.injEq, exists_eq_left', Bool.not_true, Bool.not_false, ne_eq, Int.reduceEq, not_true_eq_false, not_false_eq_true, Int.reduceLT, UInt8.reduceLT, UInt8.reduceLE, UInt8.reduceToNat]
      rw [hr]; exact fin ((q.1 : Int) + bareAt q.2.1, 41) _ h2
    · by_cases c2 : 998 < q.2.1.length
      · have c2' : (998 : Int) < (q.2.1.length : Int) := by omega
        have hr : rightOf l = ((q.1 : Int), 40) := by
          rw [hsplit]; simp [rightGo, faultOf, c1, c2]
        simp (maxSteps := 1000000) (disch := omega) only [h0, h2, h3, h4, hlt, len_vs hvs, hlen, iaddr_vs hvs, hc, faddrPV, List.drop_succ_cons, List.drop_zero, loadPV, readCells, rbare_spec by_bys, len_by by_bys, c1, c2', build2 Leaf_int Leaf_int, hst, W_seq, W_region, W_cond, W_block, W_skip, W_label, W_exit, W_goto, W_ret, WO_cons, WO_consG, WO_nil, wantedA_eq, wantB, evOp, ev_tmp, ev_const, ev_fn, WN_some, WN_none, updO_some, updO_none, upd_eq,
 ↓reduceIte, Nat.reduceEqDiff, List.nil_append, List.cons_append, List.append_nil, List.map_cons, List.map_nil, env0_zero, env0_succ, env0_nil, Option.map_some, Option.map_none, seqQ_normal, seqQ_ret, seqQ_exit, seqQ_goto, blockQ_normal, blockQ_ret, blockQ_exit, blockQ_goto, condW_bool, loopQ_ret, loopQ_exit, loopQ_goto, endQ_ret, endQ_normal,
 lss_i, leq_i, gtr_i, geq_i, eql_i, neq_i, eql_8, neq_8, lss_8, leq_8, gtr_8, geq_8, eql_s, neq_s, eql_b, neq_b, not_b, by_bys, by_nils, load_cp1, beq_true, beq_false, Bool.not_eq_true', decide_eq_true_eq, decide_eq_false_iff_not, decide_true, decide_false,
 Int.toNat_natCast, Int.ofNat_lt, Int.ofNat_le, Int.natCast_inj, Bool.false_eq_true, Bool.true_eq_false, extPV, List.getElem?_cons_zero, List.getElem?_cons_succ, nilckPV, Int.reduceToNat, Int.reduceLE, true_and, and_true, reduceCtorEq, or_false, false_or, or_true, Option.some.injEq, exists_eq_left', Bool.not_true, Bool.not_false, ne_eq, Int.reduceEq, not_true_eq_false, not_false_eq_true, Int.reduceLT, UInt8.reduceLT, UInt8.reduceLE, UInt8.reduceToNat]
        rw [hr]; exact fin ((q.1 : Int), 40) _ h2
      · have c2' : ¬ (998 : Int) < (q.2.1.length : Int) := by omega
        cases c3 : q.2.2 with
        | false =>
          have hr : rightOf l = ((l.length : Int), 42) := by
            rw [hsplit]; simp [rightGo, faultOf, c1, c2, c3]
          simp (maxSteps := 1000000) (disch := omega) only [h0, h2, h3, h4, hlt, len_vs hvs, hlen, iaddr_vs hvs, hc, c3, faddrPV, List.drop_succ_cons, List.drop_zero, loadPV, readCells, rbare_spec by_bys, len_by by_bys, len_by hx, c1, c2', build2 Leaf_int Leaf_int, hst, W_seq, W_region, W_cond, W_block, W_skip, W_label, W_exit, W_goto, W_ret, WO_cons, WO_consG, WO_nil, wantedA_eq, wantB, evOp, ev_tmp, ev_const, ev_fn, WN_some, WN_none, updO_some, updO_none, upd_eq,
 ↓reduceIte, Nat.reduceEqDiff, List.nil_append, List.cons_append, List.append_nil, List.map_cons, List.map_nil, env0_zero, env0_succ, env0_nil, Option.map_some, Option.map_none, seqQ_normal, seqQ_ret, seqQ_exit, seqQ_goto, blockQ_normal, blockQ_ret, blockQ_exit, blockQ_goto, condW_bool, loopQ_ret, loopQ_exit, loopQ_goto, endQ_ret, endQ_normal,
 lss_i, leq_i, gtr_i, geq_i, eql_i, neq_i, eql_8, neq_8, lss_8, leq_8, gtr_8, geq_8, eql_s, neq_s, eql_b, neq_b, not_b, by_bys, by_nils, load_cp1, beq_true, beq_false, Bool.not_eq_true', decide_eq_true_eq, decide_eq_false_iff_not, decide_true, decide_false,
 Int.toNat_natCast, Int.ofNat_lt, Int.ofNat_le, Int.natCast_inj, Bool.false_eq_true, Bool.true_eq_false, extPV, List.getElem?_cons_zero, List.getElem?_cons_succ, nilckPV, Int.reduceToNat, Int.reduceLE, true_and, and_true, reduceCtorEq, or_false, false_or, or_true, Option.some.injEq, exists_eq_left', Bool.not_true, Bool.not_false, ne_eq, Int.reduceEq, not_true_eq_false, not_false_eq_true, Int.reduceLT, UInt8.reduceLT, UInt8.reduceLE, UInt8.reduceToNat]
          rw [hr]; exact fin ((l.length : Int), 42) _ h2
        | true =>
          simp (maxSteps := 1000000) (disch := omega) only [h0, h2, h3, h4, hlt, len_vs hvs, hlen, iaddr_vs hvs, hc, c3, faddrPV, List.drop_succ_cons, List.drop_zero, loadPV, readCells, rbare_spec by_bys, len_by by_bys, len_by hx, c1, c2', build2 Leaf_int Leaf_int, hst, add_n, W_seq, W_region, W_cond, W_block, W_skip, W_label, W_exit, W_goto, W_ret, WO_cons, WO_consG, WO_nil, wantedA_eq, wantB, evOp, ev_tmp, ev_const, ev_fn, WN_some, WN_none, updO_some, updO_none, upd_eq,
 ↓reduceIte, Nat.reduceEqDiff, List.nil_append, List.cons_append, List.append_nil, List.map_cons, List.map_nil, env0_zero, env0_succ, env0_nil, Option.map_some, Option.map_none, seqQ_normal, seqQ_ret, seqQ_exit, seqQ_goto, blockQ_normal, blockQ_ret, blockQ_exit, blockQ_goto, condW_bool, loopQ_ret, loopQ_exit, loopQ_goto, endQ_ret, endQ_normal,
 lss_i, leq_i, gtr_i, geq_i, eql_i, neq_i, eql_8, neq_8, lss_8, leq_8, gtr_8, geq_8, eql_s, neq_s, eql_b, neq_b, not_b, by_bys, by_nils, load_cp1, beq_true, beq_false, Bool.not_eq_true', decide_eq_true_eq, decide_eq_false_iff_not, decide_true, decide_false,
 Int.toNat_natCast, Int.ofNat_lt, Int.ofNat_le, Int.natCast_inj, Bool.false_eq_true, Bool.true_eq_false, extPV, List.getElem?_cons_zero, List.getElem?_cons_succ, nilckPV, Int.reduceToNat, Int.reduceLE, true_and, and_true, reduceCtorEq, or_false, false_or, or_true, Option.some.injEq, exists_eq_left', Bool.not_true, Bool.not_false, ne_eq, Int.reduceEq, not_true_eq_false, not_false_eq_true, Int.reduceLT, UInt8.reduceLT, UInt8.reduceLE, UInt8.reduceToNat]
          refine loopQ_intro (m := (refLines l).length - (i + 1)) (by omega) ?_
          rw [hI]
          refine ⟨i + 1, rfl, by omega, fun q' hq' => ?_, rfl, h0, h2, h3, rfl⟩
          rw [List.take_succ_eq_append_getElem hlt, List.mem_append] at hq'
          rcases hq' with hq' | hq'
          · exact hn q' hq'
          · have : q' = q := by
              simp at hq'; rw [hq', ← hq]; simp [List.getD, hlt]
            rw [this]; simp [faultOf, c1, c2, c3]
  · simp (maxSteps := 1000000) (disch := omega) only [h0, h2, h3, h4, hlt, len_vs hvs, hlen, buildCells, hst, W_seq, W_region, W_cond, W_block, W_skip, W_label, W_exit, W_goto, W_ret, WO_cons, WO_consG, WO_nil, wantedA_eq, wantB, evOp, ev_tmp, ev_const, ev_fn, WN_some, WN_none, updO_some, updO_none, upd_eq,
 ↓reduceIte, Nat.reduceEqDiff, List.nil_append, List.cons_append, List.append_nil, List.map_cons, List.map_nil, env0_zero, env0_succ, env0_nil, Option.map_some, Option.map_none, seqQ_normal, seqQ_ret, seqQ_exit, seqQ_goto, blockQ_normal, blockQ_ret, blockQ_exit, blockQ_goto, condW_bool, loopQ_ret, loopQ_exit, loopQ_goto, endQ_ret, endQ_normal,
 lss_i, leq_i, gtr_i, geq_i, eql_i, neq_i, eql_8, neq_8, lss_8, leq_8, gtr_8, geq_8, eql_s, neq_s, eql_b, neq_b, not_b, by_bys, by_nils, load_cp1, beq_true, beq_false, Bool.not_eq_true', decide_eq_true_eq, decide_eq_false_iff_not, decide_true, decide_false,
 Int.toNat_natCast, Int.ofNat_lt, Int.ofNat_le, Int.natCast_inj, Bool.false_eq_true, Bool.true_eq_false, extPV, List.getElem?_cons_zero, List.getElem?_cons_succ, nilckPV, Int.reduceToNat, Int.reduceLE, true_and, and_true, reduceCtorEq, or_false, false_or, or_true, Option.some.injEq, exists_eq_left', Bool.not_true, Bool.not_false, ne_eq, Int.reduceEq, not_true_eq_false, not_false_eq_true, Int.reduceLT, UInt8.reduceLT, UInt8.reduceLE, UInt8.reduceToNat]
    have hr : rightOf l = (0, 0) := by
      unfold rightOf
      obtain rfl : i = (refLines l).length := by omega
      have := rightGo_append (b := []) hn
      rw [List.take_length, List.append_nil] at this
      rw [this]; rfl
    rw [hr]; exact fin (0, 0) _ h2
end Go.Ab
