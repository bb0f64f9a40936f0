/-
  The law DotsAlone.
-/
import Derived.Test.YtemnjmphkmokmaaAbM5
import Derived.Test.YtemnjmphkmokmaaAbL5
namespace Go.Ab
open Go
set_option linter.unusedVariables false
set_option linter.unusedSimpArgs false

theorem alive5_3 : evV prog 60 (.fn 2 []) [] ⟨[], [true, true, true], [], 0⟩ = some (.bool true, ⟨[], [true, true, true], [], 0⟩) := by kernel_rfl
theorem al3 : call prog (.fn 2 []) [] ⟨[], [true, true, true], [], 0⟩ = some (.bool true, ⟨[], [true, true, true], [], 0⟩) := call_of alive5_3

theorem add_s {ek : EK} {a b : List UInt8} (h : a.length + b.length ≤ 9223372036854775807) : binPV .add ek (.str a) (.str b) = some (.str (a ++ b)) := by
  simp [binPV, binS, h]
theorem idxS_0 {y : List UInt8} (h : 0 < y.length) : idxSPV (.str y) (.int .i64 0) = some (.b8 (y.getD 0 0)) := by
  simp [idxSPV, intOf, h]
theorem len_str {y : List UInt8} : lenPV true (.str y) = some (.int .i64 (y.length : Int)) := rfl

theorem place_map {ss : List (List UInt8 × Bool)} {a : Nat} : (place a ss).map (fun q => q.2) = ss := by
  induction ss generalizing a with
  | nil => rfl
  | cons q r ih => obtain ⟨b, w⟩ := q; simp [place, ih]

theorem frame_lines {l : List UInt8} (hr : (rightOf l).2 = 0) : (refLines (stuffOf l)).map (fun q => q.2.1) = (refLines l).map dotted ++ [[46]] := by
  have h := segs_stuff (refLines l) (right_no hr)
  have h2 : (refLines (stuffOf l)).map (fun q => q.2) = segs (stuffOf l) [] := place_map
  rw [show stuffOf l = stuffLines (refLines l) ++ [46, 13, 10] from rfl, h] at h2
  have := congrArg (List.map Prod.fst) h2
  simp only [List.map_map, List.map_append] at this
  simpa [Function.comp_def, stuffOf] using this

set_option maxHeartbeats 4000000 in
theorem law_DotsAlone {x : PV} {l : List UInt8} (hx : x.by = some l) (hxt : x.tokLt 0 = true) : ∃ s', call prog (.fn 9 []) [x] ⟨[], [], [], 0⟩ = some (.bool true, s') := by
  suffices h : ∃ ts, call prog (.fn 9 []) [x] ⟨[], [], [], 0⟩ = some (leave ⟨[], [], [], 0⟩ ⟨[], ts, [], 0⟩ (.bool true)) by
    obtain ⟨ts, h⟩ := h
    exact ⟨_, by rw [h]; simp [leave, PV.inB, keepRes, keepVal, keepLeaf]; rfl⟩
  by_cases hl : 4000 < l.length
  · have hl' : (4000 : Int) < (l.length : Int) := by omega
    refine ⟨[], ?_⟩
    refine call_of_W prog_9 ?_
    unfold F_posthornlaw05_DotsAlone; dsimp only
    simp (maxSteps := 1000000) (disch := omega) only [len_by hx, hl', List.length_nil, al0, W_seq, W_region, W_cond, W_block, W_skip, W_label, W_exit, W_goto, W_ret, WO_cons, WO_consG, WO_nil, wantedA_eq, wantB, evOp, ev_tmp, ev_const, ev_fn, WN_some, WN_none, updO_some, updO_none, upd_eq,
 ↓reduceIte, Nat.reduceEqDiff, List.nil_append, List.cons_append, List.append_nil, List.map_cons, List.map_nil, env0_zero, env0_succ, env0_nil, Option.map_some, Option.map_none, seqQ_normal, seqQ_ret, seqQ_exit, seqQ_goto, blockQ_normal, blockQ_ret, blockQ_exit, blockQ_goto, condW_bool, loopQ_ret, loopQ_exit, loopQ_goto, endQ_ret, endQ_normal,
 lss_i, leq_i, gtr_i, geq_i, eql_i, neq_i, eql_8, neq_8, lss_8, leq_8, gtr_8, geq_8, eql_s, neq_s, eql_b, neq_b, not_b, by_bys, by_nils, load_cp1, beq_true, beq_false, Bool.not_eq_true', decide_eq_true_eq, decide_eq_false_iff_not, decide_true, decide_false,
 Int.toNat_natCast, Int.ofNat_lt, Int.ofNat_le, Int.natCast_inj, Bool.false_eq_true, Bool.true_eq_false, extPV, List.getElem?_cons_zero, List.getElem?_cons_succ, nilckPV, Int.reduceToNat, Int.reduceLE, true_and, and_true, reduceCtorEq, or_false, false_or, or_true, Option.some.injEq, exists_eq_left', Bool.not_true, Bool.not_false, ne_eq, Int.reduceEq, not_true_eq_false, not_false_eq_true, Int.reduceLT, UInt8.reduceLT, UInt8.reduceLE, UInt8.reduceToNat]
    exact ⟨.bool true, rfl, rfl⟩
  · have hl' : ¬ (4000 : Int) < (l.length : Int) := by omega
    have h1 : ∀ ts, call prog (.fn 3 []) [x] ⟨[], ts, [], 0⟩ = some (if (rightOf l).2 ≠ 0 then (.tup [.nils, .int .i64 (rightOf l).2], ⟨[], ts, [], 0⟩) else (.tup [.bys (.own ts.length) (stuffOf l), .int .i64 0], ⟨[], ts ++ [true], [], 0⟩)) := fun ts => dStuff_spec hx (by omega) (tokLt_mono hxt (by omega))
    by_cases hr : (rightOf l).2 = 0
    · have hfl : (stuffOf l).length ≤ 1000000 := by
        have := stuff_len (l := l)
        simp only [stuffOf, List.length_append, List.length_cons, List.length_nil]; omega
      have hF := frame_lines hr
      have hFl : (refLines (stuffOf l)).length = (refLines l).length + 1 := by
        have := congrArg List.length hF; simpa using this
      have hMl : (refLines l).length ≤ 4001 := by
        have := segs_len l []
        simp only [refLines, place_len]; omega
      have hg : ∀ (r : List (Nat × List UInt8 × Bool)) (i : Nat), i < r.length → ((r.map lnV).getD i .undef).cells = [.int .i64 (((r.getD i (0, [], false)).1 : Nat) : Int), .bys .no (r.getD i (0, [], false)).2.1, .bool (r.getD i (0, [], false)).2.2] := fun r i hi => by
        simp [List.getD, hi, lnV, PV.cells]
      have hlast : ((refLines (stuffOf l)).getD (refLines l).length (0, [], false)).2.1 = [46] := by
        have := congrArg (fun z => z[(refLines l).length]?) hF
        simp only [List.getElem?_map] at this
        rw [List.getElem?_append_right (by simp)] at this
        simp [show (refLines l).length < (refLines (stuffOf l)).length by omega] at this
        simp [List.getD, show (refLines l).length < (refLines (stuffOf l)).length by omega, this]
      have hmid : ∀ i, i < (refLines l).length → ((refLines (stuffOf l)).getD i (0, [], false)).2.1 = dotted ((refLines l).getD i (0, [], false)) := fun i hi => by
        have := congrArg (fun z => z[i]?) hF
        simp only [List.getElem?_map] at this
        rw [List.getElem?_append_left (by simpa using hi)] at this
        simp [show i < (refLines (stuffOf l)).length by omega, hi] at this
        simp [List.getD, show i < (refLines (stuffOf l)).length by omega, hi, this]
      have h2 : call prog (.fn 8 []) [.bys (.own 0) (stuffOf l)] ⟨[], [true], [], 0⟩ = some (.sl 3 (.own 1) ((refLines (stuffOf l)).map lnV), ⟨[], [true, true], [], 0⟩) := by
        rw [Lines_spec by_bys hfl]
        have hne : (refLines (stuffOf l)).map lnV ≠ [] := fun h => by have := congrArg List.length h; simp at this; rw [this] at hFl; simp at hFl
        simp [newSl, newS, hne, St.tok1]
        cases hq : refLines (stuffOf l) with
        | nil => rw [hq] at hne; simp at hne
        | cons => simp
      obtain ⟨v, ts, hv, h3⟩ : ∃ v ts, v.vs 3 = some ((refLines l).map lnV) ∧ call prog (.fn 8 []) [x] ⟨[], [true, true], [], 0⟩ = some (v, ⟨[], ts, [], 0⟩) ∧ (ts = [true, true] ∨ ts = [true, true, true]) := by
        refine ⟨_, _, newSl_vs, by rw [Lines_spec hx (by omega), newS_eq], ?_⟩
        split <;> simp
      obtain ⟨h3, hts⟩ := h3
      have hal : call prog (.fn 2 []) [] ⟨[], ts, [], 0⟩ = some (.bool true, ⟨[], ts, [], 0⟩) := by
        rcases hts with rfl | rfl
        · exact al2
        · exact al3
      have hfv : (PV.sl 3 (.own 1) ((refLines (stuffOf l)).map lnV)).vs 3 = some ((refLines (stuffOf l)).map lnV) := by simp [PV.vs]
      refine ⟨ts, ?_⟩
      refine call_of_W prog_9 ?_
      unfold F_posthornlaw05_DotsAlone; dsimp only
      have hlm : ∀ r : List (Nat × List UInt8 × Bool), (r.map lnV).length = r.length := fun r => by simp
      have hA1 := hlm (refLines (stuffOf l))
      have hA2 := hlm (refLines l)
      have hc := hg (refLines (stuffOf l)) (refLines l).length (by omega)
      rw [hlast] at hc
      generalize hfval : PV.sl 3 (.own 1) ((refLines (stuffOf l)).map lnV) = fv at h2 hfv
      simp (maxSteps := 1000000) (disch := omega) only [len_by hx, hl', List.length_nil, List.length_cons, h1, hr, h2, h3, len_vs hfv, len_vs hv, hlm, hFl, add_n, iaddr_vs hfv, hc, faddrPV, List.drop_succ_cons, List.drop_zero, loadPV, readCells, b2s, W_seq, W_region, W_cond, W_block, W_skip, W_label, W_exit, W_goto, W_ret, WO_cons, WO_consG, WO_nil, wantedA_eq, wantB, evOp, ev_tmp, ev_const, ev_fn, WN_some, WN_none, updO_some, updO_none, upd_eq,
 ↓reduceIte, Nat.reduceEqDiff, List.nil_append, List.cons_append, List.append_nil, List.map_cons, List.map_nil, env0_zero, env0_succ, env0_nil, Option.map_some, Option.map_none, seqQ_normal, seqQ_ret, seqQ_exit, seqQ_goto, blockQ_normal, blockQ_ret, blockQ_exit, blockQ_goto, condW_bool, loopQ_ret, loopQ_exit, loopQ_goto, endQ_ret, endQ_normal,
 lss_i, leq_i, gtr_i, geq_i, eql_i, neq_i, eql_8, neq_8, lss_8, leq_8, gtr_8, geq_8, eql_s, neq_s, eql_b, neq_b, not_b, by_bys, by_nils, load_cp1, beq_true, beq_false, Bool.not_eq_true', decide_eq_true_eq, decide_eq_false_iff_not, decide_true, decide_false,
 Int.toNat_natCast, Int.ofNat_lt, Int.ofNat_le, Int.natCast_inj, Bool.false_eq_true, Bool.true_eq_false, extPV, List.getElem?_cons_zero, List.getElem?_cons_succ, nilckPV, Int.reduceToNat, Int.reduceLE, true_and, and_true, reduceCtorEq, or_false, false_or, or_true, Option.some.injEq, exists_eq_left', Bool.not_true, Bool.not_false, ne_eq, Int.reduceEq, not_true_eq_false, not_false_eq_true, Int.reduceLT, UInt8.reduceLT, UInt8.reduceLE, UInt8.reduceToNat]
      obtain ⟨I, hI⟩ : ∃ I : Nat → Env → St → Prop, I = fun n e s => ∃ i : Nat, n = (refLines l).length - i ∧ i ≤ (refLines l).length ∧ s = ⟨[], ts, [], 0⟩ ∧ e 5 = fv ∧ e 6 = v ∧ e 7 = .int .i64 (i : Int) := ⟨_, rfl⟩
      refine W_loop I ?_ (n := (refLines l).length) (by rw [hI]; exact ⟨0, rfl, by omega, rfl, rfl, rfl, rfl⟩)
      intro n e s h
      rw [hI] at h
      obtain ⟨i, rfl, hi, rfl, h5, h6, h7⟩ := h
      by_cases hlt : i < (refLines l).length
      · have c1 := hg (refLines (stuffOf l)) i (by omega)
        have c2 := hg (refLines l) i hlt
        rw [hmid i hlt] at c1
        have hq1 := (refLines_ok (l := l) ((refLines l).getD i (0, [], false)) (by simp [List.getD, hlt])).1
        generalize (refLines l).getD i (0, [], false) = q at c1 c2 hq1
        by_cases hd : q.2.1.head? = some 46
        · obtain ⟨r, hy⟩ : ∃ r, q.2.1 = 46 :: r := by
            cases hb : q.2.1 with
            | nil => rw [hb] at hd; simp at hd
            | cons c r => rw [hb] at hd; simp at hd; exact ⟨r, by rw [hd]⟩
          have hX : dotted q = 46 :: q.2.1 := by simp [dotted, hd]
          have k1 : ¬ (46 :: q.2.1 = [46]) := by rw [hy]; simp
          have k2 : ¬ (46 :: q.2.1 = q.2.1) := fun h => by have := congrArg List.length h; simp at this
          have k3 : (0 : Int) < (q.2.1.length : Int) := by rw [hy]; simp <;> omega
          have k4 : q.2.1.getD 0 0 = 46 := by rw [hy]; simp
          have k5 : ([46] : List UInt8).length + q.2.1.length ≤ 9223372036854775807 := by simp; omega
          have k6 : 0 < q.2.1.length := by omega
          rw [hX] at c1
          simp (maxSteps := 1000000) (disch := omega) only [h5, h6, h7, hlt, len_vs hv, hlm, hFl, iaddr_vs hfv, iaddr_vs hv, c1, c2, faddrPV, List.drop_succ_cons, List.drop_zero, loadPV, readCells, b2s, k1, k2, k3, eq_true k4, len_str, add_s k5, idxS_0 k6, add_n, W_seq, W_region, W_cond, W_block, W_skip, W_label, W_exit, W_goto, W_ret, WO_cons, WO_consG, WO_nil, wantedA_eq, wantB, evOp, ev_tmp, ev_const, ev_fn, WN_some, WN_none, updO_some, updO_none, upd_eq,
 ↓reduceIte, Nat.reduceEqDiff, List.nil_append, List.cons_append, List.append_nil, List.map_cons, List.map_nil, env0_zero, env0_succ, env0_nil, Option.map_some, Option.map_none, seqQ_normal, seqQ_ret, seqQ_exit, seqQ_goto, blockQ_normal, blockQ_ret, blockQ_exit, blockQ_goto, condW_bool, loopQ_ret, loopQ_exit, loopQ_goto, endQ_ret, endQ_normal,
 lss_i, leq_i, gtr_i, geq_i, eql_i, neq_i, eql_8, neq_8, lss_8, leq_8, gtr_8, geq_8, eql_s, neq_s, eql_b, neq_b, not_b, by_bys, by_nils, load_cp1, beq_true, beq_false, Bool.not_eq_true', decide_eq_true_eq, decide_eq_false_iff_not, decide_true, decide_false,
 Int.toNat_natCast, Int.ofNat_lt, Int.ofNat_le, Int.natCast_inj, Bool.false_eq_true, Bool.true_eq_false, extPV, List.getElem?_cons_zero, List.getElem?_cons_succ, nilckPV, Int.reduceToNat, Int.reduceLE, true_and, and_true, reduceCtorEq, or_false, false_or, or_true, Option.some.injEq, exists_eq_left', Bool.not_true, Bool.not_false, ne_eq, Int.reduceEq, not_true_eq_false, not_false_eq_true, Int.reduceLT, UInt8.reduceLT, UInt8.reduceLE, UInt8.reduceToNat]
          refine loopQ_intro (m := (refLines l).length - (i + 1)) (by omega) ?_
          rw [hI]; exact ⟨i + 1, rfl, by omega, rfl, h5, h6, rfl⟩
        · have hX : dotted q = q.2.1 := by simp [dotted, hd]
          have k1 : ¬ (q.2.1 = [46]) := fun h => by rw [h] at hd; simp at hd
          rw [hX] at c1
          by_cases k6 : 0 < q.2.1.length
          · have k3 : (0 : Int) < (q.2.1.length : Int) := by omega
            have k4 : ¬ q.2.1.getD 0 0 = 46 := by
              cases hb : q.2.1 with
              | nil => rw [hb] at k6; simp at k6
              | cons c r => rw [hb] at hd; simp at hd; simp [hd]
            simp (maxSteps := 1000000) (disch := omega) only [h5, h6, h7, hlt, len_vs hv, hlm, hFl, iaddr_vs hfv, iaddr_vs hv, c1, c2, faddrPV, List.drop_succ_cons, List.drop_zero, loadPV, readCells, b2s, k1, k3, k4, len_str, idxS_0 k6, add_n, W_seq, W_region, W_cond, W_block, W_skip, W_label, W_exit, W_goto, W_ret, WO_cons, WO_consG, WO_nil, wantedA_eq, wantB, evOp, ev_tmp, ev_const, ev_fn, WN_some, WN_none, updO_some, updO_none, upd_eq,
 ↓reduceIte, Nat.reduceEqDiff, List.nil_append, List.cons_append, List.append_nil, List.map_cons, List.map_nil, env0_zero, env0_succ, env0_nil, Option.map_some, Option.map_none, seqQ_normal, seqQ_ret, seqQ_exit, seqQ_goto, blockQ_normal, blockQ_ret, blockQ_exit, blockQ_goto, condW_bool, loopQ_ret, loopQ_exit, loopQ_goto, endQ_ret, endQ_normal,
 lss_i, leq_i, gtr_i, geq_i, eql_i, neq_i, eql_8, neq_8, lss_8, leq_8, gtr_8, geq_8, eql_s, neq_s, eql_b, neq_b, not_b, by_bys, by_nils, load_cp1, beq_true, beq_false, Bool.not_eq_true', decide_eq_true_eq, decide_eq_false_iff_not, decide_true, decide_false,
 Int.toNat_natCast, Int.ofNat_lt, Int.ofNat_le, Int.natCast_inj, Bool.false_eq_true, Bool.true_eq_false, extPV, List.getElem?_cons_zero, List.getElem?_cons_succ, nilckPV, Int.reduceToNat, Int.reduceLE, true_and, and_true, reduceCtorEq, or_false, false_or, or_true, Option.some.injEq, exists_eq_left', Bool.not_true, Bool.not_false, ne_eq, Int.reduceEq, not_true_eq_false, not_false_eq_true, Int.reduceLT, UInt8.reduceLT, UInt8.reduceLE, UInt8.reduceToNat]
            refine loopQ_intro (m := (refLines l).length - (i + 1)) (by omega) ?_
            rw [hI]; exact ⟨i + 1, rfl, by omega, rfl, h5, h6, rfl⟩
          · have hy : q.2.1 = [] := List.length_eq_zero_iff.1 (by omega)
            have k3 : ¬ (0 : Int) < (([] : List UInt8).length : Int) := by simp
            have k2 : ¬ (([] : List UInt8) = [46]) := by simp
            rw [hy] at c1 c2
            simp (maxSteps := 1000000) (disch := omega) only [h5, h6, h7, hlt, len_vs hv, hlm, hFl, iaddr_vs hfv, iaddr_vs hv, c1, c2, faddrPV, List.drop_succ_cons, List.drop_zero, loadPV, readCells, b2s, k2, k3, len_str, add_n, W_seq, W_region, W_cond, W_block, W_skip, W_label, W_exit, W_goto, W_ret, WO_cons, WO_consG, WO_nil, wantedA_eq, wantB, evOp, ev_tmp, ev_const, ev_fn, WN_some, WN_none, updO_some, updO_none, upd_eq,
 ↓reduceIte, Nat.reduceEqDiff, List.nil_append, List.cons_append, List.append_nil, List.map_cons, List.map_nil, env0_zero, env0_succ, env0_nil, Option.map_some, Option.map_none, seqQ_normal, seqQ_ret, seqQ_exit, seqQ_goto, blockQ_normal, blockQ_ret, blockQ_exit, blockQ_goto, condW_bool, loopQ_ret, loopQ_exit, loopQ_goto, endQ_ret, endQ_normal,
 lss_i, leq_i, gtr_i, geq_i, eql_i, neq_i, eql_8, neq_8, lss_8, leq_8, gtr_8, geq_8, eql_s, neq_s, eql_b, neq_b, not_b, by_bys, by_nils, load_cp1, beq_true, beq_false, Bool.not_eq_true', decide_eq_true_eq, decide_eq_false_iff_not, decide_true, decide_false,
 Int.toNat_natCast, Int.ofNat_lt, Int.ofNat_le, Int.natCast_inj, Bool.false_eq_true, Bool.true_eq_false, extPV, List.getElem?_cons_zero, List.getElem?_cons_succ, nilckPV, Int.reduceToNat, Int.reduceLE, true_and, and_true, reduceCtorEq, or_false, false_or, or_true, Option.some.injEq, exists_eq_left', Bool.not_true, Bool.not_false, ne_eq, Int.reduceEq, not_true_eq_false, not_false_eq_true, Int.reduceLT, UInt8.reduceLT, UInt8.reduceLE, UInt8.reduceToNat]
            refine loopQ_intro (m := (refLines l).length - (i + 1)) (by omega) ?_
            rw [hI]; exact ⟨i + 1, rfl, by omega, rfl, h5, h6, rfl⟩
      · simp (maxSteps := 1000000) (disch := omega) only [h5, h6, h7, hlt, len_vs hv, hlm, hal, W_seq, W_region, W_cond, W_block, W_skip, W_label, W_exit, W_goto, W_ret, WO_cons, WO_consG, WO_nil, wantedA_eq, wantB, evOp, ev_tmp, ev_const, ev_fn, WN_some, WN_none, updO_some, updO_none, upd_eq,
 ↓reduceIte, Nat.reduceEqDiff, List.nil_append, List.cons_append, List.append_nil, List.map_cons, List.map_nil, env0_zero, env0_succ, env0_nil, Option.map_some, Option.map_none, seqQ_normal, seqQ_ret, seqQ_exit, seqQ_goto, blockQ_normal, blockQ_ret, blockQ_exit, blockQ_goto, condW_bool, loopQ_ret, loopQ_exit, loopQ_goto, endQ_ret, endQ_normal,
 lss_i, leq_i, gtr_i, geq_i, eql_i, neq_i, eql_8, neq_8, lss_8, leq_8, gtr_8, geq_8, eql_s, neq_s, eql_b, neq_b, not_b, by_bys, by_nils, load_cp1, beq_true, beq_false, Bool.not_eq_true', decide_eq_true_eq, decide_eq_false_iff_not, decide_true, decide_false,
 Int.toNat_natCast, Int.ofNat_lt, Int.ofNat_le, Int.natCast_inj, Bool.false_eq_true, Bool.true_eq_false, extPV, List.getElem?_cons_zero, List.getElem?_cons_succ, nilckPV, Int.reduceToNat, Int.reduceLE, true_and, and_true, reduceCtorEq, or_false, false_or, or_true, Option.some.injEq, exists_eq_left', Bool.not_true, Bool.not_false, ne_eq, Int.reduceEq, not_true_eq_false, not_false_eq_true, Int.reduceLT, UInt8.reduceLT, UInt8.reduceLE, UInt8.reduceToNat]
        exact ⟨.bool true, rfl, rfl⟩
    · refine ⟨[], ?_⟩
      refine call_of_W prog_9 ?_
      unfold F_posthornlaw05_DotsAlone; dsimp only
      simp (maxSteps := 1000000) (disch := omega) only [len_by hx, hl', List.length_nil, h1, hr, al0, W_seq, W_region, W_cond, W_block, W_skip, W_label, W_exit, W_goto, W_ret, WO_cons, WO_consG, WO_nil, wantedA_eq, wantB, evOp, ev_tmp, ev_const, ev_fn, WN_some, WN_none, updO_some, updO_none, upd_eq,
 ↓reduceIte, Nat.reduceEqDiff, List.nil_append, List.cons_append, List.append_nil, List.map_cons, List.map_nil, env0_zero, env0_succ, env0_nil, Option.map_some, Option.map_none, seqQ_normal, seqQ_ret, seqQ_exit, seqQ_goto, blockQ_normal, blockQ_ret, blockQ_exit, blockQ_goto, condW_bool, loopQ_ret, loopQ_exit, loopQ_goto, endQ_ret, endQ_normal,
 lss_i, leq_i, gtr_i, geq_i, eql_i, neq_i, eql_8, neq_8, lss_8, leq_8, gtr_8, geq_8, eql_s, neq_s, eql_b, neq_b, not_b, by_bys, by_nils, load_cp1, beq_true, beq_false, Bool.not_eq_true', decide_eq_true_eq, decide_eq_false_iff_not, decide_true, decide_false,
 Int.toNat_natCast, Int.ofNat_lt, Int.ofNat_le, Int.natCast_inj, Bool.false_eq_true, Bool.true_eq_false, extPV, List.getElem?_cons_zero, List.getElem?_cons_succ, nilckPV, Int.reduceToNat, Int.reduceLE, true_and, and_true, reduceCtorEq, or_false, false_or, or_true, Option.some.injEq, exists_eq_left', Bool.not_true, Bool.not_false, ne_eq, Int.reduceEq, not_true_eq_false, not_false_eq_true, Int.reduceLT, UInt8.reduceLT, UInt8.reduceLE, UInt8.reduceToNat]
      exact ⟨.bool true, rfl, rfl⟩
end Go.Ab
