/-
  A text's frame: the document's answer.
-/
import Derived.Test.YtemnjmphkmokmaaAbS7
namespace Go.Ab
set_option linter.unusedVariables false
set_option linter.unusedSimpArgs false
variable {st : St} {e : Env}

/-- A line in a frame: a point more ahead of a point. -/
def stuffLine (q : Nat × List UInt8 × Bool) : List UInt8 := (if q.2.1.head? = some 46 then [46] else []) ++ q.2.1 ++ [13, 10]
def stuffLines (r : List (Nat × List UInt8 × Bool)) : List UInt8 := r.flatMap stuffLine
def stuffOf (l : List UInt8) : List UInt8 := stuffLines (refLines l) ++ [46, 13, 10]

theorem segs_sum : ∀ (m acc : List UInt8), ((segs m acc).map fun q => q.1.length).sum ≤ m.length + acc.length := by
  intro m acc
  induction m, acc using segs.induct with
  | case1 => simp [segs]
  | case2 acc h => simp [segs, h]
  | case3 acc c => simp [segs]; omega
  | case4 acc c d r h ih => simp only [segs, h, and_self, if_true, List.map_cons, List.sum_cons, List.length_cons] at ih ⊢; simp at ih; omega
  | case5 acc c d r h ih => simp only [segs, h, if_false, List.length_cons] at ih ⊢; simp at ih; omega
theorem stuffLines_len {r : List (Nat × List UInt8 × Bool)} : (stuffLines r).length ≤ (r.map fun q => q.2.1.length).sum + 3 * r.length := by
  induction r with
  | nil => simp [stuffLines]
  | cons q r ih =>
    simp only [stuffLines, List.flatMap_cons, List.length_append, List.map_cons, List.sum_cons, List.length_cons] at ih ⊢
    have : (stuffLine q).length ≤ q.2.1.length + 3 := by simp only [stuffLine]; split <;> simp <;> omega
    omega
theorem place_sum {ss : List (List UInt8 × Bool)} {a : Nat} : ((place a ss).map fun q => q.2.1.length).sum = (ss.map fun q => q.1.length).sum := by
  induction ss generalizing a with
  | nil => rfl
  | cons q r ih => obtain ⟨b, w⟩ := q; simp [place, ih]
theorem sum_take {r : List (Nat × List UInt8 × Bool)} {i : Nat} : (stuffLines (r.take i)).length ≤ (stuffLines r).length := by
  have h : stuffLines r = stuffLines (r.take i) ++ stuffLines (r.drop i) := by
    simp only [stuffLines]; rw [← List.flatMap_append, List.take_append_drop]
  rw [h]; simp
theorem stuff_len {l : List UInt8} : (stuffLines (refLines l)).length ≤ 4 * l.length + 3 := by
  have h1 := stuffLines_len (r := refLines l)
  have h2 := segs_sum l []
  have h3 := segs_len l []
  simp only [refLines, place_sum, place_len] at *
  simp at h2; omega

theorem rStuff_spec {x : PV} {l : List UInt8} (hx : x.by = some l) (hl : l.length ≤ 1000000) :
    call prog (.fn 4 []) [x] st = some (if (rightOf l).2 ≠ 0 then (.tup [.nils, .int .i64 (rightOf l).2], st) else (.tup [.bys (.own st.toks.length) (stuffOf l), .int .i64 0], st.tok1)) := by
  by_cases hr : (rightOf l).2 = 0
  · rw [if_neg (by simpa using hr)]
    refine call_of_W prog_4 ?_
    unfold F_posthornref05_Stuff; dsimp only
    have hst : ∀ a b ts ls lo, storePV ⟨st.boxes ++ [[.int .i64 0, .int .i64 0]], ts, ls, lo⟩ 2 (.ptr st.boxes.length 0) (fV (a, b)) =
        some ⟨st.boxes ++ [[.int .i64 a, .int .i64 b]], ts, ls, lo⟩ := fun a b ts ls lo => by
      simp [storePV, fV, PV.cells, PV.inB, PV.inB.inBAll, setCells, hasTok, tokOf, leafOk]
    have hld : ∀ a b ts ls lo, loadPV ⟨st.boxes ++ [[.int .i64 a, .int .i64 b]], ts, ls, lo⟩ false 1 (.ptr st.boxes.length 1) = some (.int .i64 b) := fun a b ts ls lo => by
      simp [loadPV, readCells]
    have hcl : ∀ i : Nat, i < (refLines l).length → (((refLines l).map lnV).getD i .undef).cells = [.int .i64 ((((refLines l).getD i (0, [], false)).1 : Nat) : Int), .bys .no ((refLines l).getD i (0, [], false)).2.1, .bool ((refLines l).getD i (0, [], false)).2.2] := fun i hi => by
      simp [List.getD, hi, lnV, PV.cells]
    have hrf : fV (rightOf l) = fV ((rightOf l).1, (rightOf l).2) := rfl
    simp (maxSteps := 1000000) (disch := omega) only [allocPV, rRight_spec hx hl, hrf, hst, hld, faddrPV, Nat.zero_add, hr, Lines_spec hx hl, newS_eq, W_seq, W_region, W_cond, W_block, W_skip, W_label, W_exit, W_goto, W_ret, WO_cons, WO_consG, WO_nil, wantedA_eq, wantB, evOp, ev_tmp, ev_const, ev_fn, WN_some, WN_none, updO_some, updO_none, upd_eq,
 ↓reduceIte, Nat.reduceEqDiff, List.nil_append, List.cons_append, List.append_nil, List.map_cons, List.map_nil, env0_zero, env0_succ, env0_nil, Option.map_some, Option.map_none, seqQ_normal, seqQ_ret, seqQ_exit, seqQ_goto, blockQ_normal, blockQ_ret, blockQ_exit, blockQ_goto, condW_bool, loopQ_ret, loopQ_exit, loopQ_goto, endQ_ret, endQ_normal,
 lss_i, leq_i, gtr_i, geq_i, eql_i, neq_i, eql_8, neq_8, lss_8, leq_8, gtr_8, geq_8, eql_s, neq_s, eql_b, neq_b, not_b, by_bys, by_nils, load_cp1, beq_true, beq_false, Bool.not_eq_true', decide_eq_true_eq, decide_eq_false_iff_not, decide_true, decide_false,
 Int.toNat_natCast, Int.ofNat_lt, Int.ofNat_le, Int.natCast_inj, Bool.false_eq_true, Bool.true_eq_false, extPV, List.getElem?_cons_zero, List.getElem?_cons_succ, nilckPV, Int.reduceToNat, Int.reduceLE, true_and, and_true, reduceCtorEq, or_false, false_or, or_true, Option.some.injEq, exists_eq_left', Bool.not_true, Bool.not_false, ne_eq, Int.reduceEq, not_true_eq_false, not_false_eq_true, Int.reduceLT, UInt8.reduceLT, UInt8.reduceLE, UInt8.reduceToNat]
    generalize hv : newSl _ 3 _ = v
    have hvs : v.vs 3 = some ((refLines l).map lnV) := by rw [← hv]; exact newSl_vs
    generalize hts : (if ((refLines l).map lnV).isEmpty = true then ([] : List Bool) else [true]) = ts
    have hlen : ((refLines l).map lnV).length = (refLines l).length := by simp
    have hll : (refLines l).length ≤ 2000000 := by
      have := segs_len l []
      simp only [refLines, place_len]; omega
    have hsl := stuff_len (l := l)
    obtain ⟨I, hI⟩ : ∃ I : Nat → Env → St → Prop, I = fun n e s => ∃ (i : Nat) (w : PV), n = (refLines l).length - i ∧ i ≤ (refLines l).length ∧ GrewAt (st.boxes ++ [[.int .i64 (rightOf l).1, .int .i64 0]]) st.toks st.loops st.boxes.length s ∧ OwnB st s w (stuffLines ((refLines l).take i)) ∧ e 0 = x ∧ e 5 = v ∧ e 6 = w ∧ e 7 = .int .i64 (i : Int) := ⟨_, rfl⟩
    refine W_loop I ?_ (n := (refLines l).length) (by rw [hI]; exact ⟨0, .nils, rfl, by omega, .start, .inl ⟨rfl, by simp [stuffLines]⟩, rfl, rfl, rfl, rfl⟩)
    intro n e s h
    rw [hI] at h
    obtain ⟨i, w, rfl, hi, hg, ho, h0, h5, h6, h7⟩ := h
    have hsti := sum_take (r := refLines l) (i := i)
    by_cases hlt : i < (refLines l).length
    · have hc := hcl i hlt
      have hgq : (refLines l).take (i + 1) = (refLines l).take i ++ [(refLines l).getD i (0, [], false)] := by
        rw [List.take_succ_eq_append_getElem hlt]; simp [List.getD, hlt]
      have hqo := refLines_ok (l := l) ((refLines l).getD i (0, [], false)) (by simp [List.getD, hlt])
      generalize hq : (refLines l).getD i (0, [], false) = q at hc hgq hqo
      have hq1 := hqo.1
      have hlit1 : lit8Fill (List.replicate 1 0) [(0, .b8 46)] = some [46] := rfl
      have hlit2 : lit8Fill (List.replicate 2 0) [(0, .b8 13), (1, .b8 10)] = some [13, 10] := rfl
      -- the three pieces
      have pieces : ∀ (w1 : PV) (s1 : St) (o1 : List UInt8), GrewAt (st.boxes ++ [[.int .i64 (rightOf l).1, .int .i64 0]]) st.toks st.loops st.boxes.length s1 → OwnB st s1 w1 o1 → o1.length ≤ 5000000 →
          ∃ w2 s2 w3 s3, app8 s1 w1 (.bys .no q.2.1) = some (w2, s2) ∧ app8 s2.tok1 w2 (.bys (.own s2.toks.length) [13, 10]) = some (w3, s3) ∧ GrewAt (st.boxes ++ [[.int .i64 (rightOf l).1, .int .i64 0]]) st.toks st.loops st.boxes.length s3 ∧ OwnB st s3 w3 (o1 ++ q.2.1 ++ [13, 10]) := by
        intro w1 s1 o1 g1 b1 hl1
        obtain ⟨w2, s2, a2, g2, b2⟩ := app8_any g1 b1 (y := .bys .no q.2.1) by_bys (by simp [room]; omega)
        obtain ⟨w3, s3, a3, g3, b3⟩ := app8_any g2.tok1 b2.tok1 (y := .bys (.own s2.toks.length) [13, 10]) by_bys (by simp [room]; omega)
        exact ⟨w2, s2, w3, s3, a2, a3, g3, b3⟩
      by_cases hd : q.2.1.head? = some 46
      · have hne : 0 < q.2.1.length := by
          cases hb : q.2.1 with
          | nil => rw [hb] at hd; simp at hd
          | cons c r => simp
        have hne' : (0 : Int) < (q.2.1.length : Int) := by omega
        have hg0 : q.2.1.getD 0 0 = 46 := by
          cases hb : q.2.1 with
          | nil => rw [hb] at hd; simp at hd
          | cons c r => rw [hb] at hd; simp at hd; simp [hd]
        obtain ⟨w1, s1, a1, g1, b1⟩ := app8_any hg.tok1 ho.tok1 (y := .bys (.own s.toks.length) [46]) by_bys (by simp [room]; omega)
        obtain ⟨w2, s2, w3, s3, a2, a3, g3, b3⟩ := pieces w1 s1 _ g1 b1 (by simp; omega)
        simp (maxSteps := 1000000) (disch := omega) only [h0, h5, h6, h7, hlt, len_vs hvs, hlen, iaddr_vs hvs, hc, faddrPV, List.drop_succ_cons, List.drop_zero, loadPV, readCells, len_by by_bys, hne', iaddr_by by_bys, eq_true hg0, hlit1, hlit2, freshT_eq, a1, a2, a3, add_n, W_seq, W_region, W_cond, W_block, W_skip, W_label, W_exit, W_goto, W_ret, WO_cons, WO_consG, WO_nil, wantedA_eq, wantB, evOp, ev_tmp, ev_const, ev_fn, WN_some, WN_none, updO_some, updO_none, upd_eq,
 ↓reduceIte, Nat.reduceEqDiff, List.nil_append, List.cons_append, List.append_nil, List.map_cons, List.map_nil, env0_zero, env0_succ, env0_nil, Option.map_some, Option.map_none, seqQ_normal, seqQ_ret, seqQ_exit, seqQ_goto, blockQ_normal, blockQ_ret, blockQ_exit, blockQ_goto, condW_bool, loopQ_ret, loopQ_exit, loopQ_goto, endQ_ret, endQ_normal,
 lss_i, leq_i, gtr_i, geq_i, eql_i, neq_i, eql_8, neq_8, lss_8, leq_8, gtr_8, geq_8, eql_s, neq_s, eql_b, neq_b, not_b, by_bys, by_nils, load_cp1, beq_true, beq_false, Bool.not_eq_true', decide_eq_true_eq, decide_eq_false_iff_not, decide_true, decide_false,
 Int.toNat_natCast, Int.ofNat_lt, Int.ofNat_le, Int.natCast_inj, Bool.false_eq_true, Bool.true_eq_false, extPV, List.getElem?_cons_zero, List.getElem?_cons_succ, nilckPV, Int.reduceToNat, Int.reduceLE, true_and, and_true, reduceCtorEq, or_false, false_or, or_true, Option.some.injEq, exists_eq_left', Bool.not_true, Bool.not_false, ne_eq, Int.reduceEq, not_true_eq_false, not_false_eq_true, Int.reduceLT, UInt8.reduceLT, UInt8.reduceLE, UInt8.reduceToNat]
        refine loopQ_intro (m := (refLines l).length - (i + 1)) (by omega) ?_
        rw [hI]
        refine ⟨i + 1, w3, rfl, by omega, g3, ?_, h0, h5, rfl, rfl⟩
        rw [hgq]
        simpa [stuffLines, stuffLine, hd] using b3
      · have hg0 : ¬ (0 < q.2.1.length ∧ q.2.1.getD 0 0 = 46) := by
          rintro ⟨h1, h2⟩
          cases hb : q.2.1 with
          | nil => rw [hb] at h1; simp at h1
          | cons c r => rw [hb] at h2 hd; simp at h2 hd; exact hd h2
        obtain ⟨w2, s2, w3, s3, a2, a3, g3, b3⟩ := pieces w s _ hg ho (by omega)
        by_cases hne : 0 < q.2.1.length
        · have hne' : (0 : Int) < (q.2.1.length : Int) := by omega
          have hg1 : ¬ q.2.1.getD 0 0 = 46 := fun h => hg0 ⟨hne, h⟩
          simp (maxSteps := 1000000) (disch := omega) only [h0, h5, h6, h7, hlt, len_vs hvs, hlen, iaddr_vs hvs, hc, faddrPV, List.drop_succ_cons, List.drop_zero, loadPV, readCells, len_by by_bys, hne', iaddr_by by_bys, hg1, hlit1, hlit2, freshT_eq, a2, a3, add_n, W_seq, W_region, W_cond, W_block, W_skip, W_label, W_exit, W_goto, W_ret, WO_cons, WO_consG, WO_nil, wantedA_eq, wantB, evOp, ev_tmp, ev_const, ev_fn, WN_some, WN_none, updO_some, updO_none, upd_eq,
 ↓reduceIte, Nat.reduceEqDiff, List.nil_append, List.cons_append, List.append_nil, List.map_cons, List.map_nil, env0_zero, env0_succ, env0_nil, Option.map_some, Option.map_none, seqQ_normal, seqQ_ret, seqQ_exit, seqQ_goto, blockQ_normal, blockQ_ret, blockQ_exit, blockQ_goto, condW_bool, loopQ_ret, loopQ_exit, loopQ_goto, endQ_ret, endQ_normal,
 lss_i, leq_i, gtr_i, geq_i, eql_i, neq_i, eql_8, neq_8, lss_8, leq_8, gtr_8, geq_8, eql_s, neq_s, eql_b, neq_b, not_b, by_bys, by_nils, load_cp1, beq_true, beq_false, Bool.not_eq_true', decide_eq_true_eq, decide_eq_false_iff_not, decide_true, decide_false,
 Int.toNat_natCast, Int.ofNat_lt, Int.ofNat_le, Int.natCast_inj, Bool.false_eq_true, Bool.true_eq_false, extPV, List.getElem?_cons_zero, List.getElem?_cons_succ, nilckPV, Int.reduceToNat, Int.reduceLE, true_and, and_true, reduceCtorEq, or_false, false_or, or_true, Option.some.injEq, exists_eq_left', Bool.not_true, Bool.not_false, ne_eq, Int.reduceEq, not_true_eq_false, not_false_eq_true, Int.reduceLT, UInt8.reduceLT, UInt8.reduceLE, UInt8.reduceToNat]
          refine loopQ_intro (m := (refLines l).length - (i + 1)) (by omega) ?_
          rw [hI]
          refine ⟨i + 1, w3, rfl, by omega, g3, ?_, h0, h5, rfl, rfl⟩
          rw [hgq]
          simpa [stuffLines, stuffLine, hd] using b3
        · have hne' : ¬ (0 : Int) < (q.2.1.length : Int) := by omega
          simp (maxSteps := 1000000) (disch := omega) only [h0, h5, h6, h7, hlt, len_vs hvs, hlen, iaddr_vs hvs, hc, faddrPV, List.drop_succ_cons, List.drop_zero, loadPV, readCells, len_by by_bys, hne', hlit1, hlit2, freshT_eq, a2, a3, add_n, W_seq, W_region, W_cond, W_block, W_skip, W_label, W_exit, W_goto, W_ret, WO_cons, WO_consG, WO_nil, wantedA_eq, wantB, evOp, ev_tmp, ev_const, ev_fn, WN_some, WN_none, updO_some, updO_none, upd_eq,
 ↓reduceIte, Nat.reduceEqDiff, List.nil_append, List.cons_append, List.append_nil, List.map_cons, List.map_nil, env0_zero, env0_succ, env0_nil, Option.map_some, Option.map_none, seqQ_normal, seqQ_ret, seqQ_exit, seqQ_goto, blockQ_normal, blockQ_ret, blockQ_exit, blockQ_goto, condW_bool, loopQ_ret, loopQ_exit, loopQ_goto, endQ_ret, endQ_normal,
 lss_i, leq_i, gtr_i, geq_i, eql_i, neq_i, eql_8, neq_8, lss_8, leq_8, gtr_8, geq_8, eql_s, neq_s, eql_b, neq_b, not_b, by_bys, by_nils, load_cp1, beq_true, beq_false, Bool.not_eq_true', decide_eq_true_eq, decide_eq_false_iff_not, decide_true, decide_false,
 Int.toNat_natCast, Int.ofNat_lt, Int.ofNat_le, Int.natCast_inj, Bool.false_eq_true, Bool.true_eq_false, extPV, List.getElem?_cons_zero, List.getElem?_cons_succ, nilckPV, Int.reduceToNat, Int.reduceLE, true_and, and_true, reduceCtorEq, or_false, false_or, or_true, Option.some.injEq, exists_eq_left', Bool.not_true, Bool.not_false, ne_eq, Int.reduceEq, not_true_eq_false, not_false_eq_true, Int.reduceLT, UInt8.reduceLT, UInt8.reduceLE, UInt8.reduceToNat]
          refine loopQ_intro (m := (refLines l).length - (i + 1)) (by omega) ?_
          rw [hI]
          refine ⟨i + 1, w3, rfl, by omega, g3, ?_, h0, h5, rfl, rfl⟩
          rw [hgq]
          simpa [stuffLines, stuffLine, hd] using b3
    · have hlit3 : lit8Fill (List.replicate 3 0) [(0, .b8 46), (1, .b8 13), (2, .b8 10)] = some [46, 13, 10] := rfl
      obtain ⟨w1, s1, a1, g1, b1⟩ := app8_any hg.tok1 ho.tok1 (y := .bys (.own s.toks.length) [46, 13, 10]) by_bys (by simp [room]; omega)
      simp (maxSteps := 1000000) (disch := omega) only [h0, h5, h6, h7, hlt, len_vs hvs, hlen, hlit3, freshT_eq, a1, W_seq, W_region, W_cond, W_block, W_skip, W_label, W_exit, W_goto, W_ret, WO_cons, WO_consG, WO_nil, wantedA_eq, wantB, evOp, ev_tmp, ev_const, ev_fn, WN_some, WN_none, updO_some, updO_none, upd_eq,
 ↓reduceIte, Nat.reduceEqDiff, List.nil_append, List.cons_append, List.append_nil, List.map_cons, List.map_nil, env0_zero, env0_succ, env0_nil, Option.map_some, Option.map_none, seqQ_normal, seqQ_ret, seqQ_exit, seqQ_goto, blockQ_normal, blockQ_ret, blockQ_exit, blockQ_goto, condW_bool, loopQ_ret, loopQ_exit, loopQ_goto, endQ_ret, endQ_normal,
 lss_i, leq_i, gtr_i, geq_i, eql_i, neq_i, eql_8, neq_8, lss_8, leq_8, gtr_8, geq_8, eql_s, neq_s, eql_b, neq_b, not_b, by_bys, by_nils, load_cp1, beq_true, beq_false, Bool.not_eq_true', decide_eq_true_eq, decide_eq_false_iff_not, decide_true, decide_false,
 Int.toNat_natCast, Int.ofNat_lt, Int.ofNat_le, Int.natCast_inj, Bool.false_eq_true, Bool.true_eq_false, extPV, List.getElem?_cons_zero, List.getElem?_cons_succ, nilckPV, Int.reduceToNat, Int.reduceLE, true_and, and_true, reduceCtorEq, or_false, false_or, or_true, Option.some.injEq, exists_eq_left', Bool.not_true, Bool.not_false, ne_eq, Int.reduceEq, not_true_eq_false, not_false_eq_true, Int.reduceLT, UInt8.reduceLT, UInt8.reduceLE, UInt8.reduceToNat]
      obtain rfl : i = (refLines l).length := by omega
      rw [List.take_length] at b1
      refine ⟨.tup [w1, .int .i64 0], ?_, leave_ownB2 g1 b1 (by simp [stuffOf])⟩
      simp [resOf, rvAll, rv1, upd_eq, by_notTup b1.by, packRes, show notTup (PV.int .i64 0) = true from rfl]
  · rw [if_pos (by simpa using hr)]
    refine call_of_W prog_4 ?_
    unfold F_posthornref05_Stuff; dsimp only
    have hst : ∀ a b ts ls lo, storePV ⟨st.boxes ++ [[.int .i64 0, .int .i64 0]], ts, ls, lo⟩ 2 (.ptr st.boxes.length 0) (fV (a, b)) =
        some ⟨st.boxes ++ [[.int .i64 a, .int .i64 b]], ts, ls, lo⟩ := fun a b ts ls lo => by
      simp [storePV, fV, PV.cells, PV.inB, PV.inB.inBAll, setCells, hasTok, tokOf, leafOk]
    have hld : ∀ a b ts ls lo, loadPV ⟨st.boxes ++ [[.int .i64 a, .int .i64 b]], ts, ls, lo⟩ false 1 (.ptr st.boxes.length 1) = some (.int .i64 b) := fun a b ts ls lo => by
      simp [loadPV, readCells]
    have hrf : fV (rightOf l) = fV ((rightOf l).1, (rightOf l).2) := rfl
    simp (maxSteps := 1000000) (disch := omega) only [allocPV, rRight_spec hx hl, hrf, hst, hld, faddrPV, Nat.zero_add, hr, W_seq, W_region, W_cond, W_block, W_skip, W_label, W_exit, W_goto, W_ret, WO_cons, WO_consG, WO_nil, wantedA_eq, wantB, evOp, ev_tmp, ev_const, ev_fn, WN_some, WN_none, updO_some, updO_none, upd_eq,
 ↓reduceIte, Nat.reduceEqDiff, List.nil_append, List.cons_append, List.append_nil, List.map_cons, List.map_nil, env0_zero, env0_succ, env0_nil, Option.map_some, Option.map_none, seqQ_normal, seqQ_ret, seqQ_exit, seqQ_goto, blockQ_normal, blockQ_ret, blockQ_exit, blockQ_goto, condW_bool, loopQ_ret, loopQ_exit, loopQ_goto, endQ_ret, endQ_normal,
 lss_i, leq_i, gtr_i, geq_i, eql_i, neq_i, eql_8, neq_8, lss_8, leq_8, gtr_8, geq_8, eql_s, neq_s, eql_b, neq_b, not_b, by_bys, by_nils, load_cp1, beq_true, beq_false, Bool.not_eq_true', decide_eq_true_eq, decide_eq_false_iff_not, decide_true, decide_false,
 Int.toNat_natCast, Int.ofNat_lt, Int.ofNat_le, Int.natCast_inj, Bool.false_eq_true, Bool.true_eq_false, extPV, List.getElem?_cons_zero, List.getElem?_cons_succ, nilckPV, Int.reduceToNat, Int.reduceLE, true_and, and_true, reduceCtorEq, or_false, false_or, or_true, Option.some.injEq, exists_eq_left', Bool.not_true, Bool.not_false, ne_eq, Int.reduceEq, not_true_eq_false, not_false_eq_true, Int.reduceLT, UInt8.reduceLT, UInt8.reduceLE, UInt8.reduceToNat]
    refine ⟨.tup [.nils, .int .i64 (rightOf l).2], ?_, leave_gone0 rfl rfl⟩
    simp [resOf, rvAll, rv1, upd_eq, notTup, packRes]
end Go.Ab
