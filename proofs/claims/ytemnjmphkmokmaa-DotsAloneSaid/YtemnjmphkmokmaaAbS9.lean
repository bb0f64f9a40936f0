/-
  A text's frame: the program's answer.
-/
import Derived.Test.YtemnjmphkmokmaaAbS8
namespace Go.Ab
set_option linter.unusedVariables false
set_option linter.unusedSimpArgs false
variable {st : St} {e : Env}

/-- What the program appends of a line. -/
def dotLine (q : Nat × List UInt8 × Bool) : List UInt8 := (if (full q).head? = some 46 then [46] else []) ++ full q

/-- A right text's lines are whole. -/
theorem right_whole {n : Nat} {r : List (Nat × List UInt8 × Bool)} (hn : n ≠ 0) (h : (rightGo n r).2 = 0) : ∀ q ∈ r, q.2.2 = true := by
  intro q hq
  induction r with
  | nil => simp at hq
  | cons q' r ih =>
    simp only [rightGo] at h
    by_cases hf : (faultOf n q').2 = 0
    · rw [if_neg (by simpa using hf)] at h
      rcases List.mem_cons.1 hq with rfl | hq
      · by_cases hw : q.2.2 = true
        · exact hw
        · simp only [faultOf] at hf
          split at hf
          · simp at hf
          · split at hf
            · simp at hf
            · simp at hw; simp [hw] at hf
      · exact ih h hq
    · rw [if_pos (by simpa using hf)] at h
      exact absurd h hf

theorem dotLine_eq {q : Nat × List UInt8 × Bool} (h : q.2.2 = true) : dotLine q = stuffLine q := by
  simp only [dotLine, stuffLine, full, h, if_true]
  cases hb : q.2.1 with
  | nil => simp
  | cons c r => simp

theorem dStuff_spec {x : PV} {l : List UInt8} (hx : x.by = some l) (hl : l.length ≤ 1000000) (hxt : x.tokLt st.toks.length = true) :
    call prog (.fn 3 []) [x] st = some (if (rightOf l).2 ≠ 0 then (.tup [.nils, .int .i64 (rightOf l).2], st) else (.tup [.bys (.own st.toks.length) (stuffOf l), .int .i64 0], st.tok1)) := by
  by_cases hr : (rightOf l).2 = 0
  · rw [if_neg (by simpa using hr)]
    refine call_of_W prog_3 ?_
    unfold F_dots_Stuff; dsimp only
    have hst : ∀ a b ts ls lo, storePV ⟨st.boxes ++ [[.int .i64 0, .int .i64 0]], ts, ls, lo⟩ 2 (.ptr st.boxes.length 0) (fV (a, b)) =
        some ⟨st.boxes ++ [[.int .i64 a, .int .i64 b]], ts, ls, lo⟩ := fun a b ts ls lo => by
      simp [storePV, fV, PV.cells, PV.inB, PV.inB.inBAll, setCells, hasTok, tokOf, leafOk]
    have hld : ∀ a b ts ls lo, loadPV ⟨st.boxes ++ [[.int .i64 a, .int .i64 b]], ts, ls, lo⟩ false 1 (.ptr st.boxes.length 1) = some (.int .i64 b) := fun a b ts ls lo => by
      simp [loadPV, readCells]
    have hrf : fV (rightOf l) = fV ((rightOf l).1, (rightOf l).2) := rfl
    have hdr : ∀ bs lo, call prog (.fn 5 []) [x] ⟨bs, st.toks, st.loops, lo⟩ = some (fV (rightOf l), ⟨bs, st.toks, st.loops, lo⟩) := fun bs lo => dRight_spec hx hl hxt
    have hmin : min st.boxes.length (st.boxes.length + 2) = st.boxes.length := by omega
    simp (maxSteps := 1000000) (disch := omega) only [allocPV, hdr, hrf, hst, hld, faddrPV, Nat.zero_add, hr, dlines_spec hx, List.append_assoc, List.length_append, List.length_cons, List.length_nil, Nat.reduceAdd, hmin, W_seq, W_region, W_cond, W_block, W_skip, W_label, W_exit, W_goto, W_ret, WO_cons, WO_consG, WO_nil, wantedA_eq, wantB, evOp, ev_tmp, ev_const, ev_fn, WN_some, WN_none, updO_some, updO_none, upd_eq,
 ↓reduceIte, Nat.reduceEqDiff, List.nil_append, List.cons_append, List.append_nil, List.map_cons, List.map_nil, env0_zero, env0_succ, env0_nil, Option.map_some, Option.map_none, seqQ_normal, seqQ_ret, seqQ_exit, seqQ_goto, blockQ_normal, blockQ_ret, blockQ_exit, blockQ_goto, condW_bool, loopQ_ret, loopQ_exit, loopQ_goto, endQ_ret, endQ_normal,
 lss_i, leq_i, gtr_i, geq_i, eql_i, neq_i, eql_8, neq_8, lss_8, leq_8, gtr_8, geq_8, eql_s, neq_s, eql_b, neq_b, not_b, by_bys, by_nils, load_cp1, beq_true, beq_false, Bool.not_eq_true', decide_eq_true_eq, decide_eq_false_iff_not, decide_true, decide_false,
 Int.toNat_natCast, Int.ofNat_lt, Int.ofNat_le, Int.natCast_inj, Bool.false_eq_true, Bool.true_eq_false, extPV, List.getElem?_cons_zero, List.getElem?_cons_succ, nilckPV, Int.reduceToNat, Int.reduceLE, true_and, and_true, reduceCtorEq, or_false, false_or, or_true, Option.some.injEq, exists_eq_left', Bool.not_true, Bool.not_false, ne_eq, Int.reduceEq, not_true_eq_false, not_false_eq_true, Int.reduceLT, UInt8.reduceLT, UInt8.reduceLE, UInt8.reduceToNat]
    refine W_rangeFunc (fid := 27) (caps := [.ptr (st.boxes.length + 2) 0]) rfl prog_27 ?_
    generalize hrec : recOf _ _ _ _ = rec
    have hra := congrArg LoopS.assign hrec.symm
    have hrb := congrArg LoopS.body hrec.symm
    dsimp only [recOf] at hra hrb
    have r0 : rec.status = 0 := by rw [← hrec]; rfl
    have r2 : rec.params = [17, 18] := by rw [← hrec]; rfl
    have r4 : rec.env 5 = .ptr (st.boxes.length + 1) 0 := by rw [← hrec]; rfl
    have r5 : rec = { rec with status := 0, pend := .normal } := by rw [← hrec]; rfl
    have hsl := stuff_len (l := l)
    have hwh : ∀ q ∈ refLines l, q.2.2 = true := by
      by_cases hl0 : l.length = 0
      · have : l = [] := List.length_eq_zero_iff.1 hl0
        subst this; simp [refLines, segs, place]
      · exact right_whole hl0 hr
    have hbnd : ∀ d r, refLines l = d ++ r → (stuffLines d).length ≤ 5000000 := fun d r h => by
      rw [h] at hsl
      simp only [stuffLines, List.flatMap_append, List.length_append] at hsl ⊢; omega
    obtain ⟨P, hP⟩ : ∃ P : List (Nat × List UInt8 × Bool) → St → Prop, P = fun r s => ∃ w d lo, GrewAt (st.boxes ++ [[.int .i64 (rightOf l).1, .int .i64 0], [w], [x]]) st.toks (st.loops ++ [rec]) lo s ∧ OwnB st s w (stuffLines d) ∧ refLines l = d ++ r ∧
        st.boxes.length + 1 ≤ lo ∧ lo ≤ st.boxes.length + 3 ∧ (w = .nils ∨ lo ≤ st.boxes.length + 1) := ⟨_, rfl⟩
    obtain ⟨s1, hs1, hcall⟩ := lines_iter (st := ⟨st.boxes ++ [[.int .i64 (rightOf l).1, .int .i64 0], [.nils], [x]], st.toks, st.loops ++ [rec], st.boxes.length⟩) hx hl (b := st.boxes.length + 2) (k := st.loops.length) (N := st.toks.length) hxt (P := P) (D := P [])
      (fun r s h => by rw [hP] at h; obtain ⟨w, d, lo, hg, _⟩ := h; rw [hg.bx]; exact get_app)
      (fun r s h => by rw [hP] at h ⊢; obtain ⟨w, d, lo, hg, ho, h2⟩ := h; exact ⟨w, d, lo, hg.tok1, ho.tok1, h2⟩)
      (fun s h => h)
      (fun q r s v h hv hvt => by
        rw [hP] at h
        obtain ⟨w, d, lo, hg, ho, hd, hlo1, hlo2, hlo3⟩ := h
        have hqm : q ∈ refLines l := by rw [hd]; simp
        have hqw := hwh q hqm
        have hqo := (refLines_ok q hqm).1
        left
        have hmain : ∃ b s', call prog (.yld st.loops.length) [.int .i64 (q.1 : Int), v] s = some (.bool b, s') ∧ (b = true ∧ P r s') := by
          refine yld_of_W (r := rec) (e1 := upd (upd (upd rec.env 17 (.int .i64 (q.1 : Int))) 18 v) 7 v) (by rw [hg.lp]; exact get_app0) r0 (by rw [r2]; rfl) ?_ ?_
          · refine ex_of_W ?_
            simp (maxSteps := 1000000) (disch := omega) only [hra, r2, updAll, W_seq, W_region, W_cond, W_block, W_skip, W_label, W_exit, W_goto, W_ret, WO_cons, WO_consG, WO_nil, wantedA_eq, wantB, evOp, ev_tmp, ev_const, ev_fn, WN_some, WN_none, updO_some, updO_none, upd_eq,
 ↓reduceIte, Nat.reduceEqDiff, List.nil_append, List.cons_append, List.append_nil, List.map_cons, List.map_nil, env0_zero, env0_succ, env0_nil, Option.map_some, Option.map_none, seqQ_normal, seqQ_ret, seqQ_exit, seqQ_goto, blockQ_normal, blockQ_ret, blockQ_exit, blockQ_goto, condW_bool, loopQ_ret, loopQ_exit, loopQ_goto, endQ_ret, endQ_normal,
 lss_i, leq_i, gtr_i, geq_i, eql_i, neq_i, eql_8, neq_8, lss_8, leq_8, gtr_8, geq_8, eql_s, neq_s, eql_b, neq_b, not_b, by_bys, by_nils, load_cp1, beq_true, beq_false, Bool.not_eq_true', decide_eq_true_eq, decide_eq_false_iff_not, decide_true, decide_false,
 Int.toNat_natCast, Int.ofNat_lt, Int.ofNat_le, Int.natCast_inj, Bool.false_eq_true, Bool.true_eq_false, extPV, List.getElem?_cons_zero, List.getElem?_cons_succ, nilckPV, Int.reduceToNat, Int.reduceLE, true_and, and_true, reduceCtorEq, or_false, false_or, or_true, Option.some.injEq, exists_eq_left', Bool.not_true, Bool.not_false, ne_eq, Int.reduceEq, not_true_eq_false, not_false_eq_true, Int.reduceLT, UInt8.reduceLT, UInt8.reduceLE, UInt8.reduceToNat]
          · obtain ⟨rec1, hrec1⟩ : ∃ r, r = ({ rec with status := 1 } : LoopS) := ⟨_, rfl⟩
            have hls : s.loops.set st.loops.length { rec with status := 1 } = st.loops ++ [rec1] := by rw [hg.lp, set_app0, hrec1]
            rw [hls, hrb]
            have hg' := hg.loops (L' := st.loops ++ [rec1])
            have ho' := ho.loops (L' := st.loops ++ [rec1])
            generalize ({ s with loops := st.loops ++ [rec1] } : St) = sb at hg' ho'
            have hbd := hbnd d (q :: r) hd
            have hfl : (full q).length ≤ 1000002 := by simp only [full]; split <;> simp <;> omega
            have hfne : 0 < (full q).length := by simp [full, hqw]
            have hlit1 : lit8Fill (List.replicate 1 0) [(0, .b8 46)] = some [46] := rfl
            -- the line itself, behind whatever has been put ahead
            have line : ∀ (w1 : PV) (s1 : St) (o1 : List UInt8) (lo1 : Nat), GrewAt (st.boxes ++ [[.int .i64 (rightOf l).1, .int .i64 0], [w1], [x]]) st.toks (st.loops ++ [rec1]) lo1 s1 → OwnB st s1 w1 o1 → o1.length ≤ 6000000 → st.boxes.length + 1 ≤ lo1 → lo1 ≤ st.boxes.length + 3 →
                o1 ++ full q = stuffLines (d ++ [q]) →
                ∃ w2 s2 s3, loadPV s1 false 1 (.ptr (st.boxes.length + 1) 0) = some w1 ∧ app8 s1 w1 v = some (w2, s2) ∧ storePV s2 1 (.ptr (st.boxes.length + 1) 0) w2 = some s3 ∧ ∀ e2, roundQ st.loops.length (fun b s' => b = true ∧ P r s') .normal e2 s3 := by
              intro w1 s1 o1 lo1 g1 b1 hl1 hlo11 hlo12 heq
              obtain ⟨w2, s2, a2, g2, b2⟩ := app8_any g1 b1 (y := v) hv (by simp only [room]; omega)
              obtain ⟨lo3, s3, a3, g3, b3, c3, c4⟩ := store_own g2 b2
              refine ⟨w2, s2, s3, load_own g1, a2, a3, fun e2 => ⟨rec1, by rw [g3.lp]; exact get_app0, rfl, ?_⟩⟩
              rw [hP]
              subst hrec1
              refine ⟨w2, d ++ [q], lo3, ?_, ?_, by rw [hd]; simp, by omega, by omega, c4⟩
              · have := g3.loops (L' := st.loops ++ [rec])
                simp only [if_true]
                rw [g3.lp, set_app0, ← r5]
                exact this
              · rw [← heq]; exact b3
            have hst2 : ∀ o : List UInt8, o = stuffLines d → (o ++ dotLine q) = stuffLines (d ++ [q]) := fun o ho => by
              rw [ho, dotLine_eq hqw]; simp [stuffLines]
            have hld2 := load_own hg'
            have hfne' : (0 : Int).toNat < (full q).length := by simpa using hfne
            by_cases hh : (full q).head? = some 46
            · have hg0 : (full q).getD 0 0 = 46 := by
                cases hb : full q with
                | nil => rw [hb] at hh; simp at hh
                | cons c r => rw [hb] at hh; simp at hh; simp [hh]
              obtain ⟨w1, s1, a1, g1, b1⟩ := app8_any hg'.tok1 ho'.tok1 (y := .bys (.own sb.toks.length) [46]) by_bys (by simp [room]; omega)
              obtain ⟨lo1, s1', st1, g1', b1', k1, k2⟩ := store_own g1 b1
              obtain ⟨w2, s2, s3, ld, a2, st2, fin⟩ := line w1 s1' _ lo1 g1' b1' (by simp; omega) (by omega) (by omega) (by
                rw [← hst2 _ rfl]; simp only [dotLine, hh, if_true, List.append_assoc])
              simp (maxSteps := 1000000) (disch := omega) only [r4, iaddr_by hv, hfne', eq_true hg0, hld2, hlit1, freshT_eq, a1, st1, ld, a2, st2, W_seq, W_region, W_cond, W_block, W_skip, W_label, W_exit, W_goto, W_ret, WO_cons, WO_consG, WO_nil, wantedA_eq, wantB, evOp, ev_tmp, ev_const, ev_fn, WN_some, WN_none, updO_some, updO_none, upd_eq,
 ↓reduceIte, Nat.reduceEqDiff, List.nil_append, List.cons_append, List.append_nil, List.map_cons, List.map_nil, env0_zero, env0_succ, env0_nil, Option.map_some, Option.map_none, seqQ_normal, seqQ_ret, seqQ_exit, seqQ_goto, blockQ_normal, blockQ_ret, blockQ_exit, blockQ_goto, condW_bool, loopQ_ret, loopQ_exit, loopQ_goto, endQ_ret, endQ_normal,
 lss_i, leq_i, gtr_i, geq_i, eql_i, neq_i, eql_8, neq_8, lss_8, leq_8, gtr_8, geq_8, eql_s, neq_s, eql_b, neq_b, not_b, by_bys, by_nils, load_cp1, beq_true, beq_false, Bool.not_eq_true', decide_eq_true_eq, decide_eq_false_iff_not, decide_true, decide_false,
 Int.toNat_natCast, Int.ofNat_lt, Int.ofNat_le, Int.natCast_inj, Bool.false_eq_true, Bool.true_eq_false, extPV, List.getElem?_cons_zero, List.getElem?_cons_succ, nilckPV, Int.reduceToNat, Int.reduceLE, true_and, and_true, reduceCtorEq, or_false, false_or, or_true, Option.some.injEq, exists_eq_left', Bool.not_true, Bool.not_false, ne_eq, Int.reduceEq, not_true_eq_false, not_false_eq_true, Int.reduceLT, UInt8.reduceLT, UInt8.reduceLE, UInt8.reduceToNat]
              exact fin _
            · have hg0 : ¬ (full q).getD 0 0 = 46 := by
                cases hb : full q with
                | nil => rw [hb] at hfne; simp at hfne
                | cons c r => rw [hb] at hh; simp at hh; simp [hh]
              obtain ⟨w2, s2, s3, ld, a2, st2, fin⟩ := line w sb _ lo hg' ho' (by omega) (by omega) (by omega) (by
                rw [← hst2 _ rfl]; simp only [dotLine, hh, if_false, List.nil_append])
              simp (maxSteps := 1000000) (disch := omega) only [r4, iaddr_by hv, hfne', hg0, ld, a2, st2, W_seq, W_region, W_cond, W_block, W_skip, W_label, W_exit, W_goto, W_ret, WO_cons, WO_consG, WO_nil, wantedA_eq, wantB, evOp, ev_tmp, ev_const, ev_fn, WN_some, WN_none, updO_some, updO_none, upd_eq,
 ↓reduceIte, Nat.reduceEqDiff, List.nil_append, List.cons_append, List.append_nil, List.map_cons, List.map_nil, env0_zero, env0_succ, env0_nil, Option.map_some, Option.map_none, seqQ_normal, seqQ_ret, seqQ_exit, seqQ_goto, blockQ_normal, blockQ_ret, blockQ_exit, blockQ_goto, condW_bool, loopQ_ret, loopQ_exit, loopQ_goto, endQ_ret, endQ_normal,
 lss_i, leq_i, gtr_i, geq_i, eql_i, neq_i, eql_8, neq_8, lss_8, leq_8, gtr_8, geq_8, eql_s, neq_s, eql_b, neq_b, not_b, by_bys, by_nils, load_cp1, beq_true, beq_false, Bool.not_eq_true', decide_eq_true_eq, decide_eq_false_iff_not, decide_true, decide_false,
 Int.toNat_natCast, Int.ofNat_lt, Int.ofNat_le, Int.natCast_inj, Bool.false_eq_true, Bool.true_eq_false, extPV, List.getElem?_cons_zero, List.getElem?_cons_succ, nilckPV, Int.reduceToNat, Int.reduceLE, true_and, and_true, reduceCtorEq, or_false, false_or, or_true, Option.some.injEq, exists_eq_left', Bool.not_true, Bool.not_false, ne_eq, Int.reduceEq, not_true_eq_false, not_false_eq_true, Int.reduceLT, UInt8.reduceLT, UInt8.reduceLE, UInt8.reduceToNat]
              exact fin _
        obtain ⟨b, s', c1, rfl, c2⟩ := hmain
        exact ⟨s', c1, c2⟩)
      (by rw [hP]; exact ⟨.nils, [], st.boxes.length + 3, ⟨rfl, rfl, by simp, by simp⟩, .inl ⟨rfl, rfl⟩, rfl, by omega, by omega, .inl rfl⟩)
    rw [hP] at hs1
    obtain ⟨w, d, lo, hg, ho, hd, hlo1, hlo2, hlo3⟩ := hs1
    rw [List.append_nil] at hd
    subst hd
    have hlv : ∃ s2, leave ⟨st.boxes ++ [[.int .i64 (rightOf l).1, .int .i64 0], [.nils], [x]], st.toks, st.loops ++ [rec], st.boxes.length⟩ s1 (.tup []) = (.tup [], s2) ∧
        GrewAt (st.boxes ++ [[.int .i64 (rightOf l).1, .int .i64 0], [w], [x]]) st.toks (st.loops ++ [rec]) st.boxes.length s2 ∧ OwnB st s2 w (stuffLines (refLines l)) := by
      obtain ⟨bs, ts, ls, lo0⟩ := s1
      obtain ⟨q1, q2, q3, q4⟩ := hg
      simp only at q1 q2 q3 q4
      subst q1 q2 q3
      have htake : List.take (st.boxes.length + 3) (st.boxes ++ [[PV.int .i64 (rightOf l).1, .int .i64 0], [w], [x]]) = st.boxes ++ [[PV.int .i64 (rightOf l).1, .int .i64 0], [w], [x]] := List.take_of_length_le (by simp)
      by_cases hc : st.boxes.length + 3 ≤ lo0
      · have hw : w = .nils := by rcases hlo3 with h | h; exact h; omega
        subst hw
        refine ⟨_, by simp [leave, PV.inB, PV.inB.inBAll, hc, keepRes, keepVals, htake, q4], .start (ts := []), ?_⟩
        rcases ho with ⟨_, h⟩ | ⟨i, h, _⟩
        · exact .inl ⟨rfl, h⟩
        · cases h
      · refine ⟨⟨st.boxes ++ [[PV.int .i64 (rightOf l).1, .int .i64 0], [w], [x]], ts, st.loops ++ [rec], st.boxes.length⟩, ?_, ⟨rfl, rfl, rfl, q4⟩, ho⟩
        simp [leave, PV.inB, PV.inB.inBAll, hc, htake]; try omega
    obtain ⟨s2, hlv, hg2, ho2⟩ := hlv
    rw [hlv] at hcall
    have r1 : rec.pend = .normal := by rw [← hrec]; rfl
    refine ⟨_, s2, rec, hcall, by rw [hg2.lp]; exact get_app0, by rw [r0]; simp, ?_⟩
    have hlt : List.take st.loops.length s2.loops = st.loops := by rw [hg2.lp]; simp
    rw [r1]
    dsimp only
    rw [hlt]
    have hg3 := hg2.loops (L' := st.loops)
    have ho3 := ho2.loops (L' := st.loops)
    generalize ({ s2 with loops := st.loops } : St) = s3 at hg3 ho3
    have hld3 := load_own hg3
    have happ := app8_ownS (y := .str [46, 13, 10]) ho3 rfl (by simp) (by simp only [room]; simp; try omega)
    obtain ⟨g4, o4⟩ := OwnB.app (m := stuffLines (refLines l) ++ [46, 13, 10]) hg3 ho3
    simp (maxSteps := 1000000) (disch := omega) only [hld3, happ, W_seq, W_region, W_cond, W_block, W_skip, W_label, W_exit, W_goto, W_ret, WO_cons, WO_consG, WO_nil, wantedA_eq, wantB, evOp, ev_tmp, ev_const, ev_fn, WN_some, WN_none, updO_some, updO_none, upd_eq,
 ↓reduceIte, Nat.reduceEqDiff, List.nil_append, List.cons_append, List.append_nil, List.map_cons, List.map_nil, env0_zero, env0_succ, env0_nil, Option.map_some, Option.map_none, seqQ_normal, seqQ_ret, seqQ_exit, seqQ_goto, blockQ_normal, blockQ_ret, blockQ_exit, blockQ_goto, condW_bool, loopQ_ret, loopQ_exit, loopQ_goto, endQ_ret, endQ_normal,
 lss_i, leq_i, gtr_i, geq_i, eql_i, neq_i, eql_8, neq_8, lss_8, leq_8, gtr_8, geq_8, eql_s, neq_s, eql_b, neq_b, not_b, by_bys, by_nils, load_cp1, beq_true, beq_false, Bool.not_eq_true', decide_eq_true_eq, decide_eq_false_iff_not, decide_true, decide_false,
 Int.toNat_natCast, Int.ofNat_lt, Int.ofNat_le, Int.natCast_inj, Bool.false_eq_true, Bool.true_eq_false, extPV, List.getElem?_cons_zero, List.getElem?_cons_succ, nilckPV, Int.reduceToNat, Int.reduceLE, true_and, and_true, reduceCtorEq, or_false, false_or, or_true, Option.some.injEq, exists_eq_left', Bool.not_true, Bool.not_false, ne_eq, Int.reduceEq, not_true_eq_false, not_false_eq_true, Int.reduceLT, UInt8.reduceLT, UInt8.reduceLE, UInt8.reduceToNat]
    refine ⟨.tup [.bys (.own s3.toks.length) (stuffLines (refLines l) ++ [46, 13, 10]), .int .i64 0], ?_, leave_ownB2 g4 o4 (by simp [stuffOf])⟩
    simp [resOf, rvAll, rv1, upd_eq, notTup, packRes]
  · rw [if_pos (by simpa using hr)]
    refine call_of_W prog_3 ?_
    unfold F_dots_Stuff; dsimp only
    have hst : ∀ a b ts ls lo, storePV ⟨st.boxes ++ [[.int .i64 0, .int .i64 0]], ts, ls, lo⟩ 2 (.ptr st.boxes.length 0) (fV (a, b)) =
        some ⟨st.boxes ++ [[.int .i64 a, .int .i64 b]], ts, ls, lo⟩ := fun a b ts ls lo => by
      simp [storePV, fV, PV.cells, PV.inB, PV.inB.inBAll, setCells, hasTok, tokOf, leafOk]
    have hld : ∀ a b ts ls lo, loadPV ⟨st.boxes ++ [[.int .i64 a, .int .i64 b]], ts, ls, lo⟩ false 1 (.ptr st.boxes.length 1) = some (.int .i64 b) := fun a b ts ls lo => by
      simp [loadPV, readCells]
    have hrf : fV (rightOf l) = fV ((rightOf l).1, (rightOf l).2) := rfl
    have hdr : ∀ bs lo, call prog (.fn 5 []) [x] ⟨bs, st.toks, st.loops, lo⟩ = some (fV (rightOf l), ⟨bs, st.toks, st.loops, lo⟩) := fun bs lo => dRight_spec hx hl hxt
    simp (maxSteps := 1000000) (disch := omega) only [allocPV, hdr, hrf, hst, hld, faddrPV, Nat.zero_add, hr, W_seq, W_region, W_cond, W_block, W_skip, W_label, W_exit, W_goto, W_ret, WO_cons, WO_consG, WO_nil, wantedA_eq, wantB, evOp, ev_tmp, ev_const, ev_fn, WN_some, WN_none, updO_some, updO_none, upd_eq,
 ↓reduceIte, Nat.reduceEqDiff, List.nil_append, List.cons_append, List.append_nil, List.map_cons, List.map_nil, env0_zero, env0_succ, env0_nil, Option.map_some, Option.map_none, seqQ_normal, seqQ_ret, seqQ_exit, seqQ_goto, blockQ_normal, blockQ_ret, blockQ_exit, blockQ_goto, condW_bool, loopQ_ret, loopQ_exit, loopQ_goto, endQ_ret, endQ_normal,
 lss_i, leq_i, gtr_i, geq_i, eql_i, neq_i, eql_8, neq_8, lss_8, leq_8, gtr_8, geq_8, eql_s, neq_s, eql_b, neq_b, not_b, by_bys, by_nils, load_cp1, beq_true, beq_false, Bool.not_eq_true', decide_eq_true_eq, decide_eq_false_iff_not, decide_true, decide_false,
 Int.toNat_natCast, Int.ofNat_lt, Int.ofNat_le, Int.natCast_inj, Bool.false_eq_true, Bool.true_eq_false, extPV, List.getElem?_cons_zero, List.getElem?_cons_succ, nilckPV, Int.reduceToNat, Int.reduceLE, true_and, and_true, reduceCtorEq, or_false, false_or, or_true, Option.some.injEq, exists_eq_left', Bool.not_true, Bool.not_false, ne_eq, Int.reduceEq, not_true_eq_false, not_false_eq_true, Int.reduceLT, UInt8.reduceLT, UInt8.reduceLE, UInt8.reduceToNat]
    refine ⟨.tup [.nils, .int .i64 (rightOf l).2], ?_, leave_gone0 rfl rfl⟩
    simp [resOf, rvAll, rv1, upd_eq, notTup, packRes]
end Go.Ab
