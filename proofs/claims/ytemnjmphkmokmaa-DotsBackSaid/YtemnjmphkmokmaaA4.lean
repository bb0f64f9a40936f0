/-
  A text's frame: the program's answer.
-/
import Derived.Test.YtemnjmphkmokmaaA3
import Derived.Test.YtemnjmphkmokmaaA2
import Derived.Shelf.Bytes.SlIndexWhole
import Derived.Shelf.Bytes.IndexByte
namespace Go.Ab
set_option linter.unusedVariables false
set_option linter.unusedSimpArgs false
variable {st : St} {e : Env}

/-- What the program appends of a line. -/
def dotLine (q : Nat × List UInt8 × Bool) : List UInt8 := (if (full q).head? = some 46 then [46] else []) ++ full q

/-- A right text's lines are whole. -/
theorem right_whole {n : Nat} {r : List (Nat × List UInt8 × Bool)} (hn : n ≠ 0) (h : (rightGo n r).2 = 0) : ∀ q ∈ r, q.2.2 = true := by
  intro q hq
  induction r with
  | nil => simp at hq
  | cons q' r ih =>
    simp only [rightGo] at h
    by_cases hf : (faultOf n q').2 = 0
    · rw [if_neg (by simpa using hf)] at h
      rcases List.mem_cons.1 hq with rfl | hq
      · by_cases hw : q.2.2 = true
        · exact hw
        · simp only [faultOf] at hf
          split at hf
          · simp at hf
          · split at hf
            · simp at hf
            · simp at hw; simp [hw] at hf
      · exact ih h hq
    · rw [if_pos (by simpa using hf)] at h
      exact absurd h hf

theorem dotLine_eq {q : Nat × List UInt8 × Bool} (h : q.2.2 = true) : dotLine q = stuffLine q := by
  simp only [dotLine, stuffLine, full, h, if_true]
  cases hb : q.2.1 with
  | nil => simp
  | cons c r => simp

theorem dStuff_spec {x : PV} {l : List UInt8} (hx : x.by = some l) (hl : l.length ≤ 1000000) (hxt : x.tokLt st.toks.length = true) :
    call prog (.fn 3 []) [x] st = some (if (rightOf l).2 ≠ 0 then (.tup [.nils, .int .i64 (rightOf l).2], st) else (.tup [.bys (.own st.toks.length) (stuffOf l), .int .i64 0], st.tok1)) := by
  by_cases hr : (rightOf l).2 = 0
  · rw [if_neg (by simpa using hr)]
    refine call_of_W prog_3 ?_
    unfold F_dots_Stuff; dsimp only
    have hst : ∀ a b ts ls lo, storePV ⟨st.boxes ++ [[.int .i64 0, .int .i64 0]], ts, ls, lo⟩ 2 (.ptr st.boxes.length 0) (fV (a, b)) =
        some ⟨st.boxes ++ [[.int .i64 a, .int .i64 b]], ts, ls, lo⟩ := fun a b ts ls lo => by
      simp [storePV, fV, PV.cells, PV.inB, PV.inB.inBAll, setCells, hasTok, tokOf, leafOk]
    have hld : ∀ a b ts ls lo, loadPV ⟨st.boxes ++ [[.int .i64 a, .int .i64 b]], ts, ls, lo⟩ false 1 (.ptr st.boxes.length 1) = some (.int .i64 b) := fun a b ts ls lo => by
      simp [loadPV, readCells]
    have hrf : fV (rightOf l) = fV ((rightOf l).1, (rightOf l).2) := rfl
    have hdr : ∀ bs lo, call prog (.fn 5 []) [x] ⟨bs, st.toks, st.loops, lo⟩ = some (fV (rightOf l), ⟨bs, st.toks, st.loops, lo⟩) := fun bs lo => dRight_spec hx hl hxt
    have hmin : min st.boxes.length (st.boxes.length + 2) = st.boxes.length := by omega
    simp (maxSteps := 1000000) (disch := omega) only [allocPV, hdr, hrf, hst, hld, faddrPV, Nat.zero_add, hr, dlines_spec hx, List.append_assoc, List.length_append, List.length_cons, List.length_nil, Nat.reduceAdd, hmin, W_seq, W_region, W_cond, W_block, W_skip, W_label, W_exit, W_goto, W_ret, WO_cons, WO_consG, WO_nil, wantedA_eq, wantB, evOp, ev_tmp, ev_const, ev_fn, WN_some, WN_none, updO_some, updO_none, upd_eq,
 ↓reduceIte, Nat.reduceEqDiff, List.nil_append, List.cons_append, List.append_nil, List.map_cons, List.map_nil, env0_zero, env0_succ, env0_nil, Option.map_some, Option.map_none, seqQ_normal, seqQ_ret, seqQ_exit, seqQ_goto, blockQ_normal, blockQ_ret, blockQ_exit, blockQ_goto, condW_bool, loopQ_ret, loopQ_exit, loopQ_goto, endQ_ret, endQ_normal,
 lss_i, leq_i, gtr_i, geq_i, eql_i, neq_i, eql_8, neq_8, lss_8, leq_8, gtr_8, geq_8, eql_s, neq_s, eql_b, neq_b, not_b, by_bys, by_nils, load_cp1, beq_true, beq_false, Bool.not_eq_true', decide_eq_true_eq, decide_eq_false_iff_not, decide_true, decide_false,
 Int.toNat_natCast, Int.ofNat_lt, Int.ofNat_le, Int.natCast_inj, Bool.false_eq_true, Bool.true_eq_false, extPV, List.getElem?_cons_zero, List.getElem?_cons_succ, nilckPV, Int.reduceToNat, Int.reduceLE, true_and, and_true, reduceCtorEq, or_false, false_or, or_true, Option.some.injEq, exists_eq_left', Bool.not_true, Bool.not_false, ne_eq, Int.reduceEq, not_true_eq_false, not_false_eq_true, Int.reduceLT, UInt8.reduceLT, UInt8.reduceLE, UInt8.reduceToNat]
    refine W_rangeFunc (fid := 27) (caps := [.ptr (st.boxes.length + 2) 0]) rfl prog_27 ?_
    generalize hrec : recOf _ _ _ _ = rec
    have hra := congrArg LoopS.assign hrec.symm
    have hrb := congrArg LoopS.body hrec.symm
    dsimp only [recOf] at hra hrb
    have r0 : rec.status = 0 := by rw [← hrec]; rfl
    have r2 : rec.params = [17, 18] := by rw [← hrec]; rfl
    have r4 : rec.env 5 = .ptr (st.boxes.length + 1) 0 := by rw [← hrec]; rfl
    have r5 : rec = { rec with status := 0, pend := .normal } := by rw [← hrec]; rfl
    have hsl := stuff_len (l := l)
    have hwh : ∀ q ∈ refLines l, q.2.2 = true := by
      by_cases hl0 : l.length = 0
      · have : l = [] := List.length_eq_zero_iff.1 hl0
        subst this; simp [refLines, segs, place]
      · exact right_whole hl0 hr
    have hbnd : ∀ d r, refLines l = d ++ r → (stuffLines d).length ≤ 5000000 := fun d r h => by
      rw [h] at hsl
      simp only [stuffLines, List.flatMap_append, List.length_append] at hsl ⊢; omega
    obtain ⟨P, hP⟩ : ∃ P : List (Nat × List UInt8 × Bool) → St → Prop, P = fun r s => ∃ w d lo, GrewAt (st.boxes ++ [[.int .i64 (rightOf l).1, .int .i64 0], [w], [x]]) st.toks (st.loops ++ [rec]) lo s ∧ OwnB st s w (stuffLines d) ∧ refLines l = d ++ r ∧
        st.boxes.length + 1 ≤ lo ∧ lo ≤ st.boxes.length + 3 ∧ (w = .nils ∨ lo ≤ st.boxes.length + 1) := ⟨_, rfl⟩
    obtain ⟨s1, hs1, hcall⟩ := lines_iter (st := ⟨st.boxes ++ [[.int .i64 (rightOf l).1, .int .i64 0], [.nils], [x]], st.toks, st.loops ++ [rec], st.boxes.length⟩) hx hl (b := st.boxes.length + 2) (k := st.loops.length) (N := st.toks.length) hxt (P := P) (D := P [])
      (fun r s h => by rw [hP] at h; obtain ⟨w, d, lo, hg, _⟩ := h; rw [hg.bx]; exact get_app)
      (fun r s h => by rw [hP] at h ⊢; obtain ⟨w, d, lo, hg, ho, h2⟩ := h; exact ⟨w, d, lo, hg.tok1, ho.tok1, h2⟩)
      (fun s h => h)
      (fun q r s v h hv hvt => by
        rw [hP] at h
        obtain ⟨w, d, lo, hg, ho, hd, hlo1, hlo2, hlo3⟩ := h
        have hqm : q ∈ refLines l := by rw [hd]; simp
        have hqw := hwh q hqm
        have hqo := (refLines_ok q hqm).1
        left
        have hmain : ∃ b s', call prog (.yld st.loops.length) [.int .i64 (q.1 : Int), v] s = some (.bool b, s') ∧ (b = true ∧ P r s') := by
          refine yld_of_W (r := rec) (e1 := upd (upd (upd rec.env 17 (.int .i64 (q.1 : Int))) 18 v) 7 v) (by rw [hg.lp]; exact get_app0) r0 (by rw [r2]; rfl) ?_ ?_
          · refine ex_of_W ?_
            simp (maxSteps := 1000000) (disch := omega) only [hra, r2, updAll, W_seq, W_region, W_cond, W_block, W_skip, W_label, W_exit, W_goto, W_ret, WO_cons, WO_consG, WO_nil, wantedA_eq, wantB, evOp, ev_tmp, ev_const, ev_fn, WN_some, WN_none, updO_some, updO_none, upd_eq,
 ↓reduceIte, Nat.reduceEqDiff, List.nil_append, List.cons_append, List.append_nil, List.map_cons, List.map_nil, env0_zero, env0_succ, env0_nil, Option.map_some, Option.map_none, seqQ_normal, seqQ_ret, seqQ_exit, seqQ_goto, blockQ_normal, blockQ_ret, blockQ_exit, blockQ_goto, condW_bool, loopQ_ret, loopQ_exit, loopQ_goto, endQ_ret, endQ_normal,
 lss_i, leq_i, gtr_i, geq_i, eql_i, neq_i, eql_8, neq_8, lss_8, leq_8, gtr_8, geq_8, eql_s, neq_s, eql_b, neq_b, not_b, by_bys, by_nils, load_cp1, beq_true, beq_false, Bool.not_eq_true', decide_eq_true_eq, decide_eq_false_iff_not, decide_true, decide_false,
 Int.toNat_natCast, Int.ofNat_lt, Int.ofNat_le, Int.natCast_inj, Bool.false_eq_true, Bool.true_eq_false, extPV, List.getElem?_cons_zero, List.getElem?_cons_succ, nilckPV, Int.reduceToNat, Int.reduceLE, true_and, and_true, reduceCtorEq, or_false, false_or, or_true, Option.some.injEq, exists_eq_left', Bool.not_true, Bool.not_false, ne_eq, Int.reduceEq, not_true_eq_false, not_false_eq_true, Int.reduceLT, UInt8.reduceLT, UInt8.reduceLE, UInt8.reduceToNat]
          · obtain ⟨rec1, hrec1⟩ : ∃ r, r = ({ rec with status := 1 } : LoopS) := ⟨_, rfl⟩
            have hls : s.loops.set st.loops.length { rec with status := 1 } = st.loops ++ [rec1] := by rw [hg.lp, set_app0, hrec1]
            rw [hls, hrb]
            have hg' := hg.loops (L' := st.loops ++ [rec1])
            have ho' := ho.loops (L' := st.loops ++ [rec1])
            generalize ({ s with loops := st.loops ++ [rec1] } : St) = sb at hg' ho'
            have hbd := hbnd d (q :: r) hd
            have hfl : (full q).length ≤ 1000002 := by simp only [full]; split <;> simp <;> omega
            have hfne : 0 < (full q).length := by simp [full, hqw]
            have hlit1 : lit8Fill (List.replicate 1 0) [(0, .b8 46)] = some [46] := rfl
            -- the line itself, behind whatever has been put ahead
            have line : ∀ (w1 : PV) (s1 : St) (o1 : List UInt8) (lo1 : Nat), GrewAt (st.boxes ++ [[.int .i64 (rightOf l).1, .int .i64 0], [w1], [x]]) st.toks (st.loops ++ [rec1]) lo1 s1 → OwnB st s1 w1 o1 → o1.length ≤ 6000000 → st.boxes.length + 1 ≤ lo1 → lo1 ≤ st.boxes.length + 3 →
                o1 ++ full q = stuffLines (d ++ [q]) →
                ∃ w2 s2 s3, loadPV s1 false 1 (.ptr (st.boxes.length + 1) 0) = some w1 ∧ app8 s1 w1 v = some (w2, s2) ∧ storePV s2 1 (.ptr (st.boxes.length + 1) 0) w2 = some s3 ∧ ∀ e2, roundQ st.loops.length (fun b s' => b = true ∧ P r s') .normal e2 s3 := by
              intro w1 s1 o1 lo1 g1 b1 hl1 hlo11 hlo12 heq
              obtain ⟨w2, s2, a2, g2, b2⟩ := app8_any g1 b1 (y := v) hv (by simp only [room]; omega)
              obtain ⟨lo3, s3, a3, g3, b3, c3, c4⟩ := store_own g2 b2
              refine ⟨w2, s2, s3, load_own g1, a2, a3, fun e2 => ⟨rec1, by rw [g3.lp]; exact get_app0, rfl, ?_⟩⟩
              rw [hP]
              subst hrec1
              refine ⟨w2, d ++ [q], lo3, ?_, ?_, by rw [hd]; simp, by omega, by omega, c4⟩
              · have := g3.loops (L' := st.loops ++ [rec])
                simp only [if_true]
                rw [g3.lp, set_app0, ← r5]
                exact this
              · rw [← heq]; exact b3
            have hst2 : ∀ o : List UInt8, o = stuffLines d → (o ++ dotLine q) = stuffLines (d ++ [q]) := fun o ho => by
              rw [ho, dotLine_eq hqw]; simp [stuffLines]
            have hld2 := load_own hg'
            have hfne' : (0 : Int).toNat < (full q).length := by simpa using hfne
            by_cases hh : (full q).head? = some 46
            · have hg0 : (full q).getD 0 0 = 46 := by
                cases hb : full q with
                | nil => rw [hb] at hh; simp at hh
                | cons c r => rw [hb] at hh; simp at hh; simp [hh]
              obtain ⟨w1, s1, a1, g1, b1⟩ := app8_any hg'.tok1 ho'.tok1 (y := .bys (.own sb.toks.length) [46]) by_bys (by simp [room]; omega)
              obtain ⟨lo1, s1', st1, g1', b1', k1, k2⟩ := store_own g1 b1
              obtain ⟨w2, s2, s3, ld, a2, st2, fin⟩ := line w1 s1' _ lo1 g1' b1' (by simp; omega) (by omega) (by omega) (by
                rw [← hst2 _ rfl]; simp only [dotLine, hh, if_true, List.append_assoc])
              simp (maxSteps := 1000000) (disch := omega) only [r4, iaddr_by hv, hfne', eq_true hg0, hld2, hlit1, freshT_eq, a1, st1, ld, a2, st2, W_seq, W_region, W_cond, W_block, W_skip, W_label, W_exit, W_goto, W_ret, WO_cons, WO_consG, WO_nil, wantedA_eq, wantB, evOp, ev_tmp, ev_const, ev_fn, WN_some, WN_none, updO_some, updO_none, upd_eq,
 ↓reduceIte, Nat.reduceEqDiff, List.nil_append, List.cons_append, List.append_nil, List.map_cons, List.map_nil, env0_zero, env0_succ, env0_nil, Option.map_some, Option.map_none, seqQ_normal, seqQ_ret, seqQ_exit, seqQ_goto, blockQ_normal, blockQ_ret, blockQ_exit, blockQ_goto, condW_bool, loopQ_ret, loopQ_exit, loopQ_goto, endQ_ret, endQ_normal,
 lss_i, leq_i, gtr_i, geq_i, eql_i, neq_i, eql_8, neq_8, lss_8, leq_8, gtr_8, geq_8, eql_s, neq_s, eql_b, neq_b, not_b, by_bys, by_nils, load_cp1, beq_true, beq_false, Bool.not_eq_true', decide_eq_true_eq, decide_eq_false_iff_not, decide_true, decide_false,
 Int.toNat_natCast, Int.ofNat_lt, Int.ofNat_le, Int.natCast_inj, Bool.false_eq_true, Bool.true_eq_false, extPV, List.getElem?_cons_zero, List.getElem?_cons_succ, nilckPV, Int.reduceToNat, Int.reduceLE, true_and, and_true, reduceCtorEq, or_false, false_or, or_true, Option.some.injEq, exists_eq_left', Bool.not_true, Bool.not_false, ne_eq, Int.reduceEq, not_true_eq_false, not_false_eq_true, Int.reduceLT, UInt8.reduceLT, UInt8.reduceLE, UInt8.reduceToNat]
              exact fin _
            · have hg0 : ¬ (full q).getD 0 0 = 46 := by
                cases hb : full q with
                | nil => rw [hb] at hfne; simp at hfne
                | cons c r => rw [hb] at hh; simp at hh; simp [hh]
              obtain ⟨w2, s2, s3, ld, a2, st2, fin⟩ := line w sb _ lo hg' ho' (by omega) (by omega) (by omega) (by
                rw [← hst2 _ rfl]; simp only [dotLine, hh, if_false, List.nil_append])
              simp (maxSteps := 1000000) (disch := omega) only [r4, iaddr_by hv, hfne', hg0, ld, a2, st2, W_seq, W_region, W_cond, W_block, W_skip, W_label, W_exit, W_goto, W_ret, WO_cons, WO_consG, WO_nil, wantedA_eq, wantB, evOp, ev_tmp, ev_const, ev_fn, WN_some, WN_none, updO_some, updO_none, upd_eq,
 ↓reduceIte, Nat.reduceEqDiff, List.nil_append, List.cons_append, List.append_nil, List.map_cons, List.map_nil, env0_zero, env0_succ, env0_nil, Option.map_some, Option.map_none, seqQ_normal, seqQ_ret, seqQ_exit, seqQ_goto, blockQ_normal, blockQ_ret, blockQ_exit, blockQ_goto, condW_bool, loopQ_ret, loopQ_exit, loopQ_goto, endQ_ret, endQ_normal,
 lss_i, leq_i, gtr_i, geq_i, eql_i, neq_i, eql_8, neq_8, lss_8, leq_8, gtr_8, geq_8, eql_s, neq_s, eql_b, neq_b, not_b, by_bys, by_nils, load_cp1, beq_true, beq_false, Bool.not_eq_true', decide_eq_true_eq, decide_eq_false_iff_not, decide_true, decide_false,
 Int.toNat_natCast, Int.ofNat_lt, Int.ofNat_le, Int.natCast_inj, Bool.false_eq_true, Bool.true_eq_false, extPV, List.getElem?_cons_zero, List.getElem?_cons_succ, nilckPV, Int.reduceToNat, Int.reduceLE, true_and, and_true, reduceCtorEq, or_false, false_or, or_true, Option.some.injEq, exists_eq_left', Bool.not_true, Bool.not_false, ne_eq, Int.reduceEq, not_true_eq_false, not_false_eq_true, Int.reduceLT, UInt8.reduceLT, UInt8.reduceLE, UInt8.reduceToNat]
              exact fin _
        obtain ⟨b, s', c1, rfl, c2⟩ := hmain
        exact ⟨s', c1, c2⟩)
      (by rw [hP]; exact ⟨.nils, [], st.boxes.length + 3, ⟨rfl, rfl, by simp, by simp⟩, .inl ⟨rfl, rfl⟩, rfl, by omega, by omega, .inl rfl⟩)
    rw [hP] at hs1
    obtain ⟨w, d, lo, hg, ho, hd, hlo1, hlo2, hlo3⟩ := hs1
    rw [List.append_nil] at hd
    subst hd
    have hlv : ∃ s2, leave ⟨st.boxes ++ [[.int .i64 (rightOf l).1, .int .i64 0], [.nils], [x]], st.toks, st.loops ++ [rec], st.boxes.length⟩ s1 (.tup []) = (.tup [], s2) ∧
        GrewAt (st.boxes ++ [[.int .i64 (rightOf l).1, .int .i64 0], [w], [x]]) st.toks (st.loops ++ [rec]) st.boxes.length s2 ∧ OwnB st s2 w (stuffLines (refLines l)) := by
      obtain ⟨bs, ts, ls, lo0⟩ := s1
      obtain ⟨q1, q2, q3, q4⟩ := hg
      simp only at q1 q2 q3 q4
      subst q1 q2 q3
      have htake : List.take (st.boxes.length + 3) (st.boxes ++ [[PV.int .i64 (rightOf l).1, .int .i64 0], [w], [x]]) = st.boxes ++ [[PV.int .i64 (rightOf l).1, .int .i64 0], [w], [x]] := List.take_of_length_le (by simp)
      by_cases hc : st.boxes.length + 3 ≤ lo0
      · have hw : w = .nils := by rcases hlo3 with h | h; exact h; omega
        subst hw
        refine ⟨_, by simp [leave, PV.inB, PV.inB.inBAll, hc, keepRes, keepVals, htake, q4], .start (ts := []), ?_⟩
        rcases ho with ⟨_, h⟩ | ⟨i, h, _⟩
        · exact .inl ⟨rfl, h⟩
        · cases h
      · refine ⟨⟨st.boxes ++ [[PV.int .i64 (rightOf l).1, .int .i64 0], [w], [x]], ts, st.loops ++ [rec], st.boxes.length⟩, ?_, ⟨rfl, rfl, rfl, q4⟩, ho⟩
        simp [leave, PV.inB, PV.inB.inBAll, hc, htake]; try omega
    obtain ⟨s2, hlv, hg2, ho2⟩ := hlv
    rw [hlv] at hcall
    have r1 : rec.pend = .normal := by rw [← hrec]; rfl
    refine ⟨_, s2, rec, hcall, by rw [hg2.lp]; exact get_app0, by rw [r0]; simp, ?_⟩
    have hlt : List.take st.loops.length s2.loops = st.loops := by rw [hg2.lp]; simp
    rw [r1]
    dsimp only
    rw [hlt]
    have hg3 := hg2.loops (L' := st.loops)
    have ho3 := ho2.loops (L' := st.loops)
    generalize ({ s2 with loops := st.loops } : St) = s3 at hg3 ho3
    have hld3 := load_own hg3
    have happ := app8_ownS (y := .str [46, 13, 10]) ho3 rfl (by simp) (by simp only [room]; simp; try omega)
    obtain ⟨g4, o4⟩ := OwnB.app (m := stuffLines (refLines l) ++ [46, 13, 10]) hg3 ho3
    simp (maxSteps := 1000000) (disch := omega) only [hld3, happ, W_seq, W_region, W_cond, W_block, W_skip, W_label, W_exit, W_goto, W_ret, WO_cons, WO_consG, WO_nil, wantedA_eq, wantB, evOp, ev_tmp, ev_const, ev_fn, WN_some, WN_none, updO_some, updO_none, upd_eq,
 ↓reduceIte, Nat.reduceEqDiff, List.nil_append, List.cons_append, List.append_nil, List.map_cons, List.map_nil, env0_zero, env0_succ, env0_nil, Option.map_some, Option.map_none, seqQ_normal, seqQ_ret, seqQ_exit, seqQ_goto, blockQ_normal, blockQ_ret, blockQ_exit, blockQ_goto, condW_bool, loopQ_ret, loopQ_exit, loopQ_goto, endQ_ret, endQ_normal,
 lss_i, leq_i, gtr_i, geq_i, eql_i, neq_i, eql_8, neq_8, lss_8, leq_8, gtr_8, geq_8, eql_s, neq_s, eql_b, neq_b, not_b, by_bys, by_nils, load_cp1, beq_true, beq_false, Bool.not_eq_true', decide_eq_true_eq, decide_eq_false_iff_not, decide_true, decide_false,
 Int.toNat_natCast, Int.ofNat_lt, Int.ofNat_le, Int.natCast_inj, Bool.false_eq_true, Bool.true_eq_false, extPV, List.getElem?_cons_zero, List.getElem?_cons_succ, nilckPV, Int.reduceToNat, Int.reduceLE, true_and, and_true, reduceCtorEq, or_false, false_or, or_true, Option.some.injEq, exists_eq_left', Bool.not_true, Bool.not_false, ne_eq, Int.reduceEq, not_true_eq_false, not_false_eq_true, Int.reduceLT, UInt8.reduceLT, UInt8.reduceLE, UInt8.reduceToNat]
    refine ⟨.tup [.bys (.own s3.toks.length) (stuffLines (refLines l) ++ [46, 13, 10]), .int .i64 0], ?_, leave_ownB2 g4 o4 (by simp [stuffOf])⟩
    simp [resOf, rvAll, rv1, upd_eq, notTup, packRes]
  · rw [if_pos (by simpa using hr)]
    refine call_of_W prog_3 ?_
    unfold F_dots_Stuff; dsimp only
    have hst : ∀ a b ts ls lo, storePV ⟨st.boxes ++ [[.int .i64 0, .int .i64 0]], ts, ls, lo⟩ 2 (.ptr st.boxes.length 0) (fV (a, b)) =
        some ⟨st.boxes ++ [[.int .i64 a, .int .i64 b]], ts, ls, lo⟩ := fun a b ts ls lo => by
      simp [storePV, fV, PV.cells, PV.inB, PV.inB.inBAll, setCells, hasTok, tokOf, leafOk]
    have hld : ∀ a b ts ls lo, loadPV ⟨st.boxes ++ [[.int .i64 a, .int .i64 b]], ts, ls, lo⟩ false 1 (.ptr st.boxes.length 1) = some (.int .i64 b) := fun a b ts ls lo => by
      simp [loadPV, readCells]
    have hrf : fV (rightOf l) = fV ((rightOf l).1, (rightOf l).2) := rfl
    have hdr : ∀ bs lo, call prog (.fn 5 []) [x] ⟨bs, st.toks, st.loops, lo⟩ = some (fV (rightOf l), ⟨bs, st.toks, st.loops, lo⟩) := fun bs lo => dRight_spec hx hl hxt
    simp (maxSteps := 1000000) (disch := omega) only [allocPV, hdr, hrf, hst, hld, faddrPV, Nat.zero_add, hr, W_seq, W_region, W_cond, W_block, W_skip, W_label, W_exit, W_goto, W_ret, WO_cons, WO_consG, WO_nil, wantedA_eq, wantB, evOp, ev_tmp, ev_const, ev_fn, WN_some, WN_none, updO_some, updO_none, upd_eq,
 ↓reduceIte, Nat.reduceEqDiff, List.nil_append, List.cons_append, List.append_nil, List.map_cons, List.map_nil, env0_zero, env0_succ, env0_nil, Option.map_some, Option.map_none, seqQ_normal, seqQ_ret, seqQ_exit, seqQ_goto, blockQ_normal, blockQ_ret, blockQ_exit, blockQ_goto, condW_bool, loopQ_ret, loopQ_exit, loopQ_goto, endQ_ret, endQ_normal,
 lss_i, leq_i, gtr_i, geq_i, eql_i, neq_i, eql_8, neq_8, lss_8, leq_8, gtr_8, geq_8, eql_s, neq_s, eql_b, neq_b, not_b, by_bys, by_nils, load_cp1, beq_true, beq_false, Bool.not_eq_true', decide_eq_true_eq, decide_eq_false_iff_not, decide_true, decide_false,
 Int.toNat_natCast, Int.ofNat_lt, Int.ofNat_le, Int.natCast_inj, Bool.false_eq_true, Bool.true_eq_false, extPV, List.getElem?_cons_zero, List.getElem?_cons_succ, nilckPV, Int.reduceToNat, Int.reduceLE, true_and, and_true, reduceCtorEq, or_false, false_or, or_true, Option.some.injEq, exists_eq_left', Bool.not_true, Bool.not_false, ne_eq, Int.reduceEq, not_true_eq_false, not_false_eq_true, Int.reduceLT, UInt8.reduceLT, UInt8.reduceLE, UInt8.reduceToNat]
    refine ⟨.tup [.nils, .int .i64 (rightOf l).2], ?_, leave_gone0 rfl rfl⟩
    simp [resOf, rvAll, rv1, upd_eq, notTup, packRes]
end Go.Ab

/-
  The reader: made; what was wrong with a frame.
-/
namespace Go.Ab
set_option linter.unusedVariables false
set_option linter.unusedSimpArgs false
variable {st : St} {e : Env}

/-- A reader's cells: most, line, text, bare, long, full, ended. -/
def rdV (most : Int) (line text : PV) (bare long fl ended : Bool) : List PV := [.int .i64 most, line, text, .bool bare, .bool long, .bool fl, .bool ended]

theorem New_spec {m : Int} : call prog (.fn 15 []) [.int .i64 m] st = some (.ptr st.boxes.length 0, { boxes := st.boxes ++ [rdV (max m 0) .nils .nils false false false false], toks := st.toks, loops := st.loops, low := min st.low st.boxes.length }) := by
  refine call_of_W prog_15 ?_
  unfold F_dots_New; dsimp only
  have hb : buildCells [.int .i64 0, .nils, .nils, .bool false, .bool false, .bool false, .bool false] [(0, 1, .int .i64 (max m 0))] = some (rdV (max m 0) .nils .nils false false false false) := by
    simp [buildCells, PV.cells, leafOk, setCells, rdV]
  have hi : (PV.agg (rdV (max m 0) .nils .nils false false false false)).inB st.boxes.length = true := by simp [rdV, PV.inB, PV.inB.inBAll]
  have hl : (PV.agg (rdV (max m 0) .nils .nils false false false false)).cells.all leafOk = true := by simp [rdV, PV.cells, leafOk]
  simp (maxSteps := 1000000) (disch := omega) only [mnmxPV, hb, hi, hl, and_self, allocPV, W_seq, W_region, W_cond, W_block, W_skip, W_label, W_exit, W_goto, W_ret, WO_cons, WO_consG, WO_nil, wantedA_eq, wantB, evOp, ev_tmp, ev_const, ev_fn, WN_some, WN_none, updO_some, updO_none, upd_eq,
 ↓reduceIte, Nat.reduceEqDiff, List.nil_append, List.cons_append, List.append_nil, List.map_cons, List.map_nil, env0_zero, env0_succ, env0_nil, Option.map_some, Option.map_none, seqQ_normal, seqQ_ret, seqQ_exit, seqQ_goto, blockQ_normal, blockQ_ret, blockQ_exit, blockQ_goto, condW_bool, loopQ_ret, loopQ_exit, loopQ_goto, endQ_ret, endQ_normal,
 lss_i, leq_i, gtr_i, geq_i, eql_i, neq_i, eql_8, neq_8, lss_8, leq_8, gtr_8, geq_8, eql_s, neq_s, eql_b, neq_b, not_b, by_bys, by_nils, load_cp1, beq_true, beq_false, Bool.not_eq_true', decide_eq_true_eq, decide_eq_false_iff_not, decide_true, decide_false,
 Int.toNat_natCast, Int.ofNat_lt, Int.ofNat_le, Int.natCast_inj, Bool.false_eq_true, Bool.true_eq_false, extPV, List.getElem?_cons_zero, List.getElem?_cons_succ, nilckPV, Int.reduceToNat, Int.reduceLE, true_and, and_true, reduceCtorEq, or_false, false_or, or_true, Option.some.injEq, exists_eq_left', Bool.not_true, Bool.not_false, ne_eq, Int.reduceEq, not_true_eq_false, not_false_eq_true, Int.reduceLT, UInt8.reduceLT, UInt8.reduceLE, UInt8.reduceToNat]
  exact ⟨.ptr st.boxes.length 0, rfl, by simp [leave, PV.inB, PV.cells]⟩

/-- Which error comes first. -/
def faultC (bare long fl : Bool) : Int := if bare then 41 else if long then 40 else if fl then 2 else 0

theorem fault_spec {b : Nat} {most : Int} {line text : PV} {bare long fl ended : Bool} (h : st.boxes[b]? = some (rdV most line text bare long fl ended)) :
    call prog (.fn 23 []) [.ptr b 0] st = some (.int .i64 (faultC bare long fl), st) := by
  refine call_of_W prog_23 ?_
  unfold F_P_dots_Reader_fault; dsimp only
  have l3 : loadPV { boxes := st.boxes, toks := st.toks, loops := st.loops, low := st.boxes.length } false 1 (.ptr b 3) = some (.bool bare) := by simp [loadPV, h, rdV, readCells]
  have l4 : loadPV { boxes := st.boxes, toks := st.toks, loops := st.loops, low := st.boxes.length } false 1 (.ptr b 4) = some (.bool long) := by simp [loadPV, h, rdV, readCells]
  have l5 : loadPV { boxes := st.boxes, toks := st.toks, loops := st.loops, low := st.boxes.length } false 1 (.ptr b 5) = some (.bool fl) := by simp [loadPV, h, rdV, readCells]
  cases bare with
  | true =>
    simp (maxSteps := 1000000) (disch := omega) only [faddrPV, Nat.zero_add, l3, W_seq, W_region, W_cond, W_block, W_skip, W_label, W_exit, W_goto, W_ret, WO_cons, WO_consG, WO_nil, wantedA_eq, wantB, evOp, ev_tmp, ev_const, ev_fn, WN_some, WN_none, updO_some, updO_none, upd_eq,
 ↓reduceIte, Nat.reduceEqDiff, List.nil_append, List.cons_append, List.append_nil, List.map_cons, List.map_nil, env0_zero, env0_succ, env0_nil, Option.map_some, Option.map_none, seqQ_normal, seqQ_ret, seqQ_exit, seqQ_goto, blockQ_normal, blockQ_ret, blockQ_exit, blockQ_goto, condW_bool, loopQ_ret, loopQ_exit, loopQ_goto, endQ_ret, endQ_normal,
 lss_i, leq_i, gtr_i, geq_i, eql_i, neq_i, eql_8, neq_8, lss_8, leq_8, gtr_8, geq_8, eql_s, neq_s, eql_b, neq_b, not_b, by_bys, by_nils, load_cp1, beq_true, beq_false, Bool.not_eq_true', decide_eq_true_eq, decide_eq_false_iff_not, decide_true, decide_false,
 Int.toNat_natCast, Int.ofNat_lt, Int.ofNat_le, Int.natCast_inj, Bool.false_eq_true, Bool.true_eq_false, extPV, List.getElem?_cons_zero, List.getElem?_cons_succ, nilckPV, Int.reduceToNat, Int.reduceLE, true_and, and_true, reduceCtorEq, or_false, false_or, or_true, Option.some.injEq, exists_eq_left', Bool.not_true, Bool.not_false, ne_eq, Int.reduceEq, not_true_eq_false, not_false_eq_true, Int.reduceLT, UInt8.reduceLT, UInt8.reduceLE, UInt8.reduceToNat]
    exact end1 rfl Kp_int
  | false =>
    cases long with
    | true =>
      simp (maxSteps := 1000000) (disch := omega) only [faddrPV, Nat.zero_add, l3, l4, W_seq, W_region, W_cond, W_block, W_skip, W_label, W_exit, W_goto, W_ret, WO_cons, WO_consG, WO_nil, wantedA_eq, wantB, evOp, ev_tmp, ev_const, ev_fn, WN_some, WN_none, updO_some, updO_none, upd_eq,
 ↓reduceIte, Nat.reduceEqDiff, List.nil_append, List.cons_append, List.append_nil, List.map_cons, List.map_nil, env0_zero, env0_succ, env0_nil, Option.map_some, Option.map_none, seqQ_normal, seqQ_ret, seqQ_exit, seqQ_goto, blockQ_normal, blockQ_ret, blockQ_exit, blockQ_goto, condW_bool, loopQ_ret, loopQ_exit, loopQ_goto, endQ_ret, endQ_normal,
 lss_i, leq_i, gtr_i, geq_i, eql_i, neq_i, eql_8, neq_8, lss_8, leq_8, gtr_8, geq_8, eql_s, neq_s, eql_b, neq_b, not_b, by_bys, by_nils, load_cp1, beq_true, beq_false, Bool.not_eq_true', decide_eq_true_eq, decide_eq_false_iff_not, decide_true, decide_false,
 Int.toNat_natCast, Int.ofNat_lt, Int.ofNat_le, Int.natCast_inj, Bool.false_eq_true, Bool.true_eq_false, extPV, List.getElem?_cons_zero, List.getElem?_cons_succ, nilckPV, Int.reduceToNat, Int.reduceLE, true_and, and_true, reduceCtorEq, or_false, false_or, or_true, Option.some.injEq, exists_eq_left', Bool.not_true, Bool.not_false, ne_eq, Int.reduceEq, not_true_eq_false, not_false_eq_true, Int.reduceLT, UInt8.reduceLT, UInt8.reduceLE, UInt8.reduceToNat]
      exact end1 rfl Kp_int
    | false =>
      cases fl with
      | true =>
        simp (maxSteps := 1000000) (disch := omega) only [faddrPV, Nat.zero_add, l3, l4, l5, W_seq, W_region, W_cond, W_block, W_skip, W_label, W_exit, W_goto, W_ret, WO_cons, WO_consG, WO_nil, wantedA_eq, wantB, evOp, ev_tmp, ev_const, ev_fn, WN_some, WN_none, updO_some, updO_none, upd_eq,
 ↓reduceIte, Nat.reduceEqDiff, List.nil_append, List.cons_append, List.append_nil, List.map_cons, List.map_nil, env0_zero, env0_succ, env0_nil, Option.map_some, Option.map_none, seqQ_normal, seqQ_ret, seqQ_exit, seqQ_goto, blockQ_normal, blockQ_ret, blockQ_exit, blockQ_goto, condW_bool, loopQ_ret, loopQ_exit, loopQ_goto, endQ_ret, endQ_normal,
 lss_i, leq_i, gtr_i, geq_i, eql_i, neq_i, eql_8, neq_8, lss_8, leq_8, gtr_8, geq_8, eql_s, neq_s, eql_b, neq_b, not_b, by_bys, by_nils, load_cp1, beq_true, beq_false, Bool.not_eq_true', decide_eq_true_eq, decide_eq_false_iff_not, decide_true, decide_false,
 Int.toNat_natCast, Int.ofNat_lt, Int.ofNat_le, Int.natCast_inj, Bool.false_eq_true, Bool.true_eq_false, extPV, List.getElem?_cons_zero, List.getElem?_cons_succ, nilckPV, Int.reduceToNat, Int.reduceLE, true_and, and_true, reduceCtorEq, or_false, false_or, or_true, Option.some.injEq, exists_eq_left', Bool.not_true, Bool.not_false, ne_eq, Int.reduceEq, not_true_eq_false, not_false_eq_true, Int.reduceLT, UInt8.reduceLT, UInt8.reduceLE, UInt8.reduceToNat]
        exact end1 rfl Kp_int
      | false =>
        simp (maxSteps := 1000000) (disch := omega) only [faddrPV, Nat.zero_add, l3, l4, l5, W_seq, W_region, W_cond, W_block, W_skip, W_label, W_exit, W_goto, W_ret, WO_cons, WO_consG, WO_nil, wantedA_eq, wantB, evOp, ev_tmp, ev_const, ev_fn, WN_some, WN_none, updO_some, updO_none, upd_eq,
 ↓reduceIte, Nat.reduceEqDiff, List.nil_append, List.cons_append, List.append_nil, List.map_cons, List.map_nil, env0_zero, env0_succ, env0_nil, Option.map_some, Option.map_none, seqQ_normal, seqQ_ret, seqQ_exit, seqQ_goto, blockQ_normal, blockQ_ret, blockQ_exit, blockQ_goto, condW_bool, loopQ_ret, loopQ_exit, loopQ_goto, endQ_ret, endQ_normal,
 lss_i, leq_i, gtr_i, geq_i, eql_i, neq_i, eql_8, neq_8, lss_8, leq_8, gtr_8, geq_8, eql_s, neq_s, eql_b, neq_b, not_b, by_bys, by_nils, load_cp1, beq_true, beq_false, Bool.not_eq_true', decide_eq_true_eq, decide_eq_false_iff_not, decide_true, decide_false,
 Int.toNat_natCast, Int.ofNat_lt, Int.ofNat_le, Int.natCast_inj, Bool.false_eq_true, Bool.true_eq_false, extPV, List.getElem?_cons_zero, List.getElem?_cons_succ, nilckPV, Int.reduceToNat, Int.reduceLE, true_and, and_true, reduceCtorEq, or_false, false_or, or_true, Option.some.injEq, exists_eq_left', Bool.not_true, Bool.not_false, ne_eq, Int.reduceEq, not_true_eq_false, not_false_eq_true, Int.reduceLT, UInt8.reduceLT, UInt8.reduceLE, UInt8.reduceToNat]
        exact end1 rfl Kp_int
end Go.Ab

/-
  A slice's clone.
-/
namespace Go.Ab
set_option linter.unusedVariables false
set_option linter.unusedSimpArgs false
variable {st : St} {e : Env}

theorem Clone_bys {t : Tok} {l : List UInt8} (hl : l.length ≤ room) : call prog (.fn 26 []) [.bys t l] st = some (.bys (.own st.toks.length) l, st.tok1) := by
  refine call_of_W prog_26 ?_
  unfold F_slices_Clone_s_byte_byte; dsimp only
  have hlit : lit8Fill (List.replicate 0 0) [] = some [] := rfl
  have hg : Grew st { boxes := st.boxes, toks := st.toks, loops := st.loops, low := st.boxes.length } := Grew.start
  have hn : binPV .eql .slice (.bys t l) .nils = some (.bool false) := rfl
  by_cases h : l = []
  · subst h
    have ha : app8 (St.tok1 { boxes := st.boxes, toks := st.toks, loops := st.loops, low := st.boxes.length }) (.bys (.own st.toks.length) []) (.bys t []) = some (.bys (.own st.toks.length) [], St.tok1 { boxes := st.boxes, toks := st.toks, loops := st.loops, low := st.boxes.length }) := app8_nil by_bys by_bys
    simp (maxSteps := 1000000) (disch := omega) only [hn, hlit, freshT_eq, ha, W_seq, W_region, W_cond, W_block, W_skip, W_label, W_exit, W_goto, W_ret, WO_cons, WO_consG, WO_nil, wantedA_eq, wantB, evOp, ev_tmp, ev_const, ev_fn, WN_some, WN_none, updO_some, updO_none, upd_eq,
 ↓reduceIte, Nat.reduceEqDiff, List.nil_append, List.cons_append, List.append_nil, List.map_cons, List.map_nil, env0_zero, env0_succ, env0_nil, Option.map_some, Option.map_none, seqQ_normal, seqQ_ret, seqQ_exit, seqQ_goto, blockQ_normal, blockQ_ret, blockQ_exit, blockQ_goto, condW_bool, loopQ_ret, loopQ_exit, loopQ_goto, endQ_ret, endQ_normal,
 lss_i, leq_i, gtr_i, geq_i, eql_i, neq_i, eql_8, neq_8, lss_8, leq_8, gtr_8, geq_8, eql_s, neq_s, eql_b, neq_b, not_b, by_bys, by_nils, load_cp1, beq_true, beq_false, Bool.not_eq_true', decide_eq_true_eq, decide_eq_false_iff_not, decide_true, decide_false,
 Int.toNat_natCast, Int.ofNat_lt, Int.ofNat_le, Int.natCast_inj, Bool.false_eq_true, Bool.true_eq_false, extPV, List.getElem?_cons_zero, List.getElem?_cons_succ, nilckPV, Int.reduceToNat, Int.reduceLE, true_and, and_true, reduceCtorEq, or_false, false_or, or_true, Option.some.injEq, exists_eq_left', Bool.not_true, Bool.not_false, ne_eq, Int.reduceEq, not_true_eq_false, not_false_eq_true, Int.reduceLT, UInt8.reduceLT, UInt8.reduceLE, UInt8.reduceToNat]
    exact ⟨.bys (.own st.toks.length) [], rfl, by simp [leave, PV.inB, keepRes, keepVal, keepLeaf, keepTok, St.tok1]⟩
  · have ho : OwnB st (St.tok1 { boxes := st.boxes, toks := st.toks, loops := st.loops, low := st.boxes.length }) (.bys (.own st.toks.length) []) [] := .inr ⟨_, rfl, Nat.le_refl _, by simp [St.tok1]⟩
    have ha := app8_own (y := .bys t l) ho by_bys h (by simpa using hl)
    obtain ⟨g2, o2⟩ := OwnB.app (m := [] ++ l) hg.tok1 ho
    simp (maxSteps := 1000000) (disch := omega) only [hn, hlit, freshT_eq, ha, W_seq, W_region, W_cond, W_block, W_skip, W_label, W_exit, W_goto, W_ret, WO_cons, WO_consG, WO_nil, wantedA_eq, wantB, evOp, ev_tmp, ev_const, ev_fn, WN_some, WN_none, updO_some, updO_none, upd_eq,
 ↓reduceIte, Nat.reduceEqDiff, List.nil_append, List.cons_append, List.append_nil, List.map_cons, List.map_nil, env0_zero, env0_succ, env0_nil, Option.map_some, Option.map_none, seqQ_normal, seqQ_ret, seqQ_exit, seqQ_goto, blockQ_normal, blockQ_ret, blockQ_exit, blockQ_goto, condW_bool, loopQ_ret, loopQ_exit, loopQ_goto, endQ_ret, endQ_normal,
 lss_i, leq_i, gtr_i, geq_i, eql_i, neq_i, eql_8, neq_8, lss_8, leq_8, gtr_8, geq_8, eql_s, neq_s, eql_b, neq_b, not_b, by_bys, by_nils, load_cp1, beq_true, beq_false, Bool.not_eq_true', decide_eq_true_eq, decide_eq_false_iff_not, decide_true, decide_false,
 Int.toNat_natCast, Int.ofNat_lt, Int.ofNat_le, Int.natCast_inj, Bool.false_eq_true, Bool.true_eq_false, extPV, List.getElem?_cons_zero, List.getElem?_cons_succ, nilckPV, Int.reduceToNat, Int.reduceLE, true_and, and_true, reduceCtorEq, or_false, false_or, or_true, Option.some.injEq, exists_eq_left', Bool.not_true, Bool.not_false, ne_eq, Int.reduceEq, not_true_eq_false, not_false_eq_true, Int.reduceLT, UInt8.reduceLT, UInt8.reduceLE, UInt8.reduceToNat]
    refine ⟨_, rfl, ?_⟩
    have := leave_ownB g2 o2 (fun hh => absurd hh (by simpa using h))
    simp only [List.nil_append] at this
    simp [upd_eq, packRes] 
    rw [this]
    simp [newB, newS, h]
theorem Clone_nils : call prog (.fn 26 []) [.nils] st = some (.nils, st) := by
  refine call_of_W prog_26 ?_
  unfold F_slices_Clone_s_byte_byte; dsimp only
  have hn : binPV .eql .slice .nils .nils = some (.bool true) := rfl
  simp (maxSteps := 1000000) (disch := omega) only [hn, W_seq, W_region, W_cond, W_block, W_skip, W_label, W_exit, W_goto, W_ret, WO_cons, WO_consG, WO_nil, wantedA_eq, wantB, evOp, ev_tmp, ev_const, ev_fn, WN_some, WN_none, updO_some, updO_none, upd_eq,
 ↓reduceIte, Nat.reduceEqDiff, List.nil_append, List.cons_append, List.append_nil, List.map_cons, List.map_nil, env0_zero, env0_succ, env0_nil, Option.map_some, Option.map_none, seqQ_normal, seqQ_ret, seqQ_exit, seqQ_goto, blockQ_normal, blockQ_ret, blockQ_exit, blockQ_goto, condW_bool, loopQ_ret, loopQ_exit, loopQ_goto, endQ_ret, endQ_normal,
 lss_i, leq_i, gtr_i, geq_i, eql_i, neq_i, eql_8, neq_8, lss_8, leq_8, gtr_8, geq_8, eql_s, neq_s, eql_b, neq_b, not_b, by_bys, by_nils, load_cp1, beq_true, beq_false, Bool.not_eq_true', decide_eq_true_eq, decide_eq_false_iff_not, decide_true, decide_false,
 Int.toNat_natCast, Int.ofNat_lt, Int.ofNat_le, Int.natCast_inj, Bool.false_eq_true, Bool.true_eq_false, extPV, List.getElem?_cons_zero, List.getElem?_cons_succ, nilckPV, Int.reduceToNat, Int.reduceLE, true_and, and_true, reduceCtorEq, or_false, false_or, or_true, Option.some.injEq, exists_eq_left', Bool.not_true, Bool.not_false, ne_eq, Int.reduceEq, not_true_eq_false, not_false_eq_true, Int.reduceLT, UInt8.reduceLT, UInt8.reduceLE, UInt8.reduceToNat]
  exact end1 rfl Kp_nils
end Go.Ab

/-
  The reader's text.
-/
namespace Go.Ab
set_option linter.unusedVariables false
set_option linter.unusedSimpArgs false
variable {st : St} {e : Env}

/-- A clone: nil of nil. -/
def cloneV (st : St) (x : PV) (l : List UInt8) : PV := match x with
  | .nils => .nils
  | _ => .bys (.own st.toks.length) l
def cloneS (st : St) (x : PV) : St := match x with
  | .nils => st
  | _ => st.tok1

theorem Text_nil : call prog (.fn 12 []) [.nilp] st = some (.nils, st) := by
  refine call_of_W prog_12 ?_
  unfold F_P_dots_Reader_Text; dsimp only
  have hn : binPV .eql .ptr .nilp .nilp = some (.bool true) := rfl
  simp (maxSteps := 1000000) (disch := omega) only [hn, W_seq, W_region, W_cond, W_block, W_skip, W_label, W_exit, W_goto, W_ret, WO_cons, WO_consG, WO_nil, wantedA_eq, wantB, evOp, ev_tmp, ev_const, ev_fn, WN_some, WN_none, updO_some, updO_none, upd_eq,
 ↓reduceIte, Nat.reduceEqDiff, List.nil_append, List.cons_append, List.append_nil, List.map_cons, List.map_nil, env0_zero, env0_succ, env0_nil, Option.map_some, Option.map_none, seqQ_normal, seqQ_ret, seqQ_exit, seqQ_goto, blockQ_normal, blockQ_ret, blockQ_exit, blockQ_goto, condW_bool, loopQ_ret, loopQ_exit, loopQ_goto, endQ_ret, endQ_normal,
 lss_i, leq_i, gtr_i, geq_i, eql_i, neq_i, eql_8, neq_8, lss_8, leq_8, gtr_8, geq_8, eql_s, neq_s, eql_b, neq_b, not_b, by_bys, by_nils, load_cp1, beq_true, beq_false, Bool.not_eq_true', decide_eq_true_eq, decide_eq_false_iff_not, decide_true, decide_false,
 Int.toNat_natCast, Int.ofNat_lt, Int.ofNat_le, Int.natCast_inj, Bool.false_eq_true, Bool.true_eq_false, extPV, List.getElem?_cons_zero, List.getElem?_cons_succ, nilckPV, Int.reduceToNat, Int.reduceLE, true_and, and_true, reduceCtorEq, or_false, false_or, or_true, Option.some.injEq, exists_eq_left', Bool.not_true, Bool.not_false, ne_eq, Int.reduceEq, not_true_eq_false, not_false_eq_true, Int.reduceLT, UInt8.reduceLT, UInt8.reduceLE, UInt8.reduceToNat]
  exact end1 rfl Kp_nils

theorem Text_spec {b : Nat} {most : Int} {line text : PV} {l : List UInt8} {bare long fl ended : Bool} (h : st.boxes[b]? = some (rdV most line text bare long fl ended)) (ht : text.by = some l) (hl : l.length ≤ room) :
    call prog (.fn 12 []) [.ptr b 0] st = some (if faultC bare long fl ≠ 0 then (.nils, st) else (cloneV st text l, cloneS st text)) := by
  have hn : binPV .eql .ptr (.ptr b 0) .nilp = some (.bool false) := rfl
  have hf : call prog (.fn 23 []) [.ptr b 0] { boxes := st.boxes, toks := st.toks, loops := st.loops, low := st.boxes.length } = some (.int .i64 (faultC bare long fl), { boxes := st.boxes, toks := st.toks, loops := st.loops, low := st.boxes.length }) := fault_spec h
  have l2 : loadPV { boxes := st.boxes, toks := st.toks, loops := st.loops, low := st.boxes.length } false 1 (.ptr b 2) = some text := by simp [loadPV, h, rdV, readCells]
  by_cases hc : faultC bare long fl = 0
  · rw [if_neg (by simpa using hc)]
    refine call_of_W prog_12 ?_
    unfold F_P_dots_Reader_Text; dsimp only
    rcases by_cases' ht with ⟨rfl, rfl⟩ | ⟨t, rfl⟩
    · simp (maxSteps := 1000000) (disch := omega) only [hn, hf, hc, faddrPV, Nat.zero_add, l2, Clone_nils, W_seq, W_region, W_cond, W_block, W_skip, W_label, W_exit, W_goto, W_ret, WO_cons, WO_consG, WO_nil, wantedA_eq, wantB, evOp, ev_tmp, ev_const, ev_fn, WN_some, WN_none, updO_some, updO_none, upd_eq,
 ↓reduceIte, Nat.reduceEqDiff, List.nil_append, List.cons_append, List.append_nil, List.map_cons, List.map_nil, env0_zero, env0_succ, env0_nil, Option.map_some, Option.map_none, seqQ_normal, seqQ_ret, seqQ_exit, seqQ_goto, blockQ_normal, blockQ_ret, blockQ_exit, blockQ_goto, condW_bool, loopQ_ret, loopQ_exit, loopQ_goto, endQ_ret, endQ_normal,
 lss_i, leq_i, gtr_i, geq_i, eql_i, neq_i, eql_8, neq_8, lss_8, leq_8, gtr_8, geq_8, eql_s, neq_s, eql_b, neq_b, not_b, by_bys, by_nils, load_cp1, beq_true, beq_false, Bool.not_eq_true', decide_eq_true_eq, decide_eq_false_iff_not, decide_true, decide_false,
 Int.toNat_natCast, Int.ofNat_lt, Int.ofNat_le, Int.natCast_inj, Bool.false_eq_true, Bool.true_eq_false, extPV, List.getElem?_cons_zero, List.getElem?_cons_succ, nilckPV, Int.reduceToNat, Int.reduceLE, true_and, and_true, reduceCtorEq, or_false, false_or, or_true, Option.some.injEq, exists_eq_left', Bool.not_true, Bool.not_false, ne_eq, Int.reduceEq, not_true_eq_false, not_false_eq_true, Int.reduceLT, UInt8.reduceLT, UInt8.reduceLE, UInt8.reduceToNat]
      exact end1 rfl Kp_nils
    · simp (maxSteps := 1000000) (disch := omega) only [hn, hf, hc, faddrPV, Nat.zero_add, l2, Clone_bys hl, W_seq, W_region, W_cond, W_block, W_skip, W_label, W_exit, W_goto, W_ret, WO_cons, WO_consG, WO_nil, wantedA_eq, wantB, evOp, ev_tmp, ev_const, ev_fn, WN_some, WN_none, updO_some, updO_none, upd_eq,
 ↓reduceIte, Nat.reduceEqDiff, List.nil_append, List.cons_append, List.append_nil, List.map_cons, List.map_nil, env0_zero, env0_succ, env0_nil, Option.map_some, Option.map_none, seqQ_normal, seqQ_ret, seqQ_exit, seqQ_goto, blockQ_normal, blockQ_ret, blockQ_exit, blockQ_goto, condW_bool, loopQ_ret, loopQ_exit, loopQ_goto, endQ_ret, endQ_normal,
 lss_i, leq_i, gtr_i, geq_i, eql_i, neq_i, eql_8, neq_8, lss_8, leq_8, gtr_8, geq_8, eql_s, neq_s, eql_b, neq_b, not_b, by_bys, by_nils, load_cp1, beq_true, beq_false, Bool.not_eq_true', decide_eq_true_eq, decide_eq_false_iff_not, decide_true, decide_false,
 Int.toNat_natCast, Int.ofNat_lt, Int.ofNat_le, Int.natCast_inj, Bool.false_eq_true, Bool.true_eq_false, extPV, List.getElem?_cons_zero, List.getElem?_cons_succ, nilckPV, Int.reduceToNat, Int.reduceLE, true_and, and_true, reduceCtorEq, or_false, false_or, or_true, Option.some.injEq, exists_eq_left', Bool.not_true, Bool.not_false, ne_eq, Int.reduceEq, not_true_eq_false, not_false_eq_true, Int.reduceLT, UInt8.reduceLT, UInt8.reduceLE, UInt8.reduceToNat]
      exact ⟨.bys (.own st.toks.length) l, rfl, by simp [leave, PV.inB, keepRes, keepVal, keepLeaf, keepTok, St.tok1, cloneV, cloneS]⟩
  · rw [if_pos (by simpa using hc)]
    refine call_of_W prog_12 ?_
    unfold F_P_dots_Reader_Text; dsimp only
    simp (maxSteps := 1000000) (disch := omega) only [hn, hf, hc, W_seq, W_region, W_cond, W_block, W_skip, W_label, W_exit, W_goto, W_ret, WO_cons, WO_consG, WO_nil, wantedA_eq, wantB, evOp, ev_tmp, ev_const, ev_fn, WN_some, WN_none, updO_some, updO_none, upd_eq,
 ↓reduceIte, Nat.reduceEqDiff, List.nil_append, List.cons_append, List.append_nil, List.map_cons, List.map_nil, env0_zero, env0_succ, env0_nil, Option.map_some, Option.map_none, seqQ_normal, seqQ_ret, seqQ_exit, seqQ_goto, blockQ_normal, blockQ_ret, blockQ_exit, blockQ_goto, condW_bool, loopQ_ret, loopQ_exit, loopQ_goto, endQ_ret, endQ_normal,
 lss_i, leq_i, gtr_i, geq_i, eql_i, neq_i, eql_8, neq_8, lss_8, leq_8, gtr_8, geq_8, eql_s, neq_s, eql_b, neq_b, not_b, by_bys, by_nils, load_cp1, beq_true, beq_false, Bool.not_eq_true', decide_eq_true_eq, decide_eq_false_iff_not, decide_true, decide_false,
 Int.toNat_natCast, Int.ofNat_lt, Int.ofNat_le, Int.natCast_inj, Bool.false_eq_true, Bool.true_eq_false, extPV, List.getElem?_cons_zero, List.getElem?_cons_succ, nilckPV, Int.reduceToNat, Int.reduceLE, true_and, and_true, reduceCtorEq, or_false, false_or, or_true, Option.some.injEq, exists_eq_left', Bool.not_true, Bool.not_false, ne_eq, Int.reduceEq, not_true_eq_false, not_false_eq_true, Int.reduceLT, UInt8.reduceLT, UInt8.reduceLE, UInt8.reduceToNat]
    exact end1 rfl Kp_nils
end Go.Ab

/-
  The document's order of errors.
-/
namespace Go.Ab
set_option linter.unusedVariables false
set_option linter.unusedSimpArgs false
variable {st : St} {e : Env}
theorem rfault_spec {a b c : Bool} : call prog (.fn 25 []) [.bool a, .bool b, .bool c] st = some (.int .i64 (faultC a b c), st) := by
  refine call_of_W prog_25 ?_
  unfold F_posthornref05_fault; dsimp only
  cases a <;> cases b <;> cases c <;>
  · simp (maxSteps := 1000000) (disch := omega) only [W_seq, W_region, W_cond, W_block, W_skip, W_label, W_exit, W_goto, W_ret, WO_cons, WO_consG, WO_nil, wantedA_eq, wantB, evOp, ev_tmp, ev_const, ev_fn, WN_some, WN_none, updO_some, updO_none, upd_eq,
 ↓reduceIte, Nat.reduceEqDiff, List.nil_append, List.cons_append, List.append_nil, List.map_cons, List.map_nil, env0_zero, env0_succ, env0_nil, Option.map_some, Option.map_none, seqQ_normal, seqQ_ret, seqQ_exit, seqQ_goto, blockQ_normal, blockQ_ret, blockQ_exit, blockQ_goto, condW_bool, loopQ_ret, loopQ_exit, loopQ_goto, endQ_ret, endQ_normal,
 lss_i, leq_i, gtr_i, geq_i, eql_i, neq_i, eql_8, neq_8, lss_8, leq_8, gtr_8, geq_8, eql_s, neq_s, eql_b, neq_b, not_b, by_bys, by_nils, load_cp1, beq_true, beq_false, Bool.not_eq_true', decide_eq_true_eq, decide_eq_false_iff_not, decide_true, decide_false,
 Int.toNat_natCast, Int.ofNat_lt, Int.ofNat_le, Int.natCast_inj, Bool.false_eq_true, Bool.true_eq_false, extPV, List.getElem?_cons_zero, List.getElem?_cons_succ, nilckPV, Int.reduceToNat, Int.reduceLE, true_and, and_true, reduceCtorEq, or_false, false_or, or_true, Option.some.injEq, exists_eq_left', Bool.not_true, Bool.not_false, ne_eq, Int.reduceEq, not_true_eq_false, not_false_eq_true, Int.reduceLT, UInt8.reduceLT, UInt8.reduceLE, UInt8.reduceToNat]
    exact end1 rfl Kp_int
end Go.Ab

/-
  Cuts in code; slices that live on in boxes.
-/
namespace Go.Ab
set_option linter.unusedVariables false
set_option linter.unusedSimpArgs false
variable {A : AP} {st : St} {e : Env}

/-- Code in two: what is known between. -/
theorem W_cut {a b : ACode} {Q : Ex → Env → St → Prop} (M : Env → St → Prop) (h1 : W A a e st (fun x e' s' => x = .normal ∧ M e' s')) (h2 : ∀ e' s', M e' s' → W A b e' s' Q) : W A (.seq a b) e st Q := by
  rw [W_seq]
  refine W_mono h1 ?_
  rintro x e s ⟨rfl, h⟩
  exact h2 e s h

/-- A slice whose room is its own, or none. -/
def Live (s : St) (v : PV) (l : List UInt8) : Prop := (v = .nils ∧ l = []) ∨ ∃ i, v = .bys (.own i) l ∧ s.toks[i]? = some true
theorem Live.by {s : St} {v : PV} {l : List UInt8} (h : Live s v l) : v.by = some l := by
  rcases h with ⟨rfl, rfl⟩ | ⟨i, rfl, _⟩ <;> rfl
theorem Live.lt {s : St} {v : PV} {l : List UInt8} (h : Live s v l) {i : Nat} (hi : tokOf v = some i) : i < s.toks.length ∧ s.toks[i]? = some true := by
  rcases h with ⟨rfl, rfl⟩ | ⟨j, rfl, hj⟩
  · cases hi
  · simp only [tokOf, Option.some.injEq] at hi
    subst hi
    exact ⟨(List.getElem?_eq_some_iff.1 hj).1, hj⟩
theorem Live.tokLt {s : St} {v : PV} {l : List UInt8} (h : Live s v l) : v.tokLt s.toks.length = true := by
  rcases h with ⟨rfl, rfl⟩ | ⟨j, rfl, hj⟩
  · rfl
  · simp [PV.tokLt, Tok.lt, (List.getElem?_eq_some_iff.1 hj).1]
theorem Live.move {s s' : St} {v : PV} {l : List UInt8} (h : Live s v l) (ht : ∀ i, tokOf v = some i → s'.toks[i]? = s.toks[i]?) : Live s' v l := by
  rcases h with h | ⟨j, rfl, hj⟩
  · exact .inl h
  · exact .inr ⟨j, rfl, by rw [ht j rfl]; exact hj⟩
theorem Live.tok1 {s : St} {v : PV} {l : List UInt8} (h : Live s v l) : Live s.tok1 v l := h.move fun i hi => by
  show (s.toks ++ [true])[i]? = _
  rw [List.getElem?_append_left (h.lt hi).1]

theorem app8_live {s : St} {v y : PV} {l m : List UInt8} (h : Live s v l) (hy : src8 s y = some m) (hl : l.length + m.length ≤ room) :
    ∃ v' s', app8 s v y = some (v', s') ∧ s'.boxes = s.boxes ∧ s'.loops = s.loops ∧ s'.low = s.low ∧ Live s' v' (l ++ m) ∧ s.toks.length ≤ s'.toks.length ∧
      (∀ i, i < s.toks.length → tokOf v ≠ some i → s'.toks[i]? = s.toks[i]?) ∧ (∀ i, tokOf v' = some i → (tokOf v = some i ∧ s' = s) ∨ s.toks.length ≤ i) ∧ (m ≠ [] → tokOf v' = some s.toks.length) := by
  by_cases hm : m = []
  · subst hm
    refine ⟨v, s, ?_, rfl, rfl, rfl, by simpa using h, Nat.le_refl _, fun _ _ _ => rfl, fun i hi => .inl ⟨hi, rfl⟩, fun h => absurd rfl h⟩
    rcases h with ⟨rfl, rfl⟩ | ⟨j, rfl, hj⟩ <;> simp [app8, hy]
  · rcases h with ⟨rfl, rfl⟩ | ⟨j, rfl, hj⟩
    · simp at hl
      refine ⟨.bys (.own s.toks.length) m, s.tok1, by simp [app8, hy, hm, freshT, hl, St.tok1], rfl, rfl, rfl, .inr ⟨_, rfl, by simp [St.tok1]⟩, by simp [St.tok1], fun i hi _ => ?_, fun i hi => .inr ?_, fun _ => rfl⟩
      · show (s.toks ++ [true])[i]? = _
        rw [List.getElem?_append_left hi]
      · simp only [tokOf, Option.some.injEq] at hi; omega
    · refine ⟨.bys (.own s.toks.length) (l ++ m), ⟨s.boxes, s.toks.set j false ++ [true], s.loops, s.low⟩, by simp [app8, hy, hm, freshT, appTok, hj, hl], rfl, rfl, rfl, .inr ⟨_, rfl, by simp [List.getElem?_append_right]⟩, by simp, fun i hi hne => ?_, fun i hi => .inr ?_, fun _ => rfl⟩
      · show (s.toks.set j false ++ [true])[i]? = _
        rw [List.getElem?_append_left (by simpa using hi), List.getElem?_set_ne (fun h => hne (by rw [h]; rfl))]
      · simp only [tokOf, Option.some.injEq] at hi; omega
end Go.Ab
namespace Go.Ab
variable {A : AP} {st : St} {e : Env}
/-- A temporary is set under a condition: one way goes on. -/
def joinc (_A : AP) (x : PV) (d : Nat) (v : PV) (e : Env) (st : St) (Q : Ex → Env → St → Prop) : Prop := match x with
  | .bool t => Q .normal (upd e d (if t then v else e d)) st
  | _ => False
theorem joinc_bool {t : Bool} {d : Nat} {v : PV} {Q : Ex → Env → St → Prop} : joinc A (.bool t) d v e st Q = Q .normal (upd e d (if t then v else e d)) st := rfl
theorem W_joinc {c : Opd} {d : Nat} {v : PV} {Q : Ex → Env → St → Prop} : W A (.cond c (.region [⟨some d, .mov (.const v), none⟩]) .skip) e st Q = joinc A (c.ev e) d v e st Q := by
  rw [W_cond]
  cases hc : c.ev e with
  | bool t =>
    rw [condW_bool, joinc_bool]
    cases t with
    | true =>
      rw [if_pos rfl, W_region, WO_cons]
      simp [evOp, WN_some, WO_nil, ev_const, updO]
    | false =>
      rw [if_neg (by simp), W_skip]
      have : upd e d (e d) = e := by funext t; simp [upd]; intro h; rw [h]
      simp [this]
  | _ => simp [condW, joinc]
end Go.Ab

/-
  The reader: one line is taken.
-/
namespace Go.Ab
set_option linter.unusedVariables false
set_option linter.unusedSimpArgs false
variable {st : St} {e : Env}

/-- A reader of frames. -/
structure Rd where
  most : Int
  line : List UInt8
  text : List UInt8
  bare : Bool
  long : Bool
  fl : Bool
  ended : Bool

def Rd.vals (R : Rd) (vl vt : PV) : List PV := rdV R.most vl vt R.bare R.long R.fl R.ended

/-- A line without a point in front. -/
def unDot (l : List UInt8) : List UInt8 := if [46] <+: l then l.drop 1 else l

def Rd.take (R : Rd) (l : List UInt8) : Rd :=
  let b := R.bare || decide (0 ≤ bareAt l)
  let g := (R.long || decide (999 < l.length)) || decide (998 < (unDot l).length)
  let f := R.fl || decide (R.most - R.text.length < (unDot l).length + 2)
  { R with bare := b, long := g, fl := f, text := if f then R.text else R.text ++ unDot l ++ [13, 10] }

/-- A state in which a reader in the box b is worked on; where it began, its slices were vl0 and vt0. -/
structure RdS (st s : St) (b : Nat) (vl0 vt0 : PV) (R : Rd) (vl vt : PV) : Prop where
  hb : b < st.boxes.length
  bx : s.boxes = st.boxes.set b (R.vals vl vt)
  lp : s.loops = st.loops
  ll : Live s vl R.line
  lt : Live s vt R.text
  ne : ∀ i, tokOf vl = some i → tokOf vt ≠ some i
  tl : st.toks.length ≤ s.toks.length
  tk : ∀ i, i < st.toks.length → tokOf vl0 ≠ some i → tokOf vt0 ≠ some i → s.toks[i]? = st.toks[i]?
  old : ∀ i, (tokOf vl = some i ∨ tokOf vt = some i) → i < st.toks.length → (tokOf vl0 = some i ∨ tokOf vt0 = some i)
  lw : (∀ i, (tokOf vl = some i ∨ tokOf vt = some i) → i < st.toks.length) ∨ s.low ≤ b
  lb : min st.low b ≤ s.low

variable {s : St} {b : Nat} {vl0 vt0 vl vt : PV} {R : Rd}

theorem RdS.get (h : RdS st s b vl0 vt0 R vl vt) : s.boxes[b]? = some (R.vals vl vt) := by
  rw [h.bx, List.getElem?_set_self h.hb]
theorem RdS.ld (h : RdS st s b vl0 vt0 R vl vt) (k : Nat) : loadPV s false 1 (.ptr b k) = readCells false 1 ((R.vals vl vt).drop k) := by
  simp [loadPV, h.get]
theorem RdS.ld0 (h : RdS st s b vl0 vt0 R vl vt) : loadPV s false 1 (.ptr b 0) = some (.int .i64 R.most) := by rw [h.ld]; rfl
theorem RdS.ld1 (h : RdS st s b vl0 vt0 R vl vt) : loadPV s false 1 (.ptr b 1) = some vl := by rw [h.ld]; rfl
theorem RdS.ld2 (h : RdS st s b vl0 vt0 R vl vt) : loadPV s false 1 (.ptr b 2) = some vt := by rw [h.ld]; rfl
theorem RdS.ld3 (h : RdS st s b vl0 vt0 R vl vt) : loadPV s false 1 (.ptr b 3) = some (.bool R.bare) := by rw [h.ld]; rfl
theorem RdS.ld4 (h : RdS st s b vl0 vt0 R vl vt) : loadPV s false 1 (.ptr b 4) = some (.bool R.long) := by rw [h.ld]; rfl
theorem RdS.ld5 (h : RdS st s b vl0 vt0 R vl vt) : loadPV s false 1 (.ptr b 5) = some (.bool R.fl) := by rw [h.ld]; rfl
theorem RdS.ld6 (h : RdS st s b vl0 vt0 R vl vt) : loadPV s false 1 (.ptr b 6) = some (.bool R.ended) := by rw [h.ld]; rfl

theorem RdS.tok1 (h : RdS st s b vl0 vt0 R vl vt) : RdS st s.tok1 b vl0 vt0 R vl vt :=
  ⟨h.hb, h.bx, h.lp, h.ll.tok1, h.lt.tok1, h.ne, by have := h.tl; simp [St.tok1]; omega, fun i hi h1 h2 => by
    show (s.toks ++ [true])[i]? = _
    rw [List.getElem?_append_left (by have := h.tl; omega)]; exact h.tk i hi h1 h2, h.old, h.lw, h.lb⟩

/-- Something else than a slice is put into a field. -/
theorem RdS.stB (h : RdS st s b vl0 vt0 R vl vt) {R' : Rd} {k : Nat} {x : PV} (hR : setCells (R.vals vl vt) k [x] = R'.vals vl vt) (hk : k < 7) (hx : x.cells = [x]) (hi : x.inB (b + 1) = true) (hlf : leafOk x = true) (hn : tokOf x = none) (h1 : R'.line = R.line) (h2 : R'.text = R.text) :
    ∃ s', storePV s 1 (.ptr b k) x = some s' ∧ RdS st s' b vl0 vt0 R' vl vt := by
  refine ⟨{ s with boxes := s.boxes.set b (R'.vals vl vt) }, ?_, ⟨h.hb, ?_, h.lp, ?_, ?_, h.ne, h.tl, h.tk, h.old, h.lw, h.lb⟩⟩
  · have hl : k + 1 ≤ (R.vals vl vt).length := by show k + 1 ≤ 7; omega
    simp [storePV, h.get, hx, hl, hi, hlf, hasTok, hn, hR]
  · show s.boxes.set b _ = _
    rw [h.bx, List.set_set]
  · rw [h1]; exact h.ll
  · rw [h2]; exact h.lt

/-- A slice grows and is put back. -/
theorem RdS.addLine (h : RdS st s b vl0 vt0 R vl vt) {y : PV} {m : List UInt8} (hy : src8 s y = some m) (hm : m ≠ []) (hl : R.line.length + m.length ≤ room) :
    ∃ v' s1 s2, app8 s vl y = some (v', s1) ∧ storePV s1 1 (.ptr b 1) v' = some s2 ∧ RdS st s2 b vl0 vt0 { R with line := R.line ++ m } v' vt := by
  obtain ⟨v', s1, a1, a2, a3, a4, a5, a6, a7, a8, a9⟩ := app8_live h.ll hy hl
  have a9 := a9 hm
  obtain ⟨i, rfl⟩ : ∃ l, v' = .bys (.own s.toks.length) l := by
    rcases a5 with ⟨rfl, _⟩ | ⟨i, rfl, _⟩
    · simp [tokOf] at a9
    · simp only [tokOf, Option.some.injEq] at a9; subst a9; exact ⟨_, rfl⟩
  have hg : s1.boxes[b]? = some (R.vals vl vt) := by rw [a2]; exact h.get
  refine ⟨_, s1, { s1 with boxes := s1.boxes.set b ({ R with line := R.line ++ m : Rd }.vals (.bys (.own s.toks.length) i) vt), low := min s1.low b }, a1, ?_, ⟨h.hb, ?_, ?_, ?_, ?_, ?_, ?_, ?_, ?_, ?_, ?_⟩⟩
  · simp [storePV, hg, PV.cells, PV.inB, leafOk, hasTok, tokOf, Rd.vals, rdV, setCells]
  · show s1.boxes.set b _ = _
    rw [a2, h.bx, List.set_set]
  · rw [← h.lp]; exact a3
  · exact a5
  · exact h.lt.move fun j hj => a7 j (h.lt.lt hj).1 fun hh => h.ne j hh hj
  · intro j hj hj2
    simp only [tokOf, Option.some.injEq] at hj
    have := (h.lt.lt hj2).1
    omega
  · have := h.tl; exact Nat.le_trans this a6
  · intro j hj h1 h2
    rw [← h.tk j hj h1 h2]
    refine a7 j (by have := h.tl; omega) fun hh => ?_
    rcases h.old j (.inl hh) hj with h3 | h3
    · exact h1 h3
    · exact h2 h3
  · rintro j (hj | hj) hj2
    · simp only [tokOf, Option.some.injEq] at hj
      have := h.tl; omega
    · exact h.old j (.inr hj) hj2
  · exact .inr (Nat.min_le_right _ _)
  · have := h.lb
    show _ ≤ min s1.low b
    omega

theorem RdS.addText (h : RdS st s b vl0 vt0 R vl vt) {y : PV} {m : List UInt8} (hy : src8 s y = some m) (hl : R.text.length + m.length + 2 ≤ room) :
    ∃ v1 v' s1 s2 s3, app8 s vt y = some (v1, s1) ∧ app8 s1 v1 (.str [13, 10]) = some (v', s2) ∧ storePV s2 1 (.ptr b 2) v' = some s3 ∧ RdS st s3 b vl0 vt0 { R with text := R.text ++ m ++ [13, 10] } vl v' := by
  obtain ⟨v1, s1, a1, a2, a3, a4, a5, a6, a7, a8, a9⟩ := app8_live h.lt hy (by omega)
  obtain ⟨v', s2, b1, b2, b3, b4, b5, b6, b7, b8, b9⟩ := app8_live (y := .str [13, 10]) (m := [13, 10]) a5 rfl (by simp; omega)
  have b9 := b9 (by simp)
  obtain ⟨i, rfl⟩ : ∃ l, v' = .bys (.own s1.toks.length) l := by
    rcases b5 with ⟨rfl, _⟩ | ⟨i, rfl, _⟩
    · simp [tokOf] at b9
    · simp only [tokOf, Option.some.injEq] at b9; subst b9; exact ⟨_, rfl⟩
  have hg : s2.boxes[b]? = some (R.vals vl vt) := by rw [b2, a2]; exact h.get
  -- a token of before that the text has not, is as it was
  have keep : ∀ j, j < s.toks.length → tokOf vt ≠ some j → s2.toks[j]? = s.toks[j]? := fun j hj hne => by
    rw [b7 j (by omega) ?_, a7 j hj hne]
    intro hh
    rcases a8 j hh with ⟨h1, _⟩ | h1
    · exact hne h1
    · omega
  refine ⟨v1, _, s1, s2, { s2 with boxes := s2.boxes.set b ({ R with text := R.text ++ m ++ [13, 10] : Rd }.vals vl (.bys (.own s1.toks.length) i)), low := min s2.low b }, a1, b1, ?_, ⟨h.hb, ?_, ?_, ?_, ?_, ?_, ?_, ?_, ?_, ?_, ?_⟩⟩
  · simp [storePV, hg, PV.cells, PV.inB, leafOk, hasTok, tokOf, Rd.vals, rdV, setCells]
  · show s2.boxes.set b _ = _
    rw [b2, a2, h.bx, List.set_set]
  · rw [← h.lp, ← a3]; exact b3
  · exact h.ll.move fun j hj => keep j (h.ll.lt hj).1 fun hh => h.ne j hj hh
  · exact b5
  · intro j hj hj2
    simp only [tokOf, Option.some.injEq] at hj2
    have := (h.ll.lt hj).1
    omega
  · have := h.tl; exact Nat.le_trans this (Nat.le_trans a6 b6)
  · intro j hj h1 h2
    rw [← h.tk j hj h1 h2]
    refine keep j (by have := h.tl; omega) fun hh => ?_
    rcases h.old j (.inr hh) hj with h3 | h3
    · exact h1 h3
    · exact h2 h3
  · rintro j (hj | hj) hj2
    · exact h.old j (.inl hj) hj2
    · simp only [tokOf, Option.some.injEq] at hj
      have := h.tl; omega
  · exact .inr (Nat.min_le_right _ _)
  · have := h.lb
    show _ ≤ min s2.low b
    omega

/-- Behind a call that hands back nothing that lives. -/
theorem RdS.leave (h : RdS st s b vl0 vt0 R vl vt) {v : PV} (h1 : v.inB st.boxes.length = true) (h3 : ∀ n toks, keepRes n toks v = (v, [])) :
    ∃ s', leave st s v = (v, s') ∧ RdS st s' b vl0 vt0 R vl vt ∧ s'.low ≤ st.low := by
  have hbl : s.boxes.take st.boxes.length = s.boxes := by
    apply List.take_of_length_le; rw [h.bx]; simp
  by_cases hc : st.boxes.length ≤ s.low
  · have hlo : ∀ i, (tokOf vl = some i ∨ tokOf vt = some i) → i < st.toks.length := by
      rcases h.lw with h1 | h1
      · exact h1
      · have := h.hb; omega
    refine ⟨{ boxes := s.boxes.take st.boxes.length, toks := s.toks.take st.toks.length, loops := s.loops, low := st.low }, by simp [Ab.leave, h1, hc, h3], ⟨h.hb, ?_, h.lp, ?_, ?_, h.ne, ?_, ?_, h.old, .inl hlo, Nat.min_le_left _ _⟩, Nat.le_refl _⟩
    · rw [← h.bx]; exact hbl
    · refine h.ll.move fun i hi => ?_
      simp [List.getElem?_take, hlo i (.inl hi)]
    · refine h.lt.move fun i hi => ?_
      simp [List.getElem?_take, hlo i (.inr hi)]
    · have := h.tl; simp; omega
    · intro i hi k1 k2
      rw [← h.tk i hi k1 k2]
      simp [List.getElem?_take, hi]
  · refine ⟨{ boxes := s.boxes.take st.boxes.length, toks := s.toks, loops := s.loops, low := min st.low s.low }, by simp [Ab.leave, h1, hc], ⟨h.hb, ?_, h.lp, h.ll, h.lt, h.ne, h.tl, h.tk, h.old, ?_, (by have := h.lb; show _ ≤ min st.low s.low; omega)⟩, Nat.min_le_left _ _⟩
    · rw [← h.bx]; exact hbl
    · rcases h.lw with h1 | h1
      · exact .inl h1
      · exact .inr (Nat.le_trans (Nat.min_le_right _ _) h1)

theorem RdS.start (hb : st.boxes[b]? = some (R.vals vl vt)) (h1 : Live st vl R.line) (h2 : Live st vt R.text) (h3 : ∀ i, tokOf vl = some i → tokOf vt ≠ some i) {lo : Nat} (hlo : min st.low b ≤ lo) : RdS st ⟨st.boxes, st.toks, st.loops, lo⟩ b vl vt R vl vt :=
  ⟨(List.getElem?_eq_some_iff.1 hb).1, by
    have := (List.getElem?_eq_some_iff.1 hb)
    obtain ⟨q, r⟩ := this
    rw [← r]; simp, rfl, h1, h2, h3, Nat.le_refl _, fun _ _ _ _ => rfl, fun i h _ => h, .inl fun i h => by
    rcases h with h | h
    · exact (h1.lt h).1
    · exact (h2.lt h).1, hlo⟩
/-- One piece of work behind the other. -/
theorem RdS.trans {s0 : St} {vl1 vt1 : PV} {R1 : Rd} (h0 : RdS st s0 b vl0 vt0 R1 vl1 vt1) (h : RdS s0 s b vl1 vt1 R vl vt) (hlow : s.low ≤ s0.low) : RdS st s b vl0 vt0 R vl vt where
  hb := h0.hb
  bx := by rw [h.bx, h0.bx, List.set_set]
  lp := h.lp.trans h0.lp
  ll := h.ll
  lt := h.lt
  ne := h.ne
  tl := Nat.le_trans h0.tl h.tl
  tk := fun i hi k1 k2 => by
    rw [← h0.tk i hi k1 k2]
    refine h.tk i (by have := h0.tl; omega) (fun hh => ?_) (fun hh => ?_)
    · rcases h0.old i (.inl hh) hi with h3 | h3
      · exact k1 h3
      · exact k2 h3
    · rcases h0.old i (.inr hh) hi with h3 | h3
      · exact k1 h3
      · exact k2 h3
  old := fun i hi hlt => h0.old i (h.old i hi (by have := h0.tl; omega)) hlt
  lw := by
    rcases h.lw with h1 | h1
    · rcases h0.lw with h2 | h2
      · left
        intro i hi
        exact h2 i (h.old i hi (h1 i hi))
      · exact .inr (by omega)
    · exact .inr h1
  lb := by have := h.lb; have := h0.lb; omega
end Go.Ab

/-
  The reader: a line is taken.
-/
namespace Go.Ab
set_option linter.unusedVariables false
set_option linter.unusedSimpArgs false
variable {st : St} {e : Env} {s : St} {b : Nat} {vl0 vt0 vl vt : PV} {R : Rd}

theorem take_spec {x : PV} {l : List UInt8} (h : RdS st st b vl vt R vl vt) (hx : x.by = some l) (hxt : x.tokLt st.toks.length = true) (hl : l.length ≤ 1000000) (hm0 : 0 ≤ R.most) (hm1 : R.most < 9223372036854775808) (htl : R.text.length ≤ 1000000) :
    ∃ s' vt', call prog (.fn 24 []) [.ptr b 0, x] st = some (.tup [], s') ∧ RdS st s' b vl vt (R.take l) vl vt' ∧ s'.low ≤ st.low := by
  suffices hh : ∃ s1 vt', RdS st s1 b vl vt (R.take l) vl vt' ∧ call prog (.fn 24 []) [.ptr b 0, x] st = some (leave st s1 (.tup [])) by
    obtain ⟨s1, vt', h1, h2⟩ := hh
    obtain ⟨s', k1, k2, k3⟩ := h1.leave (v := .tup []) rfl (fun _ _ => rfl)
    exact ⟨s', vt', by rw [h2, k1], k2, k3⟩
  have hs : RdS st { st with low := st.boxes.length } b vl vt R vl vt := RdS.start h.get h.ll h.lt h.ne (by have := h.hb; omega)
  generalize hR' : R.take l = R'
  have key : ∃ r, (∃ e1 s1 vt', ex prog F_P_dots_Reader_take.body (env0 [.ptr b 0, x]) { st with low := st.boxes.length } = some (.normal, e1, s1) ∧ r = s1 ∧ RdS st s1 b vl vt R' vl vt') := by
    suffices hw : W prog F_P_dots_Reader_take.body (env0 [.ptr b 0, x]) { st with low := st.boxes.length } (fun x' _ s1 => x' = .normal ∧ ∃ vt', RdS st s1 b vl vt R' vl vt') by
      obtain ⟨⟨x', e1, s1⟩, k1, k2, vt', k3⟩ := hw
      simp only at k2 k3
      subst k2
      exact ⟨s1, e1, s1, vt', k1, rfl, k3⟩
    unfold F_P_dots_Reader_take; dsimp only
    -- bare
    refine W_cut (fun e s => e 0 = .ptr b 0 ∧ e 1 = x ∧ RdS st s b vl vt { R with bare := R.bare || decide (0 ≤ bareAt l) } vl vt) ?_ ?_
    · obtain ⟨s', k1, k2⟩ := hs.stB (R' := { R with bare := R.bare || decide (0 ≤ bareAt l) }) (k := 3) (x := .bool (R.bare || decide (0 ≤ bareAt l))) rfl (by omega) rfl rfl rfl rfl rfl rfl
      have ld := hs.ld3
      cases hb : R.bare with
      | true =>
        simp only [hb, Bool.true_or] at ld k1 k2
        simp (maxSteps := 1000000) (disch := omega) only [faddrPV, Nat.zero_add, ld, k1, W_seq, W_region, W_cond, W_block, W_skip, W_label, W_exit, W_goto, W_ret, WO_cons, WO_consG, WO_nil, wantedA_eq, wantB, evOp, ev_tmp, ev_const, ev_fn, WN_some, WN_none, updO_some, updO_none, upd_eq,
 ↓reduceIte, Nat.reduceEqDiff, List.nil_append, List.cons_append, List.append_nil, List.map_cons, List.map_nil, env0_zero, env0_succ, env0_nil, Option.map_some, Option.map_none, seqQ_normal, seqQ_ret, seqQ_exit, seqQ_goto, blockQ_normal, blockQ_ret, blockQ_exit, blockQ_goto, condW_bool, loopQ_ret, loopQ_exit, loopQ_goto, endQ_ret, endQ_normal,
 lss_i, leq_i, gtr_i, geq_i, eql_i, neq_i, eql_8, neq_8, lss_8, leq_8, gtr_8, geq_8, eql_s, neq_s, eql_b, neq_b, not_b, by_bys, by_nils, load_cp1, beq_true, beq_false, Bool.not_eq_true', decide_eq_true_eq, decide_eq_false_iff_not, decide_true, decide_false,
 Int.toNat_natCast, Int.ofNat_lt, Int.ofNat_le, Int.natCast_inj, Bool.false_eq_true, Bool.true_eq_false, extPV, List.getElem?_cons_zero, List.getElem?_cons_succ, nilckPV, Int.reduceToNat, Int.reduceLE, true_and, and_true, reduceCtorEq, or_false, false_or, or_true, Option.some.injEq, exists_eq_left', Bool.not_true, Bool.not_false, ne_eq, Int.reduceEq, not_true_eq_false, not_false_eq_true, Int.reduceLT, UInt8.reduceLT, UInt8.reduceLE, UInt8.reduceToNat]
        exact k2
      | false =>
        simp only [hb, Bool.false_or] at ld k1 k2
        simp (maxSteps := 1000000) (disch := omega) only [faddrPV, Nat.zero_add, ld, dbare_spec hx (by omega), k1, W_seq, W_region, W_cond, W_block, W_skip, W_label, W_exit, W_goto, W_ret, WO_cons, WO_consG, WO_nil, wantedA_eq, wantB, evOp, ev_tmp, ev_const, ev_fn, WN_some, WN_none, updO_some, updO_none, upd_eq,
 ↓reduceIte, Nat.reduceEqDiff, List.nil_append, List.cons_append, List.append_nil, List.map_cons, List.map_nil, env0_zero, env0_succ, env0_nil, Option.map_some, Option.map_none, seqQ_normal, seqQ_ret, seqQ_exit, seqQ_goto, blockQ_normal, blockQ_ret, blockQ_exit, blockQ_goto, condW_bool, loopQ_ret, loopQ_exit, loopQ_goto, endQ_ret, endQ_normal,
 lss_i, leq_i, gtr_i, geq_i, eql_i, neq_i, eql_8, neq_8, lss_8, leq_8, gtr_8, geq_8, eql_s, neq_s, eql_b, neq_b, not_b, by_bys, by_nils, load_cp1, beq_true, beq_false, Bool.not_eq_true', decide_eq_true_eq, decide_eq_false_iff_not, decide_true, decide_false,
 Int.toNat_natCast, Int.ofNat_lt, Int.ofNat_le, Int.natCast_inj, Bool.false_eq_true, Bool.true_eq_false, extPV, List.getElem?_cons_zero, List.getElem?_cons_succ, nilckPV, Int.reduceToNat, Int.reduceLE, true_and, and_true, reduceCtorEq, or_false, false_or, or_true, Option.some.injEq, exists_eq_left', Bool.not_true, Bool.not_false, ne_eq, Int.reduceEq, not_true_eq_false, not_false_eq_true, Int.reduceLT, UInt8.reduceLT, UInt8.reduceLE, UInt8.reduceToNat]
        exact k2
    rintro e s ⟨h0, h1, hs⟩
    -- long
    refine W_cut (fun e s => e 0 = .ptr b 0 ∧ e 1 = x ∧ RdS st s b vl vt { R with bare := R.bare || decide (0 ≤ bareAt l), long := R.long || decide (999 < l.length) } vl vt) ?_ ?_
    · obtain ⟨s', k1, k2⟩ := hs.stB (R' := { R with bare := R.bare || decide (0 ≤ bareAt l), long := R.long || decide (999 < l.length) }) (k := 4) (x := .bool (R.long || decide (999 < l.length))) rfl (by omega) rfl rfl rfl rfl rfl rfl
      have ld := hs.ld4
      cases hb : R.long with
      | true =>
        simp only [hb, Bool.true_or] at ld k1 k2
        simp (maxSteps := 1000000) (disch := omega) only [h0, h1, faddrPV, Nat.zero_add, ld, k1, W_seq, W_region, W_cond, W_block, W_skip, W_label, W_exit, W_goto, W_ret, WO_cons, WO_consG, WO_nil, wantedA_eq, wantB, evOp, ev_tmp, ev_const, ev_fn, WN_some, WN_none, updO_some, updO_none, upd_eq,
 ↓reduceIte, Nat.reduceEqDiff, List.nil_append, List.cons_append, List.append_nil, List.map_cons, List.map_nil, env0_zero, env0_succ, env0_nil, Option.map_some, Option.map_none, seqQ_normal, seqQ_ret, seqQ_exit, seqQ_goto, blockQ_normal, blockQ_ret, blockQ_exit, blockQ_goto, condW_bool, loopQ_ret, loopQ_exit, loopQ_goto, endQ_ret, endQ_normal,
 lss_i, leq_i, gtr_i, geq_i, eql_i, neq_i, eql_8, neq_8, lss_8, leq_8, gtr_8, geq_8, eql_s, neq_s, eql_b, neq_b, not_b, by_bys, by_nils, load_cp1, beq_true, beq_false, Bool.not_eq_true', decide_eq_true_eq, decide_eq_false_iff_not, decide_true, decide_false,
 Int.toNat_natCast, Int.ofNat_lt, Int.ofNat_le, Int.natCast_inj, Bool.false_eq_true, Bool.true_eq_false, extPV, List.getElem?_cons_zero, List.getElem?_cons_succ, nilckPV, Int.reduceToNat, Int.reduceLE, true_and, and_true, reduceCtorEq, or_false, false_or, or_true, Option.some.injEq, exists_eq_left', Bool.not_true, Bool.not_false, ne_eq, Int.reduceEq, not_true_eq_false, not_false_eq_true, Int.reduceLT, UInt8.reduceLT, UInt8.reduceLE, UInt8.reduceToNat]
        exact k2
      | false =>
        simp only [hb, Bool.false_or] at ld k1 k2
        have hd : decide ((999 : Int) < (l.length : Int)) = decide (999 < l.length) := by congr 1; apply propext; omega
        simp (maxSteps := 1000000) (disch := omega) only [h0, h1, faddrPV, Nat.zero_add, ld, len_by hx, hd, k1, W_seq, W_region, W_cond, W_block, W_skip, W_label, W_exit, W_goto, W_ret, WO_cons, WO_consG, WO_nil, wantedA_eq, wantB, evOp, ev_tmp, ev_const, ev_fn, WN_some, WN_none, updO_some, updO_none, upd_eq,
 ↓reduceIte, Nat.reduceEqDiff, List.nil_append, List.cons_append, List.append_nil, List.map_cons, List.map_nil, env0_zero, env0_succ, env0_nil, Option.map_some, Option.map_none, seqQ_normal, seqQ_ret, seqQ_exit, seqQ_goto, blockQ_normal, blockQ_ret, blockQ_exit, blockQ_goto, condW_bool, loopQ_ret, loopQ_exit, loopQ_goto, endQ_ret, endQ_normal,
 lss_i, leq_i, gtr_i, geq_i, eql_i, neq_i, eql_8, neq_8, lss_8, leq_8, gtr_8, geq_8, eql_s, neq_s, eql_b, neq_b, not_b, by_bys, by_nils, load_cp1, beq_true, beq_false, Bool.not_eq_true', decide_eq_true_eq, decide_eq_false_iff_not, decide_true, decide_false,
 Int.toNat_natCast, Int.ofNat_lt, Int.ofNat_le, Int.natCast_inj, Bool.false_eq_true, Bool.true_eq_false, extPV, List.getElem?_cons_zero, List.getElem?_cons_succ, nilckPV, Int.reduceToNat, Int.reduceLE, true_and, and_true, reduceCtorEq, or_false, false_or, or_true, Option.some.injEq, exists_eq_left', Bool.not_true, Bool.not_false, ne_eq, Int.reduceEq, not_true_eq_false, not_false_eq_true, Int.reduceLT, UInt8.reduceLT, UInt8.reduceLE, UInt8.reduceToNat]
        exact k2
    rintro e s ⟨h0, h1, hs⟩
    -- the point
    refine W_cut (fun e s => e 0 = .ptr b 0 ∧ (e 1).by = some (unDot l) ∧ RdS st s b vl vt { R with bare := R.bare || decide (0 ≤ bareAt l), long := R.long || decide (999 < l.length) } vl vt) ?_ ?_
    · have hs2 := hs.tok1
      have hlit : lit8Fill (List.replicate 1 0) [(0, .b8 46)] = some [46] := rfl
      have hget : (s.tok1).toks[s.toks.length]? = some true := by simp [St.tok1]
      have hcp := CutPrefix_spec (st := s.tok1) (y := .bys (.own s.toks.length) [46]) (b := [46]) hx rfl (tokLt_mono hxt (by have := hs2.tl; exact this))
      by_cases hp : [46] <+: l
      · simp only [if_pos hp] at hcp
        simp (maxSteps := 1000000) (disch := omega) only [h0, h1, hlit, freshT_eq, hget, hcp, W_seq, W_region, W_cond, W_block, W_skip, W_label, W_exit, W_goto, W_ret, WO_cons, WO_consG, WO_nil, wantedA_eq, wantB, evOp, ev_tmp, ev_const, ev_fn, WN_some, WN_none, updO_some, updO_none, upd_eq,
 ↓reduceIte, Nat.reduceEqDiff, List.nil_append, List.cons_append, List.append_nil, List.map_cons, List.map_nil, env0_zero, env0_succ, env0_nil, Option.map_some, Option.map_none, seqQ_normal, seqQ_ret, seqQ_exit, seqQ_goto, blockQ_normal, blockQ_ret, blockQ_exit, blockQ_goto, condW_bool, loopQ_ret, loopQ_exit, loopQ_goto, endQ_ret, endQ_normal,
 lss_i, leq_i, gtr_i, geq_i, eql_i, neq_i, eql_8, neq_8, lss_8, leq_8, gtr_8, geq_8, eql_s, neq_s, eql_b, neq_b, not_b, by_bys, by_nils, load_cp1, beq_true, beq_false, Bool.not_eq_true', decide_eq_true_eq, decide_eq_false_iff_not, decide_true, decide_false,
 Int.toNat_natCast, Int.ofNat_lt, Int.ofNat_le, Int.natCast_inj, Bool.false_eq_true, Bool.true_eq_false, extPV, List.getElem?_cons_zero, List.getElem?_cons_succ, nilckPV, Int.reduceToNat, Int.reduceLE, true_and, and_true, reduceCtorEq, or_false, false_or, or_true, Option.some.injEq, exists_eq_left', Bool.not_true, Bool.not_false, ne_eq, Int.reduceEq, not_true_eq_false, not_false_eq_true, Int.reduceLT, UInt8.reduceLT, UInt8.reduceLE, UInt8.reduceToNat]
        refine ⟨?_, hs2⟩
        rw [dropB_by hx]; simp [unDot, hp]
      · simp only [if_neg hp] at hcp
        simp (maxSteps := 1000000) (disch := omega) only [h0, h1, hlit, freshT_eq, hget, hcp, W_seq, W_region, W_cond, W_block, W_skip, W_label, W_exit, W_goto, W_ret, WO_cons, WO_consG, WO_nil, wantedA_eq, wantB, evOp, ev_tmp, ev_const, ev_fn, WN_some, WN_none, updO_some, updO_none, upd_eq,
 ↓reduceIte, Nat.reduceEqDiff, List.nil_append, List.cons_append, List.append_nil, List.map_cons, List.map_nil, env0_zero, env0_succ, env0_nil, Option.map_some, Option.map_none, seqQ_normal, seqQ_ret, seqQ_exit, seqQ_goto, blockQ_normal, blockQ_ret, blockQ_exit, blockQ_goto, condW_bool, loopQ_ret, loopQ_exit, loopQ_goto, endQ_ret, endQ_normal,
 lss_i, leq_i, gtr_i, geq_i, eql_i, neq_i, eql_8, neq_8, lss_8, leq_8, gtr_8, geq_8, eql_s, neq_s, eql_b, neq_b, not_b, by_bys, by_nils, load_cp1, beq_true, beq_false, Bool.not_eq_true', decide_eq_true_eq, decide_eq_false_iff_not, decide_true, decide_false,
 Int.toNat_natCast, Int.ofNat_lt, Int.ofNat_le, Int.natCast_inj, Bool.false_eq_true, Bool.true_eq_false, extPV, List.getElem?_cons_zero, List.getElem?_cons_succ, nilckPV, Int.reduceToNat, Int.reduceLE, true_and, and_true, reduceCtorEq, or_false, false_or, or_true, Option.some.injEq, exists_eq_left', Bool.not_true, Bool.not_false, ne_eq, Int.reduceEq, not_true_eq_false, not_false_eq_true, Int.reduceLT, UInt8.reduceLT, UInt8.reduceLE, UInt8.reduceToNat]
        refine ⟨?_, hs2⟩
        rw [hx]; simp [unDot, hp]
    rintro e s ⟨h0, h1, hs⟩
    obtain ⟨y, hy⟩ : ∃ y, y = e 1 := ⟨_, rfl⟩
    rw [← hy] at h1
    have hul : (unDot l).length ≤ l.length := by unfold unDot; split <;> simp
    -- long
    refine W_cut (fun e s => e 0 = .ptr b 0 ∧ e 1 = y ∧ RdS st s b vl vt { R with bare := R.bare || decide (0 ≤ bareAt l), long := (R.long || decide (999 < l.length)) || decide (998 < (unDot l).length) } vl vt) ?_ ?_
    · obtain ⟨s', k1, k2⟩ := hs.stB (R' := { R with bare := R.bare || decide (0 ≤ bareAt l), long := (R.long || decide (999 < l.length)) || decide (998 < (unDot l).length) }) (k := 4) (x := .bool ((R.long || decide (999 < l.length)) || decide (998 < (unDot l).length))) rfl (by omega) rfl rfl rfl rfl rfl rfl
      have ld := hs.ld4
      simp only at ld
      cases hb : (R.long || decide (999 < l.length)) with
      | true =>
        simp only [hb, Bool.true_or] at ld k1 k2
        simp (maxSteps := 1000000) (disch := omega) only [h0, ← hy, faddrPV, Nat.zero_add, ld, k1, W_seq, W_region, W_cond, W_block, W_skip, W_label, W_exit, W_goto, W_ret, WO_cons, WO_consG, WO_nil, wantedA_eq, wantB, evOp, ev_tmp, ev_const, ev_fn, WN_some, WN_none, updO_some, updO_none, upd_eq,
 ↓reduceIte, Nat.reduceEqDiff, List.nil_append, List.cons_append, List.append_nil, List.map_cons, List.map_nil, env0_zero, env0_succ, env0_nil, Option.map_some, Option.map_none, seqQ_normal, seqQ_ret, seqQ_exit, seqQ_goto, blockQ_normal, blockQ_ret, blockQ_exit, blockQ_goto, condW_bool, loopQ_ret, loopQ_exit, loopQ_goto, endQ_ret, endQ_normal,
 lss_i, leq_i, gtr_i, geq_i, eql_i, neq_i, eql_8, neq_8, lss_8, leq_8, gtr_8, geq_8, eql_s, neq_s, eql_b, neq_b, not_b, by_bys, by_nils, load_cp1, beq_true, beq_false, Bool.not_eq_true', decide_eq_true_eq, decide_eq_false_iff_not, decide_true, decide_false,
 Int.toNat_natCast, Int.ofNat_lt, Int.ofNat_le, Int.natCast_inj, Bool.false_eq_true, Bool.true_eq_false, extPV, List.getElem?_cons_zero, List.getElem?_cons_succ, nilckPV, Int.reduceToNat, Int.reduceLE, true_and, and_true, reduceCtorEq, or_false, false_or, or_true, Option.some.injEq, exists_eq_left', Bool.not_true, Bool.not_false, ne_eq, Int.reduceEq, not_true_eq_false, not_false_eq_true, Int.reduceLT, UInt8.reduceLT, UInt8.reduceLE, UInt8.reduceToNat]
        exact k2
      | false =>
        simp only [hb, Bool.false_or] at ld k1 k2
        have hd : decide ((998 : Int) < ((unDot l).length : Int)) = decide (998 < (unDot l).length) := by congr 1; apply propext; omega
        simp (maxSteps := 1000000) (disch := omega) only [h0, ← hy, faddrPV, Nat.zero_add, ld, len_by h1, hd, k1, W_seq, W_region, W_cond, W_block, W_skip, W_label, W_exit, W_goto, W_ret, WO_cons, WO_consG, WO_nil, wantedA_eq, wantB, evOp, ev_tmp, ev_const, ev_fn, WN_some, WN_none, updO_some, updO_none, upd_eq,
 ↓reduceIte, Nat.reduceEqDiff, List.nil_append, List.cons_append, List.append_nil, List.map_cons, List.map_nil, env0_zero, env0_succ, env0_nil, Option.map_some, Option.map_none, seqQ_normal, seqQ_ret, seqQ_exit, seqQ_goto, blockQ_normal, blockQ_ret, blockQ_exit, blockQ_goto, condW_bool, loopQ_ret, loopQ_exit, loopQ_goto, endQ_ret, endQ_normal,
 lss_i, leq_i, gtr_i, geq_i, eql_i, neq_i, eql_8, neq_8, lss_8, leq_8, gtr_8, geq_8, eql_s, neq_s, eql_b, neq_b, not_b, by_bys, by_nils, load_cp1, beq_true, beq_false, Bool.not_eq_true', decide_eq_true_eq, decide_eq_false_iff_not, decide_true, decide_false,
 Int.toNat_natCast, Int.ofNat_lt, Int.ofNat_le, Int.natCast_inj, Bool.false_eq_true, Bool.true_eq_false, extPV, List.getElem?_cons_zero, List.getElem?_cons_succ, nilckPV, Int.reduceToNat, Int.reduceLE, true_and, and_true, reduceCtorEq, or_false, false_or, or_true, Option.some.injEq, exists_eq_left', Bool.not_true, Bool.not_false, ne_eq, Int.reduceEq, not_true_eq_false, not_false_eq_true, Int.reduceLT, UInt8.reduceLT, UInt8.reduceLE, UInt8.reduceToNat]
        exact k2
    clear h0 hs hy
    rintro e s ⟨h0, hy, hs⟩
    -- full
    refine W_cut (fun e s => e 0 = .ptr b 0 ∧ e 1 = y ∧ RdS st s b vl vt { R with bare := R.bare || decide (0 ≤ bareAt l), long := (R.long || decide (999 < l.length)) || decide (998 < (unDot l).length), fl := R.fl || decide (R.most - R.text.length < (unDot l).length + 2) } vl vt) ?_ ?_
    · obtain ⟨s', k1, k2⟩ := hs.stB (R' := { R with bare := R.bare || decide (0 ≤ bareAt l), long := (R.long || decide (999 < l.length)) || decide (998 < (unDot l).length), fl := R.fl || decide (R.most - R.text.length < (unDot l).length + 2) }) (k := 5) (x := .bool (R.fl || decide (R.most - R.text.length < (unDot l).length + 2))) rfl (by omega) rfl rfl rfl rfl rfl rfl
      have ld := hs.ld5
      have ld0 := hs.ld0
      have ld2 := hs.ld2
      simp only at ld ld0 ld2
      have hlt := len_by hs.lt.by
      simp only at hlt
      cases hb : R.fl with
      | true =>
        simp only [hb, Bool.true_or] at ld k1 k2
        simp (maxSteps := 1000000) (disch := omega) only [h0, hy, faddrPV, Nat.zero_add, ld, k1, W_seq, W_region, W_cond, W_block, W_skip, W_label, W_exit, W_goto, W_ret, WO_cons, WO_consG, WO_nil, wantedA_eq, wantB, evOp, ev_tmp, ev_const, ev_fn, WN_some, WN_none, updO_some, updO_none, upd_eq,
 ↓reduceIte, Nat.reduceEqDiff, List.nil_append, List.cons_append, List.append_nil, List.map_cons, List.map_nil, env0_zero, env0_succ, env0_nil, Option.map_some, Option.map_none, seqQ_normal, seqQ_ret, seqQ_exit, seqQ_goto, blockQ_normal, blockQ_ret, blockQ_exit, blockQ_goto, condW_bool, loopQ_ret, loopQ_exit, loopQ_goto, endQ_ret, endQ_normal,
 lss_i, leq_i, gtr_i, geq_i, eql_i, neq_i, eql_8, neq_8, lss_8, leq_8, gtr_8, geq_8, eql_s, neq_s, eql_b, neq_b, not_b, by_bys, by_nils, load_cp1, beq_true, beq_false, Bool.not_eq_true', decide_eq_true_eq, decide_eq_false_iff_not, decide_true, decide_false,
 Int.toNat_natCast, Int.ofNat_lt, Int.ofNat_le, Int.natCast_inj, Bool.false_eq_true, Bool.true_eq_false, extPV, List.getElem?_cons_zero, List.getElem?_cons_succ, nilckPV, Int.reduceToNat, Int.reduceLE, true_and, and_true, reduceCtorEq, or_false, false_or, or_true, Option.some.injEq, exists_eq_left', Bool.not_true, Bool.not_false, ne_eq, Int.reduceEq, not_true_eq_false, not_false_eq_true, Int.reduceLT, UInt8.reduceLT, UInt8.reduceLE, UInt8.reduceToNat]
        exact k2
      | false =>
        simp only [hb, Bool.false_or] at ld k1 k2
        simp (maxSteps := 1000000) (disch := omega) only [h0, hy, faddrPV, Nat.zero_add, ld, ld0, ld2, hlt, len_by h1, add_i, sub_i, k1, W_seq, W_region, W_cond, W_block, W_skip, W_label, W_exit, W_goto, W_ret, WO_cons, WO_consG, WO_nil, wantedA_eq, wantB, evOp, ev_tmp, ev_const, ev_fn, WN_some, WN_none, updO_some, updO_none, upd_eq,
 ↓reduceIte, Nat.reduceEqDiff, List.nil_append, List.cons_append, List.append_nil, List.map_cons, List.map_nil, env0_zero, env0_succ, env0_nil, Option.map_some, Option.map_none, seqQ_normal, seqQ_ret, seqQ_exit, seqQ_goto, blockQ_normal, blockQ_ret, blockQ_exit, blockQ_goto, condW_bool, loopQ_ret, loopQ_exit, loopQ_goto, endQ_ret, endQ_normal,
 lss_i, leq_i, gtr_i, geq_i, eql_i, neq_i, eql_8, neq_8, lss_8, leq_8, gtr_8, geq_8, eql_s, neq_s, eql_b, neq_b, not_b, by_bys, by_nils, load_cp1, beq_true, beq_false, Bool.not_eq_true', decide_eq_true_eq, decide_eq_false_iff_not, decide_true, decide_false,
 Int.toNat_natCast, Int.ofNat_lt, Int.ofNat_le, Int.natCast_inj, Bool.false_eq_true, Bool.true_eq_false, extPV, List.getElem?_cons_zero, List.getElem?_cons_succ, nilckPV, Int.reduceToNat, Int.reduceLE, true_and, and_true, reduceCtorEq, or_false, false_or, or_true, Option.some.injEq, exists_eq_left', Bool.not_true, Bool.not_false, ne_eq, Int.reduceEq, not_true_eq_false, not_false_eq_true, Int.reduceLT, UInt8.reduceLT, UInt8.reduceLE, UInt8.reduceToNat]
        exact k2
    rintro e s ⟨h0, hy, hs⟩
    have ld5 := hs.ld5
    have ld2 := hs.ld2
    simp only at ld5 ld2
    subst hR'
    cases hb : (R.fl || decide (R.most - R.text.length < (unDot l).length + 2)) with
    | true =>
      rw [hb] at ld5
      simp (maxSteps := 1000000) (disch := omega) only [h0, faddrPV, Nat.zero_add, ld5, W_seq, W_region, W_cond, W_block, W_skip, W_label, W_exit, W_goto, W_ret, WO_cons, WO_consG, WO_nil, wantedA_eq, wantB, evOp, ev_tmp, ev_const, ev_fn, WN_some, WN_none, updO_some, updO_none, upd_eq,
 ↓reduceIte, Nat.reduceEqDiff, List.nil_append, List.cons_append, List.append_nil, List.map_cons, List.map_nil, env0_zero, env0_succ, env0_nil, Option.map_some, Option.map_none, seqQ_normal, seqQ_ret, seqQ_exit, seqQ_goto, blockQ_normal, blockQ_ret, blockQ_exit, blockQ_goto, condW_bool, loopQ_ret, loopQ_exit, loopQ_goto, endQ_ret, endQ_normal,
 lss_i, leq_i, gtr_i, geq_i, eql_i, neq_i, eql_8, neq_8, lss_8, leq_8, gtr_8, geq_8, eql_s, neq_s, eql_b, neq_b, not_b, by_bys, by_nils, load_cp1, beq_true, beq_false, Bool.not_eq_true', decide_eq_true_eq, decide_eq_false_iff_not, decide_true, decide_false,
 Int.toNat_natCast, Int.ofNat_lt, Int.ofNat_le, Int.natCast_inj, Bool.false_eq_true, Bool.true_eq_false, extPV, List.getElem?_cons_zero, List.getElem?_cons_succ, nilckPV, Int.reduceToNat, Int.reduceLE, true_and, and_true, reduceCtorEq, or_false, false_or, or_true, Option.some.injEq, exists_eq_left', Bool.not_true, Bool.not_false, ne_eq, Int.reduceEq, not_true_eq_false, not_false_eq_true, Int.reduceLT, UInt8.reduceLT, UInt8.reduceLE, UInt8.reduceToNat]
      refine ⟨vt, ?_⟩
      simp only [Rd.take, hb, if_true] at hs ⊢
      exact hs
    | false =>
      rw [hb] at ld5
      obtain ⟨v1, v', s1, s2, s3, a1, a2, a3, a4⟩ := hs.addText (y := y) (src8_by h1) (by simp only [room]; omega)
      simp (maxSteps := 1000000) (disch := omega) only [h0, hy, faddrPV, Nat.zero_add, ld5, ld2, a1, a2, a3, W_seq, W_region, W_cond, W_block, W_skip, W_label, W_exit, W_goto, W_ret, WO_cons, WO_consG, WO_nil, wantedA_eq, wantB, evOp, ev_tmp, ev_const, ev_fn, WN_some, WN_none, updO_some, updO_none, upd_eq,
 ↓reduceIte, Nat.reduceEqDiff, List.nil_append, List.cons_append, List.append_nil, List.map_cons, List.map_nil, env0_zero, env0_succ, env0_nil, Option.map_some, Option.map_none, seqQ_normal, seqQ_ret, seqQ_exit, seqQ_goto, blockQ_normal, blockQ_ret, blockQ_exit, blockQ_goto, condW_bool, loopQ_ret, loopQ_exit, loopQ_goto, endQ_ret, endQ_normal,
 lss_i, leq_i, gtr_i, geq_i, eql_i, neq_i, eql_8, neq_8, lss_8, leq_8, gtr_8, geq_8, eql_s, neq_s, eql_b, neq_b, not_b, by_bys, by_nils, load_cp1, beq_true, beq_false, Bool.not_eq_true', decide_eq_true_eq, decide_eq_false_iff_not, decide_true, decide_false,
 Int.toNat_natCast, Int.ofNat_lt, Int.ofNat_le, Int.natCast_inj, Bool.false_eq_true, Bool.true_eq_false, extPV, List.getElem?_cons_zero, List.getElem?_cons_succ, nilckPV, Int.reduceToNat, Int.reduceLE, true_and, and_true, reduceCtorEq, or_false, false_or, or_true, Option.some.injEq, exists_eq_left', Bool.not_true, Bool.not_false, ne_eq, Int.reduceEq, not_true_eq_false, not_false_eq_true, Int.reduceLT, UInt8.reduceLT, UInt8.reduceLE, UInt8.reduceToNat]
      refine ⟨v', ?_⟩
      simp only [Rd.take, hb, Bool.false_eq_true, if_false] at a4 ⊢
      exact a4
  obtain ⟨s1, e1, s1', vt', k1, rfl, k3⟩ := key
  refine ⟨_, vt', k3, ?_⟩
  refine call_of_W prog_24 ?_
  exact ⟨_, k1, .inl rfl, .tup [], by simp [F_P_dots_Reader_take, resOf, rvAll, packRes], rfl⟩
end Go.Ab

/-
  The reader: bytes are put.
-/
namespace Go.Ab
set_option linter.unusedVariables false
set_option linter.unusedSimpArgs false
variable {st : St} {e : Env} {s : St} {b : Nat} {vl0 vt0 vl vt : PV} {R : Rd}

/-- One byte: the reader then, and whether the frame is over. -/
def Rd.byte (R : Rd) (c : UInt8) : Rd × Bool :=
  if [13, 10] <:+ R.line ++ [c] then
    if (R.line ++ [c]).take ((R.line ++ [c]).length - 2) = [46] then ({ R with line := [], ended := true }, true)
    else ((({ R with line := [], ended := false } : Rd)).take ((R.line ++ [c]).take ((R.line ++ [c]).length - 2)), false)
  else ({ R with line := R.line ++ [c] }, false)

def Rd.put (R : Rd) : List UInt8 → Rd × Nat × Bool
  | [] => (R, 0, false)
  | c :: r => if (R.byte c).2 then ((R.byte c).1, 1, true) else (((R.byte c).1.put r).1, ((R.byte c).1.put r).2.1 + 1, ((R.byte c).1.put r).2.2)

theorem take_line {l : List UInt8} : (R.take l).line = R.line := rfl
theorem take_ended {l : List UInt8} : (R.take l).ended = R.ended := rfl
theorem take_most {l : List UInt8} : (R.take l).most = R.most := rfl
theorem unDot_le {l : List UInt8} : (unDot l).length ≤ l.length := by unfold unDot; split <;> simp
theorem take_text {l : List UInt8} : (R.take l).text.length ≤ R.text.length + l.length + 2 := by
  have := unDot_le (l := l)
  simp only [Rd.take]
  split <;> simp <;> omega
theorem byte_most {c : UInt8} : (R.byte c).1.most = R.most := by
  unfold Rd.byte; split
  · split <;> rfl
  · rfl
theorem byte_len {c : UInt8} : (R.byte c).1.text.length + (R.byte c).1.line.length ≤ R.text.length + R.line.length + 1 := by
  unfold Rd.byte
  split
  · rename_i hs
    have := hs.length_le
    simp at this
    split
    · simp; omega
    · have h1 := take_text (R := { R with line := [], ended := false }) (l := (R.line ++ [c]).take ((R.line ++ [c]).length - 2))
      simp only [take_line, List.length_nil] at h1 ⊢
      simp at h1 ⊢
      omega
  · simp; omega
theorem byte_ended {c : UInt8} (he : R.ended = false) (h : (R.byte c).2 = false) : (R.byte c).1.ended = false := by
  unfold Rd.byte at h ⊢
  split
  · rename_i hs
    rw [if_pos hs] at h
    split
    · rename_i h2
      rw [if_pos h2] at h; cases h
    · rfl
  · exact he

def errOf (R : Rd) : Int := faultC R.bare R.long R.fl

set_option maxHeartbeats 1000000 in
theorem Put_spec {x : PV} {l : List UInt8} (h : RdS st st b vl0 vt0 R vl0 vt0) (hx : x.by = some l) (he : R.ended = false) (hl : R.text.length + R.line.length + l.length ≤ 1000000) (hm0 : 0 ≤ R.most) (hm1 : R.most < 9223372036854775808) :
    ∃ s' vl' vt', call prog (.fn 10 []) [.ptr b 0, x] st = some (.tup [.int .i64 ((R.put l).2.1 : Nat), .bool (R.put l).2.2, .int .i64 (if (R.put l).2.2 then errOf (R.put l).1 else 0)], s') ∧ RdS st s' b vl0 vt0 (R.put l).1 vl' vt' ∧ s'.low ≤ st.low := by
  have hs : RdS st { st with low := st.boxes.length } b vl0 vt0 R vl0 vt0 := RdS.start h.get h.ll h.lt h.ne (by have := h.hb; omega)
  obtain ⟨res, hres⟩ : ∃ res, res = (R.put l) := ⟨_, rfl⟩
  rw [← hres]
  suffices hw : W prog F_P_dots_Reader_Put.body (env0 [.ptr b 0, x]) { st with low := st.boxes.length } (fun x' e1 s1 => x' = .ret ∧ e1 4 = .int .i64 (res.2.1 : Nat) ∧ e1 5 = .bool res.2.2 ∧ e1 6 = .int .i64 (if res.2.2 then errOf res.1 else 0) ∧ ∃ vl vt, RdS st s1 b vl0 vt0 res.1 vl vt) by
    obtain ⟨⟨x', e1, s1⟩, k1, k2, k4, k5, k6, vl, vt, k3⟩ := hw
    simp only at k2 k3 k4 k5 k6
    subst k2
    obtain ⟨s', j1, j2, j3⟩ := k3.leave (v := .tup [.int .i64 (res.2.1 : Nat), .bool res.2.2, .int .i64 (if res.2.2 then errOf res.1 else 0)]) rfl (fun _ _ => rfl)
    refine ⟨s', vl, vt, call_of_W prog_10 ⟨_, k1, .inr rfl, _, ?_, j1⟩, j2, j3⟩
    simp [F_P_dots_Reader_Put, resOf, rvAll, rv1, k4, k5, k6, notTup, packRes]
  unfold F_P_dots_Reader_Put; dsimp only
  have hn : binPV .eql .ptr (.ptr b 0) .nilp = some (.bool false) := rfl
  have ld6 := hs.ld6
  rw [he] at ld6
  simp (maxSteps := 1000000) (disch := omega) only [hn, faddrPV, Nat.zero_add, ld6, len_by hx, W_seq, W_region, W_cond, W_block, W_skip, W_label, W_exit, W_goto, W_ret, WO_cons, WO_consG, WO_nil, wantedA_eq, wantB, evOp, ev_tmp, ev_const, ev_fn, WN_some, WN_none, updO_some, updO_none, upd_eq,
 ↓reduceIte, Nat.reduceEqDiff, List.nil_append, List.cons_append, List.append_nil, List.map_cons, List.map_nil, env0_zero, env0_succ, env0_nil, Option.map_some, Option.map_none, seqQ_normal, seqQ_ret, seqQ_exit, seqQ_goto, blockQ_normal, blockQ_ret, blockQ_exit, blockQ_goto, condW_bool, loopQ_ret, loopQ_exit, loopQ_goto, endQ_ret, endQ_normal,
 lss_i, leq_i, gtr_i, geq_i, eql_i, neq_i, eql_8, neq_8, lss_8, leq_8, gtr_8, geq_8, eql_s, neq_s, eql_b, neq_b, not_b, by_bys, by_nils, load_cp1, beq_true, beq_false, Bool.not_eq_true', decide_eq_true_eq, decide_eq_false_iff_not, decide_true, decide_false,
 Int.toNat_natCast, Int.ofNat_lt, Int.ofNat_le, Int.natCast_inj, Bool.false_eq_true, Bool.true_eq_false, extPV, List.getElem?_cons_zero, List.getElem?_cons_succ, nilckPV, Int.reduceToNat, Int.reduceLE, true_and, and_true, reduceCtorEq, or_false, false_or, or_true, Option.some.injEq, exists_eq_left', Bool.not_true, Bool.not_false, ne_eq, Int.reduceEq, not_true_eq_false, not_false_eq_true, Int.reduceLT, UInt8.reduceLT, UInt8.reduceLE, UInt8.reduceToNat]
  obtain ⟨I, hI⟩ : ∃ I : Nat → Env → St → Prop, I = fun n e s => ∃ (i : Nat) (Ri : Rd) (vl vt : PV), n = l.length - i ∧ i ≤ l.length ∧ e 0 = .ptr b 0 ∧ e 1 = x ∧ e 19 = x ∧ e 20 = .int .i64 (l.length : Int) ∧ e 21 = .int .i64 (i : Int) ∧ RdS st s b vl0 vt0 Ri vl vt ∧ Ri.ended = false ∧ Ri.most = R.most ∧
      Ri.text.length + Ri.line.length ≤ R.text.length + R.line.length + i ∧ res = ((Ri.put (l.drop i)).1, (Ri.put (l.drop i)).2.1 + i, (Ri.put (l.drop i)).2.2) := ⟨_, rfl⟩
  refine W_loop I ?_ (n := l.length) (by rw [hI]; exact ⟨0, R, vl0, vt0, rfl, by omega, rfl, rfl, rfl, rfl, rfl, hs, he, rfl, by omega, hres⟩)
  clear hs ld6
  intro n e s hh
  rw [hI] at hh
  obtain ⟨i, Ri, vl, vt, rfl, hi, h0, h1, h19, h20, h21, hs, hei, hmi, hli, hri⟩ := hh
  by_cases hlt : i < l.length
  · obtain ⟨c, hc⟩ : ∃ c, c = l.getD i 0 := ⟨_, rfl⟩
    have hdrop : l.drop i = c :: l.drop (i + 1) := by
      rw [List.drop_eq_getElem_cons hlt]; congr 1; simp [hc, List.getD, hlt]
    have ld1 := hs.ld1
    have hs1 := hs.tok1
    obtain ⟨v', s1, s2, a1, a2, a3⟩ := hs1.addLine (y := .bys (.own s.toks.length) [c]) (m := [c]) rfl (by simp) (by simp [room]; omega)
    have hlit : lit8Fill (List.replicate 1 0) [(0, .b8 c)] = some [c] := rfl
    have hlit2 : lit8Fill (List.replicate 2 0) [(0, .b8 13), (1, .b8 10)] = some [13, 10] := rfl
    have ld1' := a3.ld1
    have hs2 := a3.tok1
    have hget : (s2.tok1).toks[s2.toks.length]? = some true := by simp [St.tok1]
    have hll := a3.ll.by
    simp only at hll
    have hcs := CutSuffix_spec (st := s2.tok1) (y := .bys (.own s2.toks.length) [13, 10]) (b := [13, 10]) hll rfl (by simp; omega) (tokLt_mono a3.ll.tokLt (by simp [St.tok1]))
    by_cases hsuf : [13, 10] <:+ Ri.line ++ [c]
    · simp only [if_pos hsuf] at hcs
      -- the line is let go
      have hs3 : ∃ s3, storePV s2.tok1 1 (.ptr b 1) .nils = some s3 ∧ RdS st s3 b vl0 vt0 { Ri with line := [] } .nils vt ∧ s3.toks = s2.tok1.toks := by
        refine ⟨{ s2.tok1 with boxes := s2.tok1.boxes.set b ({ Ri with line := [] : Rd }.vals .nils vt) }, ?_, ⟨hs2.hb, ?_, hs2.lp, .inl ⟨rfl, rfl⟩, hs2.lt, fun i h => (by cases h), hs2.tl, hs2.tk, fun i h hl => ?_, ?_, hs2.lb⟩, rfl⟩
        · simp [storePV, hs2.get, PV.cells, PV.inB, leafOk, hasTok, tokOf, Rd.vals, rdV, setCells]
        · show s2.tok1.boxes.set b _ = _
          rw [hs2.bx, List.set_set]
        · rcases h with h | h
          · cases h
          · exact hs2.old i (.inr h) hl
        · rcases hs2.lw with h | h
          · exact .inl fun i hi => by
              rcases hi with hi | hi
              · cases hi
              · exact h i (.inr hi)
          · exact .inr h
      obtain ⟨s3, b1, b2, b3⟩ := hs3
      obtain ⟨line, hline⟩ : ∃ line, line = (Ri.line ++ [c]).take ((Ri.line ++ [c]).length - 2) := ⟨_, rfl⟩
      have hlby : (v'.takeB ((Ri.line ++ [c]).length - [13, 10].length)).by = some line := by rw [takeB_by hll, hline]; rfl
      have hlt3 : (v'.takeB ((Ri.line ++ [c]).length - [13, 10].length)).tokLt s3.toks.length = true := takeB_tok (by rw [b3]; exact tokLt_mono a3.ll.tokLt (by simp [St.tok1]))
      generalize v'.takeB ((Ri.line ++ [c]).length - [13, 10].length) = u at hcs hlby hlt3
      have hb2s := b2s_by (st := s3) (mu := false) hlby
      by_cases hdot : line = [46]
      · -- the end
        obtain ⟨s4, c1, c2⟩ := b2.stB (R' := { Ri with line := [], ended := true }) (k := 6) (x := .bool true) rfl (by omega) rfl rfl rfl rfl rfl rfl
        have hbyte : Ri.byte c = ({ Ri with line := [], ended := true }, true) := by
          unfold Rd.byte; rw [if_pos hsuf, ← hline, if_pos hdot]
        have hput : res = ({ Ri with line := [], ended := true }, i + 1, true) := by
          rw [hri, hdrop, Rd.put, hbyte]; simp; omega
        have ld6 := c2.ld6
        simp only at ld6
        have hf := fault_spec c2.get
        simp only at hf
        simp (maxSteps := 1000000) (disch := omega) only [h0, h1, h19, h20, h21, hlt, iaddr_by hx, ← hc, faddrPV, Nat.zero_add, ld1, hlit, freshT_eq, a1, a2, ld1', hlit2, hget, hcs, b1, hb2s, eq_true hdot, c1, ld6, add_n, hf, W_seq, W_region, W_cond, W_block, W_skip, W_label, W_exit, W_goto, W_ret, WO_cons, WO_consG, WO_nil, wantedA_eq, wantB, evOp, ev_tmp, ev_const, ev_fn, WN_some, WN_none, updO_some, updO_none, upd_eq,
 ↓reduceIte, Nat.reduceEqDiff, List.nil_append, List.cons_append, List.append_nil, List.map_cons, List.map_nil, env0_zero, env0_succ, env0_nil, Option.map_some, Option.map_none, seqQ_normal, seqQ_ret, seqQ_exit, seqQ_goto, blockQ_normal, blockQ_ret, blockQ_exit, blockQ_goto, condW_bool, loopQ_ret, loopQ_exit, loopQ_goto, endQ_ret, endQ_normal,
 lss_i, leq_i, gtr_i, geq_i, eql_i, neq_i, eql_8, neq_8, lss_8, leq_8, gtr_8, geq_8, eql_s, neq_s, eql_b, neq_b, not_b, by_bys, by_nils, load_cp1, beq_true, beq_false, Bool.not_eq_true', decide_eq_true_eq, decide_eq_false_iff_not, decide_true, decide_false,
 Int.toNat_natCast, Int.ofNat_lt, Int.ofNat_le, Int.natCast_inj, Bool.false_eq_true, Bool.true_eq_false, extPV, List.getElem?_cons_zero, List.getElem?_cons_succ, nilckPV, Int.reduceToNat, Int.reduceLE, true_and, and_true, reduceCtorEq, or_false, false_or, or_true, Option.some.injEq, exists_eq_left', Bool.not_true, Bool.not_false, ne_eq, Int.reduceEq, not_true_eq_false, not_false_eq_true, Int.reduceLT, UInt8.reduceLT, UInt8.reduceLE, UInt8.reduceToNat]
        subst hput
        exact ⟨rfl, rfl, rfl, _, _, c2⟩
      · obtain ⟨s4, c1, c2⟩ := b2.stB (R' := { Ri with line := [], ended := false }) (k := 6) (x := .bool false) rfl (by omega) rfl rfl rfl rfl rfl rfl
        have ld6 := c2.ld6
        simp only at ld6
        have hl4 : s4.toks = s3.toks := by
          simp only [storePV, b2.get] at c1
          split at c1
          · simp only [Option.some.injEq] at c1; rw [← c1]
          · cases c1
        have hst4 : RdS s4 s4 b .nils vt { Ri with line := [], ended := false } .nils vt := RdS.start c2.get c2.ll c2.lt c2.ne (Nat.min_le_left _ _)
        have hlen := congrArg List.length hline
        simp at hlen
        obtain ⟨s5, vt5, d1, d2, d3⟩ := take_spec hst4 hlby (by rw [hl4]; exact hlt3) (by omega) (by simp only; omega) (by simp only; omega) (by simp only; omega)
        have hbyte : Ri.byte c = (({ Ri with line := [], ended := false } : Rd).take line, false) := by
          unfold Rd.byte; rw [if_pos hsuf, ← hline, if_neg hdot]
        have hbl := byte_len (R := Ri) (c := c)
        simp (maxSteps := 1000000) (disch := omega) only [h0, h1, h19, h20, h21, hlt, iaddr_by hx, ← hc, faddrPV, Nat.zero_add, ld1, hlit, freshT_eq, a1, a2, ld1', hlit2, hget, hcs, b1, hb2s, hdot, c1, ld6, add_n, d1, W_seq, W_region, W_cond, W_block, W_skip, W_label, W_exit, W_goto, W_ret, WO_cons, WO_consG, WO_nil, wantedA_eq, wantB, evOp, ev_tmp, ev_const, ev_fn, WN_some, WN_none, updO_some, updO_none, upd_eq,
 ↓reduceIte, Nat.reduceEqDiff, List.nil_append, List.cons_append, List.append_nil, List.map_cons, List.map_nil, env0_zero, env0_succ, env0_nil, Option.map_some, Option.map_none, seqQ_normal, seqQ_ret, seqQ_exit, seqQ_goto, blockQ_normal, blockQ_ret, blockQ_exit, blockQ_goto, condW_bool, loopQ_ret, loopQ_exit, loopQ_goto, endQ_ret, endQ_normal,
 lss_i, leq_i, gtr_i, geq_i, eql_i, neq_i, eql_8, neq_8, lss_8, leq_8, gtr_8, geq_8, eql_s, neq_s, eql_b, neq_b, not_b, by_bys, by_nils, load_cp1, beq_true, beq_false, Bool.not_eq_true', decide_eq_true_eq, decide_eq_false_iff_not, decide_true, decide_false,
 Int.toNat_natCast, Int.ofNat_lt, Int.ofNat_le, Int.natCast_inj, Bool.false_eq_true, Bool.true_eq_false, extPV, List.getElem?_cons_zero, List.getElem?_cons_succ, nilckPV, Int.reduceToNat, Int.reduceLE, true_and, and_true, reduceCtorEq, or_false, false_or, or_true, Option.some.injEq, exists_eq_left', Bool.not_true, Bool.not_false, ne_eq, Int.reduceEq, not_true_eq_false, not_false_eq_true, Int.reduceLT, UInt8.reduceLT, UInt8.reduceLE, UInt8.reduceToNat]
        refine loopQ_intro (m := l.length - (i + 1)) (by omega) ?_
        rw [hI]
        rw [hbyte] at hbl
        simp only at hbl
        refine ⟨i + 1, _, _, _, rfl, by omega, h0, h1, h19, h20, rfl, c2.trans d2 d3, rfl, ?_, by omega, ?_⟩
        · rw [take_most]; exact hmi
        · rw [hri, hdrop, Rd.put, hbyte]; simp; omega
    · simp only [if_neg hsuf] at hcs
      have hbyte : Ri.byte c = ({ Ri with line := Ri.line ++ [c] }, false) := by
        unfold Rd.byte; rw [if_neg hsuf]
      simp (maxSteps := 1000000) (disch := omega) only [h0, h1, h19, h20, h21, hlt, iaddr_by hx, ← hc, faddrPV, Nat.zero_add, ld1, hlit, freshT_eq, a1, a2, ld1', hlit2, hget, hcs, add_n, W_seq, W_region, W_cond, W_block, W_skip, W_label, W_exit, W_goto, W_ret, WO_cons, WO_consG, WO_nil, wantedA_eq, wantB, evOp, ev_tmp, ev_const, ev_fn, WN_some, WN_none, updO_some, updO_none, upd_eq,
 ↓reduceIte, Nat.reduceEqDiff, List.nil_append, List.cons_append, List.append_nil, List.map_cons, List.map_nil, env0_zero, env0_succ, env0_nil, Option.map_some, Option.map_none, seqQ_normal, seqQ_ret, seqQ_exit, seqQ_goto, blockQ_normal, blockQ_ret, blockQ_exit, blockQ_goto, condW_bool, loopQ_ret, loopQ_exit, loopQ_goto, endQ_ret, endQ_normal,
 lss_i, leq_i, gtr_i, geq_i, eql_i, neq_i, eql_8, neq_8, lss_8, leq_8, gtr_8, geq_8, eql_s, neq_s, eql_b, neq_b, not_b, by_bys, by_nils, load_cp1, beq_true, beq_false, Bool.not_eq_true', decide_eq_true_eq, decide_eq_false_iff_not, decide_true, decide_false,
 Int.toNat_natCast, Int.ofNat_lt, Int.ofNat_le, Int.natCast_inj, Bool.false_eq_true, Bool.true_eq_false, extPV, List.getElem?_cons_zero, List.getElem?_cons_succ, nilckPV, Int.reduceToNat, Int.reduceLE, true_and, and_true, reduceCtorEq, or_false, false_or, or_true, Option.some.injEq, exists_eq_left', Bool.not_true, Bool.not_false, ne_eq, Int.reduceEq, not_true_eq_false, not_false_eq_true, Int.reduceLT, UInt8.reduceLT, UInt8.reduceLE, UInt8.reduceToNat]
      refine loopQ_intro (m := l.length - (i + 1)) (by omega) ?_
      rw [hI]
      refine ⟨i + 1, _, _, _, rfl, by omega, h0, h1, h19, h20, rfl, hs2, hei, hmi, (by show Ri.text.length + (Ri.line ++ [c]).length ≤ _; rw [List.length_append, List.length_singleton]; omega), ?_⟩
      rw [hri, hdrop, Rd.put, hbyte]; simp; omega
  · obtain rfl : i = l.length := by omega
    have hp : res = (Ri, l.length, false) := by rw [hri, List.drop_length, Rd.put]; simp
    subst hp
    simp (maxSteps := 1000000) (disch := omega) only [h0, h1, h19, h20, h21, hlt, len_by hx, W_seq, W_region, W_cond, W_block, W_skip, W_label, W_exit, W_goto, W_ret, WO_cons, WO_consG, WO_nil, wantedA_eq, wantB, evOp, ev_tmp, ev_const, ev_fn, WN_some, WN_none, updO_some, updO_none, upd_eq,
 ↓reduceIte, Nat.reduceEqDiff, List.nil_append, List.cons_append, List.append_nil, List.map_cons, List.map_nil, env0_zero, env0_succ, env0_nil, Option.map_some, Option.map_none, seqQ_normal, seqQ_ret, seqQ_exit, seqQ_goto, blockQ_normal, blockQ_ret, blockQ_exit, blockQ_goto, condW_bool, loopQ_ret, loopQ_exit, loopQ_goto, endQ_ret, endQ_normal,
 lss_i, leq_i, gtr_i, geq_i, eql_i, neq_i, eql_8, neq_8, lss_8, leq_8, gtr_8, geq_8, eql_s, neq_s, eql_b, neq_b, not_b, by_bys, by_nils, load_cp1, beq_true, beq_false, Bool.not_eq_true', decide_eq_true_eq, decide_eq_false_iff_not, decide_true, decide_false,
 Int.toNat_natCast, Int.ofNat_lt, Int.ofNat_le, Int.natCast_inj, Bool.false_eq_true, Bool.true_eq_false, extPV, List.getElem?_cons_zero, List.getElem?_cons_succ, nilckPV, Int.reduceToNat, Int.reduceLE, true_and, and_true, reduceCtorEq, or_false, false_or, or_true, Option.some.injEq, exists_eq_left', Bool.not_true, Bool.not_false, ne_eq, Int.reduceEq, not_true_eq_false, not_false_eq_true, Int.reduceLT, UInt8.reduceLT, UInt8.reduceLE, UInt8.reduceToNat]
    exact ⟨_, _, hs⟩

theorem Put_nil {x : PV} : call prog (.fn 10 []) [.nilp, x] st = some (.tup [.int .i64 0, .bool false, .int .i64 7], st) := by
  refine call_of_W prog_10 ?_
  unfold F_P_dots_Reader_Put; dsimp only
  have hn : binPV .eql .ptr .nilp .nilp = some (.bool true) := rfl
  simp (maxSteps := 1000000) (disch := omega) only [hn, W_seq, W_region, W_cond, W_block, W_skip, W_label, W_exit, W_goto, W_ret, WO_cons, WO_consG, WO_nil, wantedA_eq, wantB, evOp, ev_tmp, ev_const, ev_fn, WN_some, WN_none, updO_some, updO_none, upd_eq,
 ↓reduceIte, Nat.reduceEqDiff, List.nil_append, List.cons_append, List.append_nil, List.map_cons, List.map_nil, env0_zero, env0_succ, env0_nil, Option.map_some, Option.map_none, seqQ_normal, seqQ_ret, seqQ_exit, seqQ_goto, blockQ_normal, blockQ_ret, blockQ_exit, blockQ_goto, condW_bool, loopQ_ret, loopQ_exit, loopQ_goto, endQ_ret, endQ_normal,
 lss_i, leq_i, gtr_i, geq_i, eql_i, neq_i, eql_8, neq_8, lss_8, leq_8, gtr_8, geq_8, eql_s, neq_s, eql_b, neq_b, not_b, by_bys, by_nils, load_cp1, beq_true, beq_false, Bool.not_eq_true', decide_eq_true_eq, decide_eq_false_iff_not, decide_true, decide_false,
 Int.toNat_natCast, Int.ofNat_lt, Int.ofNat_le, Int.natCast_inj, Bool.false_eq_true, Bool.true_eq_false, extPV, List.getElem?_cons_zero, List.getElem?_cons_succ, nilckPV, Int.reduceToNat, Int.reduceLE, true_and, and_true, reduceCtorEq, or_false, false_or, or_true, Option.some.injEq, exists_eq_left', Bool.not_true, Bool.not_false, ne_eq, Int.reduceEq, not_true_eq_false, not_false_eq_true, Int.reduceLT, UInt8.reduceLT, UInt8.reduceLE, UInt8.reduceToNat]
  exact end3 rfl rfl rfl Kp_int Kp_bool Kp_int
end Go.Ab

/-
  Plain laws on frames: the lines of what is stuffed.
-/
namespace Go.Ab
set_option linter.unusedVariables false
set_option linter.unusedSimpArgs false

/-- No 13 and no 10. -/
def NoCrlf (m : List UInt8) : Prop := ∀ c ∈ m, crlf c = false

theorem bareAt_none {m : List UInt8} (h : ¬ 0 ≤ bareAt m) : NoCrlf m := by
  intro c hc
  unfold bareAt at h
  cases hf : m.findIdx? crlf with
  | some i => simp [hf] at h
  | none =>
    rw [List.findIdx?_eq_none_iff] at hf
    exact hf c hc

theorem segs_line : ∀ (m acc rest : List UInt8), NoCrlf m → segs (m ++ 13 :: 10 :: rest) acc = (acc ++ m, true) :: segs rest [] := by
  intro m
  induction m with
  | nil => intro acc rest _; simp [segs]
  | cons c m ih =>
    intro acc rest h
    have hc : ¬ c = 13 := fun he => by have := h c (by simp); rw [he] at this; simp [crlf] at this
    have ih' := ih (acc ++ [c]) rest (fun x hx => h x (by simp [hx]))
    cases m with
    | nil =>
      simp only [List.cons_append, List.nil_append] at ih' ⊢
      rw [segs, if_neg (fun hh => hc hh.1), ih']; simp
    | cons d r =>
      simp only [List.cons_append] at ih' ⊢
      rw [segs, if_neg (fun hh => hc hh.1), ih']; simp

/-- A line of a frame. -/
def dotted (q : Nat × List UInt8 × Bool) : List UInt8 := (if q.2.1.head? = some 46 then [46] else []) ++ q.2.1
theorem dotted_no {q : Nat × List UInt8 × Bool} (h : NoCrlf q.2.1) : NoCrlf (dotted q) := by
  intro c hc
  unfold dotted at hc
  rw [List.mem_append] at hc
  rcases hc with hc | hc
  · split at hc
    · simp at hc; subst hc; decide
    · simp at hc
  · exact h c hc

theorem segs_stuff : ∀ (r : List (Nat × List UInt8 × Bool)), (∀ q ∈ r, NoCrlf q.2.1) → segs (stuffLines r ++ [46, 13, 10]) [] = r.map (fun q => (dotted q, true)) ++ [([46], true)] := by
  intro r
  induction r with
  | nil => intro _; simp [stuffLines, segs]
  | cons q r ih =>
    intro h
    have h1 : stuffLines (q :: r) ++ [46, 13, 10] = dotted q ++ 13 :: 10 :: (stuffLines r ++ [46, 13, 10]) := by
      simp [stuffLines, stuffLine, dotted]
    rw [h1, segs_line _ _ _ (dotted_no (h q (by simp))), ih (fun q' hq' => h q' (by simp [hq']))]
    simp

/-- The lines of a right text have no 13, no 10. -/
theorem right_no {n : Nat} {r : List (Nat × List UInt8 × Bool)} (h : (rightGo n r).2 = 0) : ∀ q ∈ r, NoCrlf q.2.1 := by
  intro q hq
  induction r with
  | nil => simp at hq
  | cons q' r ih =>
    simp only [rightGo] at h
    by_cases hf : (faultOf n q').2 = 0
    · rw [if_neg (by simpa using hf)] at h
      rcases List.mem_cons.1 hq with rfl | hq
      · refine bareAt_none (fun hb => ?_)
        simp [faultOf, hb] at hf
      · exact ih h hq
    · rw [if_pos (by simpa using hf)] at h
      exact absurd h hf
end Go.Ab

/-
  Plain law: what a reader makes of bytes, by pieces and by lines.
-/
namespace Go.Ab
set_option linter.unusedVariables false
set_option linter.unusedSimpArgs false
variable {R : Rd}

/-- Bytes in two pieces. -/
theorem put_append : ∀ (l m : List UInt8) (R : Rd), R.put (l ++ m) = if (R.put l).2.2 then R.put l else (((R.put l).1.put m).1, l.length + ((R.put l).1.put m).2.1, ((R.put l).1.put m).2.2) := by
  intro l
  induction l with
  | nil => intro m R; simp [Rd.put]
  | cons c r ih =>
    intro m R
    simp only [List.cons_append, Rd.put]
    by_cases hb : (R.byte c).2 = true
    · simp [hb]
    · simp only [hb, if_false, ih]
      by_cases hp : ((R.byte c).1.put r).2.2 = true
      · simp [hp]
      · simp [hp]; omega
theorem put_count : ∀ (l : List UInt8) (R : Rd), (R.put l).2.1 ≤ l.length ∧ ((R.put l).2.2 = false → (R.put l).2.1 = l.length) := by
  intro l
  induction l with
  | nil => intro R; simp [Rd.put]
  | cons c r ih =>
    intro R
    have := ih (R.byte c).1
    simp only [Rd.put]
    split
    · simp
    · simp only [List.length_cons]
      exact ⟨by omega, fun h => by rw [this.2 h]⟩
theorem put_most : ∀ (l : List UInt8) (R : Rd), (R.put l).1.most = R.most := by
  intro l
  induction l with
  | nil => intro R; rfl
  | cons c r ih =>
    intro R
    simp only [Rd.put]
    split
    · exact byte_most
    · simp only [ih]; exact byte_most
theorem put_ended : ∀ (l : List UInt8) (R : Rd), R.ended = false → (R.put l).2.2 = false → (R.put l).1.ended = false := by
  intro l
  induction l with
  | nil => intro R h _; exact h
  | cons c r ih =>
    intro R h h2
    simp only [Rd.put] at h2 ⊢
    by_cases hb : (R.byte c).2 = true
    · simp [hb] at h2
    · simp only [hb, if_false] at h2 ⊢
      exact ih _ (byte_ended h (by simpa using hb)) h2
theorem put_len : ∀ (l : List UInt8) (R : Rd), (R.put l).1.text.length + (R.put l).1.line.length ≤ R.text.length + R.line.length + l.length := by
  intro l
  induction l with
  | nil => intro R; simp [Rd.put]
  | cons c r ih =>
    intro R
    have h1 := byte_len (R := R) (c := c)
    simp only [Rd.put, List.length_cons]
    split
    · simp only; omega
    · have := ih (R.byte c).1
      simp only; omega

def Rd.norm (R : Rd) : Rd := { R with line := [], ended := false }
theorem norm_take {b : List UInt8} : (R.take b).norm = R.norm.take b := rfl
theorem norm_norm : R.norm.norm = R.norm := rfl

/-- The lines of bytes, taken one by one; where the frame is over. -/
def runSegs : Rd → Nat → List (List UInt8 × Bool) → Rd × Option Nat
  | R, _, [] => (R, none)
  | R, a, (b, w) :: r => if w = true then (if b = [46] then (R, some (a + 3)) else runSegs (R.take b) (a + b.length + 2) r) else (R, none)

theorem not_suf {acc : List UInt8} {c : UInt8} (h : ¬ (acc.getLast? = some 13 ∧ c = 10)) : ¬ [13, 10] <:+ acc ++ [c] := by
  rintro ⟨t, ht⟩
  have h2 : (t ++ [13]) ++ [10] = acc ++ [c] := by rw [← ht]; simp
  obtain ⟨h3, h4⟩ := List.append_inj' h2 rfl
  apply h
  rw [← h3]
  simp at h4
  simp [h4]

theorem put_segs : ∀ (n : Nat) (l : List UInt8), l.length = n → ∀ (R : Rd) (a : Nat), ¬ (R.line.getLast? = some 13 ∧ l.head? = some 10) → 
    (R.put l).1.norm = (runSegs R.norm a (segs l R.line)).1 ∧ (∀ p, (runSegs R.norm a (segs l R.line)).2 = some p → (R.put l).2.2 = true ∧ (R.put l).2.1 + R.line.length + a = p) ∧ ((runSegs R.norm a (segs l R.line)).2 = none → (R.put l).2.2 = false) := by
  intro n
  induction n using Nat.strongRecOn with
  | _ n ih =>
    intro l hn R a hc
    match l, hn with
    | [], _ =>
      simp only [Rd.put, segs]
      split
      · simp [runSegs]
      · simp [runSegs]
    | [c], hn =>
      have hs : ¬ [13, 10] <:+ R.line ++ [c] := not_suf (by simpa using hc)
      have hbyte : R.byte c = ({ R with line := R.line ++ [c] }, false) := by unfold Rd.byte; rw [if_neg hs]
      simp [Rd.put, hbyte, segs, runSegs]
      rfl
    | c :: d :: r, hn =>
      have hs : ¬ [13, 10] <:+ R.line ++ [c] := not_suf (by simpa using hc)
      have hbyte : R.byte c = ({ R with line := R.line ++ [c] }, false) := by unfold Rd.byte; rw [if_neg hs]
      rw [Rd.put, hbyte]
      simp only [Bool.false_eq_true, if_false]
      by_cases hcd : c = 13 ∧ d = 10
      · obtain ⟨rfl, rfl⟩ := hcd
        have hs2 : [13, 10] <:+ (R.line ++ [13]) ++ [10] := ⟨R.line, by simp⟩
        have hline : ((R.line ++ [13]) ++ [10]).take (((R.line ++ [13]) ++ [10]).length - 2) = R.line := by
          have : (R.line ++ [13]) ++ [10] = R.line ++ [13, 10] := by simp
          rw [this]; simp
        simp only [segs, and_self, if_true, runSegs]
        rw [Rd.put]
        by_cases hdot : R.line = [46]
        · have hb2 : ({ R with line := R.line ++ [13] } : Rd).byte 10 = ({ R with line := [], ended := true }, true) := by
            unfold Rd.byte; rw [if_pos hs2, hline, if_pos hdot]
          simp only [hb2, if_true, hdot]
          refine ⟨rfl, fun p hp => ?_, fun h => by cases h⟩
          simp only [Option.some.injEq] at hp
          subst hp
          refine ⟨rfl, ?_⟩
          show 1 + 1 + List.length [46] + a = a + 3
          simp; omega
        · have hb2 : ({ R with line := R.line ++ [13] } : Rd).byte 10 = ((({ R with line := [], ended := false } : Rd)).take R.line, false) := by
            unfold Rd.byte; rw [if_pos hs2, hline, if_neg hdot]
          simp only [hb2, Bool.false_eq_true, if_false, hdot]
          have hi := ih r.length (by simp at hn; omega) r rfl (R.norm.take R.line) (a + R.line.length + 2) (by simp [Rd.take, Rd.norm])
          have hnn : (R.norm.take R.line).norm = R.norm.take R.line := rfl
          rw [hnn] at hi
          obtain ⟨h1, h2, h3⟩ := hi
          refine ⟨h1, fun p hp => ?_, h3⟩
          obtain ⟨k1, k2⟩ := h2 p hp
          refine ⟨k1, ?_⟩
          have : ({ R with line := [], ended := false } : Rd) = R.norm := rfl
          rw [this]
          have hll : (R.norm.take R.line).line = [] := rfl
          rw [hll] at k2
          simp at k2
          omega
      · simp only [segs, hcd, if_false]
        have hi := ih (d :: r).length (by simp at hn ⊢; omega) (d :: r) rfl { R with line := R.line ++ [c] } a (by
          simp only [List.getLast?_append, List.getLast?_singleton, List.head?_cons]
          simpa using hcd)
        obtain ⟨h1, h2, h3⟩ := hi
        refine ⟨h1, fun p hp => ?_, h3⟩
        obtain ⟨k1, k2⟩ := h2 p hp
        refine ⟨k1, ?_⟩
        simp at k2
        omega
end Go.Ab

/-
  alive, in whatever state; how a law's call ends.
-/
namespace Go.Ab
set_option linter.unusedVariables false
set_option linter.unusedSimpArgs false
variable {st : St} {e : Env}

/-- A law's call: its one result is true. -/
theorem law_of_W {f k : Nat} {args : List PV} {fn : ACFn} (hA : prog f = some (.code fn)) (hr : fn.results = [.tmp k])
    (h : W prog fn.body (env0 args) { st with low := st.boxes.length } (fun x e _ => (x = .normal ∨ x = .ret) ∧ e k = .bool true)) : ∃ s', call prog (.fn f []) args st = some (.bool true, s') := by
  obtain ⟨⟨x, e1, st1⟩, h1, h2, h3⟩ := h
  simp only at h2 h3
  have hl : ∃ s', leave st st1 (.bool true) = (.bool true, s') := by
    unfold leave
    simp only [PV.inB, if_true]
    split
    · exact ⟨_, rfl⟩
    · exact ⟨_, rfl⟩
  obtain ⟨s', hl⟩ := hl
  refine ⟨s', ?_⟩
  have hres : resOf e1 st1 fn.results = some (.bool true) := by rw [hr]; simp [resOf, rvAll, rv1, h3, notTup, packRes]
  refine call_of_W hA ⟨(x, e1, st1), by rw [List.append_nil]; exact h1, h2, .bool true, hres, hl⟩

/-- What a plain call leaves: all as it was. -/
theorem leave_bool {s : St} {c : Bool} (hb : s.boxes.take st.boxes.length = st.boxes) (hl : s.loops = st.loops) (hw : st.boxes.length ≤ s.low) (ht : s.toks.take st.toks.length = st.toks) : leave st s (.bool c) = (.bool c, st) := by
  simp [leave, PV.inB, hw, keepRes, keepVal, keepLeaf, hb, ht, hl]

theorem RdS.toks {s : St} {b : Nat} {vl vt : PV} {R : Rd} (h : RdS st s b .nils .nils R vl vt) : s.toks.take st.toks.length = st.toks := by
  apply List.ext_getElem?
  intro i
  rw [List.getElem?_take]
  split
  · rename_i hi
    exact h.tk i hi (by simp [tokOf]) (by simp [tokOf])
  · rename_i hi
    rw [List.getElem?_eq_none (by omega)]

/-- A new reader. -/
theorem RdS.new {m : Int} {ts : List Bool} {B : List (List PV)} {L : List LoopS} {lo : Nat} : RdS ⟨B ++ [rdV m .nils .nils false false false false], ts, L, lo⟩ ⟨B ++ [rdV m .nils .nils false false false false], ts, L, lo⟩ B.length .nils .nils ⟨m, [], [], false, false, false, false⟩ .nils .nils :=
  RdS.start (R := ⟨m, [], [], false, false, false, false⟩) (by simp [Rd.vals]) (.inl ⟨rfl, rfl⟩) (.inl ⟨rfl, rfl⟩) (fun i h => by cases h) (Nat.min_le_left _ _)

theorem Put_ended {x : PV} {b : Nat} {vl vt : PV} {R : Rd} (h : st.boxes[b]? = some (R.vals vl vt)) (he : R.ended = true) : call prog (.fn 10 []) [.ptr b 0, x] st = some (.tup [.int .i64 0, .bool false, .int .i64 7], st) := by
  refine call_of_W prog_10 ?_
  unfold F_P_dots_Reader_Put; dsimp only
  have hn : binPV .eql .ptr (.ptr b 0) .nilp = some (.bool false) := rfl
  have ld : loadPV { boxes := st.boxes, toks := st.toks, loops := st.loops, low := st.boxes.length } false 1 (.ptr b 6) = some (.bool true) := by simp [loadPV, h, Rd.vals, rdV, readCells, he]
  simp (maxSteps := 1000000) (disch := omega) only [hn, faddrPV, Nat.zero_add, ld, W_seq, W_region, W_cond, W_block, W_skip, W_label, W_exit, W_goto, W_ret, WO_cons, WO_consG, WO_nil, wantedA_eq, wantB, evOp, ev_tmp, ev_const, ev_fn, WN_some, WN_none, updO_some, updO_none, upd_eq,
 ↓reduceIte, Nat.reduceEqDiff, List.nil_append, List.cons_append, List.append_nil, List.map_cons, List.map_nil, env0_zero, env0_succ, env0_nil, Option.map_some, Option.map_none, seqQ_normal, seqQ_ret, seqQ_exit, seqQ_goto, blockQ_normal, blockQ_ret, blockQ_exit, blockQ_goto, condW_bool, loopQ_ret, loopQ_exit, loopQ_goto, endQ_ret, endQ_normal,
 lss_i, leq_i, gtr_i, geq_i, eql_i, neq_i, eql_8, neq_8, lss_8, leq_8, gtr_8, geq_8, eql_s, neq_s, eql_b, neq_b, not_b, by_bys, by_nils, load_cp1, beq_true, beq_false, Bool.not_eq_true', decide_eq_true_eq, decide_eq_false_iff_not, decide_true, decide_false,
 Int.toNat_natCast, Int.ofNat_lt, Int.ofNat_le, Int.natCast_inj, Bool.false_eq_true, Bool.true_eq_false, extPV, List.getElem?_cons_zero, List.getElem?_cons_succ, nilckPV, Int.reduceToNat, Int.reduceLE, true_and, and_true, reduceCtorEq, or_false, false_or, or_true, Option.some.injEq, exists_eq_left', Bool.not_true, Bool.not_false, ne_eq, Int.reduceEq, not_true_eq_false, not_false_eq_true, Int.reduceLT, UInt8.reduceLT, UInt8.reduceLE, UInt8.reduceToNat]
  exact end3 rfl rfl rfl Kp_int Kp_bool Kp_int

theorem alive5 : call prog (.fn 2 []) [] st = some (.bool true, st) := by
  refine call_of_W prog_2 ?_
  unfold F_posthornlaw05_alive; dsimp only
  have hl1 : lit8Fill (List.replicate 4 0) [(0, .b8 46), (1, .b8 97), (2, .b8 13), (3, .b8 10)] = some [46, 97, 13, 10] := rfl
  have hl2 : lit8Fill (List.replicate 4 0) [(0, .b8 46), (1, .b8 13), (2, .b8 10), (3, .b8 120)] = some [46, 13, 10, 120] := rfl
  obtain ⟨s0, hs0⟩ : ∃ s0 : St, s0 = ⟨st.boxes, st.toks, st.loops, st.boxes.length⟩ := ⟨_, rfl⟩
  have hst := dStuff_spec (st := s0.tok1) (x := .bys (.own s0.toks.length) [46, 97, 13, 10]) rfl (by simp) (by simp [PV.tokLt, Tok.lt, St.tok1])
  have hr : (rightOf [46, 97, 13, 10]).2 = 0 := by decide
  have hso : stuffOf [46, 97, 13, 10] = [46, 46, 97, 13, 10, 46, 13, 10] := by decide
  simp only [hr, ne_eq, not_true_eq_false, if_false, hso] at hst
  have hnew := New_spec (st := s0.tok1.tok1) (m := 10)
  have hnb : s0.tok1.tok1.boxes.length = st.boxes.length := by rw [hs0]; rfl
  generalize hs1 : ({ boxes := s0.tok1.tok1.boxes ++ [rdV (max 10 0) .nils .nils false false false false], toks := s0.tok1.tok1.toks, loops := s0.tok1.tok1.loops, low := min s0.tok1.tok1.low s0.tok1.tok1.boxes.length } : St) = s1 at hnew
  have hR : RdS s1.tok1 s1.tok1 st.boxes.length .nils .nils ⟨10, [], [], false, false, false, false⟩ .nils .nils := by
    rw [← hs1, ← hnb]
    exact RdS.new
  obtain ⟨s2, vl, vt, p1, p2, p3⟩ := Put_spec (x := .bys (.own s1.toks.length) [46, 13, 10, 120]) hR rfl rfl (by simp) (by simp) (by simp)
  have hput : (({ most := 10, line := [], text := [], bare := false, long := false, fl := false, ended := false } : Rd).put [46, 13, 10, 120]) = ({ most := 10, line := [], text := [], bare := false, long := false, fl := false, ended := true }, 3, true) := rfl
  rw [hput] at p1 p2
  have he := Put_ended (x := .nils) p2.get rfl
  simp only [errOf, faultC, Bool.false_eq_true, if_false, if_true] at p1
  rw [show ((3 : Nat) : Int) = 3 from rfl] at p1
  have hget : (St.tok1 s0).toks[s0.toks.length]? = some true := by simp [St.tok1]
  have hget2 : (St.tok1 s1).toks[s1.toks.length]? = some true := by simp [St.tok1]
  rw [← hs0]
  rw [hnb] at hnew
  simp (maxSteps := 1000000) (disch := omega) only [hl1, hl2, freshT_eq, hget, hget2, hst, hnew, p1, he, b2s, W_seq, W_region, W_cond, W_block, W_skip, W_label, W_exit, W_goto, W_ret, WO_cons, WO_consG, WO_nil, wantedA_eq, wantB, evOp, ev_tmp, ev_const, ev_fn, WN_some, WN_none, updO_some, updO_none, upd_eq,
 ↓reduceIte, Nat.reduceEqDiff, List.nil_append, List.cons_append, List.append_nil, List.map_cons, List.map_nil, env0_zero, env0_succ, env0_nil, Option.map_some, Option.map_none, seqQ_normal, seqQ_ret, seqQ_exit, seqQ_goto, blockQ_normal, blockQ_ret, blockQ_exit, blockQ_goto, condW_bool, loopQ_ret, loopQ_exit, loopQ_goto, endQ_ret, endQ_normal,
 lss_i, leq_i, gtr_i, geq_i, eql_i, neq_i, eql_8, neq_8, lss_8, leq_8, gtr_8, geq_8, eql_s, neq_s, eql_b, neq_b, not_b, by_bys, by_nils, load_cp1, beq_true, beq_false, Bool.not_eq_true', decide_eq_true_eq, decide_eq_false_iff_not, decide_true, decide_false,
 Int.toNat_natCast, Int.ofNat_lt, Int.ofNat_le, Int.natCast_inj, Bool.false_eq_true, Bool.true_eq_false, extPV, List.getElem?_cons_zero, List.getElem?_cons_succ, nilckPV, Int.reduceToNat, Int.reduceLE, true_and, and_true, reduceCtorEq, or_false, false_or, or_true, Option.some.injEq, exists_eq_left', Bool.not_true, Bool.not_false, ne_eq, Int.reduceEq, not_true_eq_false, not_false_eq_true, Int.reduceLT, UInt8.reduceLT, UInt8.reduceLE, UInt8.reduceToNat]
  refine ⟨.bool true, ?_, ?_⟩
  · simp [resOf, rvAll, rv1, upd_eq, packRes, notTup]
  · have htk := p2.toks
    have ht1 : s1.tok1.toks = st.toks ++ [true, true, true] := by rw [← hs1, hs0]; simp [St.tok1]
    refine leave_bool ?_ ?_ ?_ ?_
    · rw [p2.bx, ← hs1, hs0]; simp [St.tok1]
    · rw [p2.lp, ← hs1, hs0]; rfl
    · have := p2.lb
      rw [← hs1, hs0] at this
      simp [St.tok1] at this
      exact this
    · rw [ht1] at htk
      have := congrArg (List.take st.toks.length) htk
      rw [List.take_take] at this
      simpa using this
end Go.Ab

/-
  The law DotsCuts.
-/
namespace Go.Ab
open Go
set_option linter.unusedVariables false
set_option linter.unusedSimpArgs false
variable {st : St}

theorem Text_any {b : Nat} {vl vt : PV} {R : Rd} (h : st.boxes[b]? = some (R.vals vl vt)) (ht : vt.by = some R.text) (hl : R.text.length ≤ room) :
    ∃ v s', call prog (.fn 12 []) [.ptr b 0] st = some (v, s') ∧ v.by = some (if errOf R = 0 then R.text else []) ∧ s'.boxes = st.boxes := by
  have hs := Text_spec h ht hl
  by_cases he : errOf R = 0
  · have he' : faultC R.bare R.long R.fl = 0 := he
    simp only [he', ne_eq, not_true_eq_false, if_false] at hs
    refine ⟨_, _, hs, ?_, ?_⟩
    · rw [if_pos he]
      rcases by_cases' ht with ⟨rfl, h2⟩ | ⟨t, rfl⟩
      · rw [h2]; rfl
      · rfl
    · unfold cloneS; split <;> rfl
  · have he' : ¬ faultC R.bare R.long R.fl = 0 := he
    simp only [he', ne_eq, not_false_eq_true, if_true] at hs
    exact ⟨_, _, hs, by rw [if_neg he]; rfl, rfl⟩

/-- A reader that has just been made. -/
def rd0 (m : Int) : Rd := ⟨m, [], [], false, false, false, false⟩

theorem put_bounds {l : List UInt8} {m : Int} : ((rd0 m).put l).1.text.length ≤ l.length := by
  have := put_len l (rd0 m)
  simp [rd0] at this ⊢
  omega

theorem rds0 {s : St} {b : Nat} {m : Int} (h : s.boxes[b]? = some ((rd0 m).vals .nils .nils)) : RdS s s b .nils .nils (rd0 m) .nils .nils :=
  RdS.start h (.inl ⟨rfl, rfl⟩) (.inl ⟨rfl, rfl⟩) (fun i h => by cases h) (Nat.min_le_left _ _)

set_option maxHeartbeats 4000000 in
theorem law_DotsCuts {m c : Int} {x : PV} {l : List UInt8} (hx : x.by = some l) (hxt : x.tokLt 0 = true) (hm : m < 9223372036854775808) : ∃ s', call prog (.fn 17 []) [.int .i64 m, x, .int .i64 c] ⟨[], [], [], 0⟩ = some (.bool true, s') := by
  refine law_of_W prog_17 rfl ?_
  unfold F_posthornlaw05_DotsCuts; dsimp only
  by_cases hl : 4000 < l.length
  · have hl' : (4000 : Int) < (l.length : Int) := by omega
    simp (maxSteps := 1000000) (disch := omega) only [len_by hx, hl', List.length_nil, alive5, W_seq, W_region, W_cond, W_block, W_skip, W_label, W_exit, W_goto, W_ret, WO_cons, WO_consG, WO_nil, wantedA_eq, wantB, evOp, ev_tmp, ev_const, ev_fn, WN_some, WN_none, updO_some, updO_none, upd_eq,
 ↓reduceIte, Nat.reduceEqDiff, List.nil_append, List.cons_append, List.append_nil, List.map_cons, List.map_nil, env0_zero, env0_succ, env0_nil, Option.map_some, Option.map_none, seqQ_normal, seqQ_ret, seqQ_exit, seqQ_goto, blockQ_normal, blockQ_ret, blockQ_exit, blockQ_goto, condW_bool, loopQ_ret, loopQ_exit, loopQ_goto, endQ_ret, endQ_normal,
 lss_i, leq_i, gtr_i, geq_i, eql_i, neq_i, eql_8, neq_8, lss_8, leq_8, gtr_8, geq_8, eql_s, neq_s, eql_b, neq_b, not_b, by_bys, by_nils, load_cp1, beq_true, beq_false, Bool.not_eq_true', decide_eq_true_eq, decide_eq_false_iff_not, decide_true, decide_false,
 Int.toNat_natCast, Int.ofNat_lt, Int.ofNat_le, Int.natCast_inj, Bool.false_eq_true, Bool.true_eq_false, extPV, List.getElem?_cons_zero, List.getElem?_cons_succ, nilckPV, Int.reduceToNat, Int.reduceLE, true_and, and_true, reduceCtorEq, or_false, false_or, or_true, Option.some.injEq, exists_eq_left', Bool.not_true, Bool.not_false, ne_eq, Int.reduceEq, not_true_eq_false, not_false_eq_true, Int.reduceLT, UInt8.reduceLT, UInt8.reduceLE, UInt8.reduceToNat]
  have hl' : ¬ (4000 : Int) < (l.length : Int) := by omega
  by_cases hc : c < 0
  · simp (maxSteps := 1000000) (disch := omega) only [len_by hx, hl', hc, List.length_nil, alive5, W_seq, W_region, W_cond, W_block, W_skip, W_label, W_exit, W_goto, W_ret, WO_cons, WO_consG, WO_nil, wantedA_eq, wantB, evOp, ev_tmp, ev_const, ev_fn, WN_some, WN_none, updO_some, updO_none, upd_eq,
 ↓reduceIte, Nat.reduceEqDiff, List.nil_append, List.cons_append, List.append_nil, List.map_cons, List.map_nil, env0_zero, env0_succ, env0_nil, Option.map_some, Option.map_none, seqQ_normal, seqQ_ret, seqQ_exit, seqQ_goto, blockQ_normal, blockQ_ret, blockQ_exit, blockQ_goto, condW_bool, loopQ_ret, loopQ_exit, loopQ_goto, endQ_ret, endQ_normal,
 lss_i, leq_i, gtr_i, geq_i, eql_i, neq_i, eql_8, neq_8, lss_8, leq_8, gtr_8, geq_8, eql_s, neq_s, eql_b, neq_b, not_b, by_bys, by_nils, load_cp1, beq_true, beq_false, Bool.not_eq_true', decide_eq_true_eq, decide_eq_false_iff_not, decide_true, decide_false,
 Int.toNat_natCast, Int.ofNat_lt, Int.ofNat_le, Int.natCast_inj, Bool.false_eq_true, Bool.true_eq_false, extPV, List.getElem?_cons_zero, List.getElem?_cons_succ, nilckPV, Int.reduceToNat, Int.reduceLE, true_and, and_true, reduceCtorEq, or_false, false_or, or_true, Option.some.injEq, exists_eq_left', Bool.not_true, Bool.not_false, ne_eq, Int.reduceEq, not_true_eq_false, not_false_eq_true, Int.reduceLT, UInt8.reduceLT, UInt8.reduceLE, UInt8.reduceToNat]
  by_cases hc2 : (l.length : Int) < c
  · simp (maxSteps := 1000000) (disch := omega) only [len_by hx, hl', hc, hc2, List.length_nil, alive5, W_seq, W_region, W_cond, W_block, W_skip, W_label, W_exit, W_goto, W_ret, WO_cons, WO_consG, WO_nil, wantedA_eq, wantB, evOp, ev_tmp, ev_const, ev_fn, WN_some, WN_none, updO_some, updO_none, upd_eq,
 ↓reduceIte, Nat.reduceEqDiff, List.nil_append, List.cons_append, List.append_nil, List.map_cons, List.map_nil, env0_zero, env0_succ, env0_nil, Option.map_some, Option.map_none, seqQ_normal, seqQ_ret, seqQ_exit, seqQ_goto, blockQ_normal, blockQ_ret, blockQ_exit, blockQ_goto, condW_bool, loopQ_ret, loopQ_exit, loopQ_goto, endQ_ret, endQ_normal,
 lss_i, leq_i, gtr_i, geq_i, eql_i, neq_i, eql_8, neq_8, lss_8, leq_8, gtr_8, geq_8, eql_s, neq_s, eql_b, neq_b, not_b, by_bys, by_nils, load_cp1, beq_true, beq_false, Bool.not_eq_true', decide_eq_true_eq, decide_eq_false_iff_not, decide_true, decide_false,
 Int.toNat_natCast, Int.ofNat_lt, Int.ofNat_le, Int.natCast_inj, Bool.false_eq_true, Bool.true_eq_false, extPV, List.getElem?_cons_zero, List.getElem?_cons_succ, nilckPV, Int.reduceToNat, Int.reduceLE, true_and, and_true, reduceCtorEq, or_false, false_or, or_true, Option.some.injEq, exists_eq_left', Bool.not_true, Bool.not_false, ne_eq, Int.reduceEq, not_true_eq_false, not_false_eq_true, Int.reduceLT, UInt8.reduceLT, UInt8.reduceLE, UInt8.reduceToNat]
  obtain ⟨k, rfl⟩ : ∃ k : Nat, c = k := ⟨c.toNat, by omega⟩
  have hmm0 : 0 ≤ max m 0 := by omega
  have hmm1 : max m 0 < 9223372036854775808 := by omega
  generalize hM : max m 0 = M at hmm0 hmm1
  -- the two readers
  have n1 := New_spec (st := ⟨[], [], [], 0⟩) (m := m)
  have n2 := New_spec (st := ⟨[(rd0 M).vals .nils .nils], [], [], 0⟩) (m := m)
  rw [hM] at n1 n2
  simp only [List.length_nil, List.nil_append, List.length_cons, Nat.zero_add, Nat.zero_le, Nat.min_eq_left, Nat.min_self, List.cons_append] at n1 n2
  have e0 : rdV M .nils .nils false false false false = (rd0 M).vals .nils .nils := rfl
  rw [e0] at n1 n2
  -- the first takes all
  obtain ⟨s1, vl1, vt1, a1, a2, a3⟩ := Put_spec (x := x) (b := 0) (rds0 (s := ⟨[(rd0 M).vals .nils .nils, (rd0 M).vals .nils .nils], [], [], 0⟩) (m := M) rfl) hx rfl (by simp [rd0]; omega) hmm0 hmm1
  have hb1 : s1.boxes = [((rd0 M).put l).1.vals vl1 vt1, (rd0 M).vals .nils .nils] := by rw [a2.bx]; rfl
  have h1t := a2.lt.by
  have h1len := put_bounds (l := l) (m := M)
  -- the second takes the first piece
  obtain ⟨s2, vl2, vt2, b1, b2, b3⟩ := Put_spec (x := x.takeB k) (b := 1) (rds0 (s := s1) (m := M) (by rw [hb1]; rfl)) (takeB_by hx) rfl (by simp [rd0]; omega) hmm0 hmm1
  have hb2 : s2.boxes = [((rd0 M).put l).1.vals vl1 vt1, ((rd0 M).put (l.take k)).1.vals vl2 vt2] := by rw [b2.bx, hb1]; rfl
  have hpa := put_append (l.take k) (l.drop k) (rd0 M)
  rw [List.take_append_drop] at hpa
  have hc2' : k ≤ l.length := by omega
  cases hov : ((rd0 M).put (l.take k)).2.2 with
  | true =>
    rw [hov] at hpa b1
    simp only [if_true] at hpa b1
    rw [← hpa] at b1 hb2 b2
    have hov' : ((rd0 M).put l).2.2 = true := by rw [hpa]; exact hov
    rw [hov'] at a1
    simp only [if_true] at a1
    have h2t := b2.lt.by
    obtain ⟨u1, s3, c1, c2, c3⟩ := Text_any (st := s2) (b := 0) (R := ((rd0 M).put l).1) (vl := vl1) (vt := vt1) (by rw [hb2]; rfl) h1t (by simp only [room]; omega)
    obtain ⟨u2, s4, d1, d2, d3⟩ := Text_any (st := s3) (b := 1) (R := ((rd0 M).put l).1) (vl := vl2) (vt := vt2) (by rw [c3, hb2]; rfl) h2t (by simp only [room]; omega)
    simp (maxSteps := 1000000) (disch := omega) only [len_by hx, hl', hc, hc2, List.length_nil, n1, n2, a1, slc_hi hx, b1, alive5, c1, d1, b2s_by c2, b2s_by d2, W_seq, W_region, W_cond, W_block, W_skip, W_label, W_exit, W_goto, W_ret, WO_cons, WO_consG, WO_nil, wantedA_eq, wantB, evOp, ev_tmp, ev_const, ev_fn, WN_some, WN_none, updO_some, updO_none, upd_eq,
 ↓reduceIte, Nat.reduceEqDiff, List.nil_append, List.cons_append, List.append_nil, List.map_cons, List.map_nil, env0_zero, env0_succ, env0_nil, Option.map_some, Option.map_none, seqQ_normal, seqQ_ret, seqQ_exit, seqQ_goto, blockQ_normal, blockQ_ret, blockQ_exit, blockQ_goto, condW_bool, loopQ_ret, loopQ_exit, loopQ_goto, endQ_ret, endQ_normal,
 lss_i, leq_i, gtr_i, geq_i, eql_i, neq_i, eql_8, neq_8, lss_8, leq_8, gtr_8, geq_8, eql_s, neq_s, eql_b, neq_b, not_b, by_bys, by_nils, load_cp1, beq_true, beq_false, Bool.not_eq_true', decide_eq_true_eq, decide_eq_false_iff_not, decide_true, decide_false,
 Int.toNat_natCast, Int.ofNat_lt, Int.ofNat_le, Int.natCast_inj, Bool.false_eq_true, Bool.true_eq_false, extPV, List.getElem?_cons_zero, List.getElem?_cons_succ, nilckPV, Int.reduceToNat, Int.reduceLE, true_and, and_true, reduceCtorEq, or_false, false_or, or_true, Option.some.injEq, exists_eq_left', Bool.not_true, Bool.not_false, ne_eq, Int.reduceEq, not_true_eq_false, not_false_eq_true, Int.reduceLT, UInt8.reduceLT, UInt8.reduceLE, UInt8.reduceToNat]
  | false =>
    rw [hov] at hpa b1
    simp only [Bool.false_eq_true, if_false] at hpa b1
    have h2l := put_len (l.take k) (rd0 M)
    have h2e := put_ended (l.take k) (rd0 M) rfl hov
    have h2m := put_most (l.take k) (rd0 M)
    have h2c := (put_count (l.take k) (rd0 M)).2 hov
    have hkl : (l.take k).length = k := by simp; omega
    rw [hkl] at h2c
    have hR2 : RdS s2 s2 1 vl2 vt2 ((rd0 M).put (l.take k)).1 vl2 vt2 := RdS.start b2.get b2.ll b2.lt b2.ne (Nat.min_le_left _ _)
    obtain ⟨s3, vl3, vt3, c1, c2, c3⟩ := Put_spec (x := x.dropB k) hR2 (dropB_by hx) h2e (by simp [rd0] at h2l ⊢; omega) (by rw [h2m]; exact hmm0) (by rw [h2m]; exact hmm1)
    have hp2 : (((rd0 M).put (l.take k)).1.put (l.drop k)) = (((rd0 M).put l).1, ((rd0 M).put l).2.1 - k, ((rd0 M).put l).2.2) := by
      rw [hpa, hkl]
      simp
    have hn : ((rd0 M).put l).2.1 ≥ k := by rw [hpa, hkl]; simp
    have hn2 := (put_count l (rd0 M)).1
    rw [hp2] at c1 c2
    have hb3 : s3.boxes = [((rd0 M).put l).1.vals vl1 vt1, ((rd0 M).put l).1.vals vl3 vt3] := by rw [c2.bx, hb2]; rfl
    have h2t := c2.lt.by
    obtain ⟨u1, s4, d1, d2, d3⟩ := Text_any (st := s3) (b := 0) (R := ((rd0 M).put l).1) (vl := vl1) (vt := vt1) (by rw [hb3]; rfl) h1t (by simp only [room]; omega)
    obtain ⟨u2, s5, f1, f2, f3⟩ := Text_any (st := s4) (b := 1) (R := ((rd0 M).put l).1) (vl := vl3) (vt := vt3) (by rw [d3, hb3]; rfl) h2t (by simp only [room]; omega)
    generalize hN : ((rd0 M).put l).2.1 = N at a1 c1 hn hn2
    have hadd : ∀ ek, binPV .add ek (.int .i64 (((rd0 M).put (l.take k)).2.1 : Nat)) (.int .i64 ((N - k : Nat) : Int)) = some (.int .i64 (N : Nat)) := fun ek => by
      rw [h2c, add_i (by omega) (by omega)]
      congr 2; omega
    simp (maxSteps := 1000000) (disch := omega) only [len_by hx, hl', hc, hc2, List.length_nil, n1, n2, a1, slc_hi hx, slc_lo hx, b1, c1, hadd, alive5, d1, f1, b2s_by d2, b2s_by f2, W_seq, W_region, W_cond, W_block, W_skip, W_label, W_exit, W_goto, W_ret, WO_cons, WO_consG, WO_nil, wantedA_eq, wantB, evOp, ev_tmp, ev_const, ev_fn, WN_some, WN_none, updO_some, updO_none, upd_eq,
 ↓reduceIte, Nat.reduceEqDiff, List.nil_append, List.cons_append, List.append_nil, List.map_cons, List.map_nil, env0_zero, env0_succ, env0_nil, Option.map_some, Option.map_none, seqQ_normal, seqQ_ret, seqQ_exit, seqQ_goto, blockQ_normal, blockQ_ret, blockQ_exit, blockQ_goto, condW_bool, loopQ_ret, loopQ_exit, loopQ_goto, endQ_ret, endQ_normal,
 lss_i, leq_i, gtr_i, geq_i, eql_i, neq_i, eql_8, neq_8, lss_8, leq_8, gtr_8, geq_8, eql_s, neq_s, eql_b, neq_b, not_b, by_bys, by_nils, load_cp1, beq_true, beq_false, Bool.not_eq_true', decide_eq_true_eq, decide_eq_false_iff_not, decide_true, decide_false,
 Int.toNat_natCast, Int.ofNat_lt, Int.ofNat_le, Int.natCast_inj, Bool.false_eq_true, Bool.true_eq_false, extPV, List.getElem?_cons_zero, List.getElem?_cons_succ, nilckPV, Int.reduceToNat, Int.reduceLE, true_and, and_true, reduceCtorEq, or_false, false_or, or_true, Option.some.injEq, exists_eq_left', Bool.not_true, Bool.not_false, ne_eq, Int.reduceEq, not_true_eq_false, not_false_eq_true, Int.reduceLT, UInt8.reduceLT, UInt8.reduceLE, UInt8.reduceToNat]
end Go.Ab

/-
  The document's frame.
-/
namespace Go.Ab
open Go
set_option linter.unusedVariables false
set_option linter.unusedSimpArgs false
variable {st : St} {e : Env}

theorem lnV_cells {r : List (Nat × List UInt8 × Bool)} {i : Nat} {q : Nat × List UInt8 × Bool} (h : r[i]? = some q) : ((r.map lnV).getD i .undef).cells = [.int .i64 ((q.1 : Nat) : Int), .bys .no q.2.1, .bool q.2.2] := by
  simp [List.getD, h, lnV, PV.cells]

theorem place_get {a : Nat} {ss : List (List UInt8 × Bool)} {r : List (Nat × List UInt8 × Bool)} {i : Nat} (h : r.drop i = place a ss) : (ss = [] → r.length ≤ i) ∧ (∀ b w ss', ss = (b, w) :: ss' → r[i]? = some (a, b, w) ∧ r.drop (i + 1) = place (a + b.length + 2) ss') := by
  constructor
  · rintro rfl
    simp [place] at h; exact h
  · rintro b w ss' rfl
    simp only [place] at h
    have h1 : r[i]? = (r.drop i)[0]? := by simp
    refine ⟨by rw [h1, h]; rfl, ?_⟩
    rw [← List.drop_drop, h]; rfl

/-- How many bytes are taken. -/
def runPos (o : Option Nat) (n : Nat) : Int := match o with | some p => (p : Int) | none => (n : Int)
theorem runPos_some {p n : Nat} : runPos (some p) n = (p : Int) := rfl
theorem runPos_none {n : Nat} : runPos none n = (n : Int) := rfl

theorem errOf_eq {R : Rd} : errOf R = faultC R.bare R.long R.fl := rfl

set_option maxHeartbeats 4000000 in
theorem Frame_spec {m : Int} {x : PV} {l : List UInt8} (hx : x.by = some l) (hl : l.length ≤ 1000000) (hm : m < 9223372036854775808) (hm2 : -9223372036854775808 ≤ m) :
    ∃ s' v, call prog (.fn 11 []) [.int .i64 m, x] st = some (.tup [.int .i64 (runPos (runSegs (rd0 (max m 0)) 0 (segs l [])).2 l.length), .bool (runSegs (rd0 (max m 0)) 0 (segs l [])).2.isSome,
      .int .i64 (if (runSegs (rd0 (max m 0)) 0 (segs l [])).2.isSome then errOf (runSegs (rd0 (max m 0)) 0 (segs l [])).1 else 0), v], s') := by
  obtain ⟨res, hres⟩ : ∃ res, res = runSegs (rd0 (max m 0)) 0 (segs l []) := ⟨_, rfl⟩
  rw [← hres]
  suffices hw : W prog F_posthornref05_Frame.body (env0 [.int .i64 m, x]) { st with low := st.boxes.length } (fun x' e1 s1 => x' = .ret ∧ e1 4 = .int .i64 (runPos res.2 l.length) ∧ e1 5 = .bool res.2.isSome ∧ e1 6 = .int .i64 (if res.2.isSome then errOf res.1 else 0) ∧ notTup (e1 7) = true) by
    obtain ⟨⟨x', e1, s1⟩, k1, k2, k4, k5, k6, k7⟩ := hw
    simp only at k2 k4 k5 k6 k7
    subst k2
    have hres2 : resOf e1 s1 F_posthornref05_Frame.results = some (.tup [e1 4, e1 5, e1 6, e1 7]) := by
      simp only [F_posthornref05_Frame, resOf, rvAll, rv1]
      rw [if_pos (by simp only [List.all_cons, List.all_nil, k7, Bool.and_true]; rw [k4, k5, k6]; rfl)]; rfl
    obtain ⟨v, s', hlv⟩ : ∃ v s', leave st s1 (.tup [e1 4, e1 5, e1 6, e1 7]) = (.tup [e1 4, e1 5, e1 6, v], s') := by
      unfold leave
      split
      · split
        · simp only [keepRes, keepVals, k4, k5, k6, keepVal, keepLeaf]
          exact ⟨_, _, rfl⟩
        · exact ⟨_, _, rfl⟩
      · exact ⟨_, _, rfl⟩
    rw [← k4, ← k5, ← k6]
    exact ⟨s', v, call_of_W prog_11 ⟨_, k1, .inr rfl, _, hres2, hlv⟩⟩
  unfold F_posthornref05_Frame; dsimp only
  have hM : ∃ M, M = max m 0 := ⟨_, rfl⟩
  obtain ⟨M, hM⟩ := hM
  rw [← hM] at hres
  have hL : call prog (.fn 8 []) [x] { st with low := st.boxes.length } = some (newSl { st with low := st.boxes.length } 3 ((refLines l).map lnV), newS { st with low := st.boxes.length } ((refLines l).map lnV).isEmpty) := Lines_spec hx hl
  obtain ⟨y, hy⟩ : ∃ y, y = newSl { st with low := st.boxes.length } 3 ((refLines l).map lnV) := ⟨_, rfl⟩
  have hyv : y.vs 3 = some ((refLines l).map lnV) := by rw [hy]; exact newSl_vs
  rw [← hy] at hL
  obtain ⟨s0, hs0⟩ : ∃ s0, s0 = newS { st with low := st.boxes.length } ((refLines l).map lnV).isEmpty := ⟨_, rfl⟩
  rw [← hs0] at hL
  have hleny := len_vs hyv
  have hlen4 := segs_len l []
  have hrl : (refLines l).length ≤ 1000001 := by simp only [refLines, place_len]; omega
  obtain ⟨I, hI⟩ : ∃ I : Nat → Env → St → Prop, I = fun n e s => ∃ (i a : Nat) (ss : List (List UInt8 × Bool)) (R : Rd) (v : PV), n = (refLines l).length - i ∧ i ≤ (refLines l).length ∧ (refLines l).drop i = place a ss ∧ res = runSegs R a ss ∧ R.most = M ∧ R.text.length ≤ a ∧ a ≤ l.length + 2 ∧
      e 0 = .int .i64 M ∧ e 1 = x ∧ e 8 = y ∧ e 9 = v ∧ Live s v R.text ∧ e 10 = .bool R.bare ∧ e 11 = .bool R.long ∧ e 12 = .bool R.fl ∧ e 13 = .int .i64 (i : Int) := ⟨_, rfl⟩
  simp (maxSteps := 1000000) (disch := omega) only [hL, ↓W_joinc, joinc_bool, W_seq, W_region, W_cond, W_block, W_skip, W_label, W_exit, W_goto, W_ret, WO_cons, WO_consG, WO_nil, wantedA_eq, wantB, evOp, ev_tmp, ev_const, ev_fn, WN_some, WN_none, updO_some, updO_none, upd_eq,
 ↓reduceIte, Nat.reduceEqDiff, List.nil_append, List.cons_append, List.append_nil, List.map_cons, List.map_nil, env0_zero, env0_succ, env0_nil, Option.map_some, Option.map_none, seqQ_normal, seqQ_ret, seqQ_exit, seqQ_goto, blockQ_normal, blockQ_ret, blockQ_exit, blockQ_goto, condW_bool, loopQ_ret, loopQ_exit, loopQ_goto, endQ_ret, endQ_normal,
 lss_i, leq_i, gtr_i, geq_i, eql_i, neq_i, eql_8, neq_8, lss_8, leq_8, gtr_8, geq_8, eql_s, neq_s, eql_b, neq_b, not_b, by_bys, by_nils, load_cp1, beq_true, beq_false, Bool.not_eq_true', decide_eq_true_eq, decide_eq_false_iff_not, decide_true, decide_false,
 Int.toNat_natCast, Int.ofNat_lt, Int.ofNat_le, Int.natCast_inj, Bool.false_eq_true, Bool.true_eq_false, extPV, List.getElem?_cons_zero, List.getElem?_cons_succ, nilckPV, Int.reduceToNat, Int.reduceLE, true_and, and_true, reduceCtorEq, or_false, false_or, or_true, Option.some.injEq, exists_eq_left', Bool.not_true, Bool.not_false, ne_eq, Int.reduceEq, not_true_eq_false, not_false_eq_true, Int.reduceLT, UInt8.reduceLT, UInt8.reduceLE, UInt8.reduceToNat]

  refine W_loop I ?_ (n := (refLines l).length) (by
    rw [hI]
    exact ⟨0, 0, segs l [], rd0 M, .nils, rfl, by omega, rfl, hres, rfl, by simp [rd0], by omega, (by simp only [upd_eq, reduceIte, Nat.reduceEqDiff, env0_zero, decide_eq_true_eq]; rw [hM]; split <;> (congr 1; omega)), rfl, rfl, rfl, .inl ⟨rfl, rfl⟩, rfl, rfl, rfl, rfl⟩)
  intro n e s h
  rw [hI] at h
  obtain ⟨i, a, ss, R, v, rfl, hil, hd, hr, hRm, hRt, hal, h0, h1, h8, h9, hlv, h10, h11, h12, h13⟩ := h
  obtain ⟨pg1, pg2⟩ := place_get hd
  have hnt : notTup v = true := by rcases hlv with ⟨rfl, _⟩ | ⟨_, rfl, _⟩ <;> rfl
  cases ss with
  | nil =>
    have hil2 : (refLines l).length = i := by have := pg1 rfl; omega
    have hnlt : ¬ (i : Int) < ((List.map lnV (refLines l)).length : Int) := by rw [List.length_map]; omega
    have hn : res.2 = none := by rw [hr]; rfl
    by_cases hf : faultC R.bare R.long R.fl = 0
    · simp (maxSteps := 1000000) (disch := omega) only [h0, h1, h8, h9, h10, h11, h12, h13, hleny, hnlt, rfault_spec, hf, len_by hx, hn, runPos_none, hnt, Option.isSome_none, W_seq, W_region, W_cond, W_block, W_skip, W_label, W_exit, W_goto, W_ret, WO_cons, WO_consG, WO_nil, wantedA_eq, wantB, evOp, ev_tmp, ev_const, ev_fn, WN_some, WN_none, updO_some, updO_none, upd_eq,
 ↓reduceIte, Nat.reduceEqDiff, List.nil_append, List.cons_append, List.append_nil, List.map_cons, List.map_nil, env0_zero, env0_succ, env0_nil, Option.map_some, Option.map_none, seqQ_normal, seqQ_ret, seqQ_exit, seqQ_goto, blockQ_normal, blockQ_ret, blockQ_exit, blockQ_goto, condW_bool, loopQ_ret, loopQ_exit, loopQ_goto, endQ_ret, endQ_normal,
 lss_i, leq_i, gtr_i, geq_i, eql_i, neq_i, eql_8, neq_8, lss_8, leq_8, gtr_8, geq_8, eql_s, neq_s, eql_b, neq_b, not_b, by_bys, by_nils, load_cp1, beq_true, beq_false, Bool.not_eq_true', decide_eq_true_eq, decide_eq_false_iff_not, decide_true, decide_false,
 Int.toNat_natCast, Int.ofNat_lt, Int.ofNat_le, Int.natCast_inj, Bool.false_eq_true, Bool.true_eq_false, extPV, List.getElem?_cons_zero, List.getElem?_cons_succ, nilckPV, Int.reduceToNat, Int.reduceLE, true_and, and_true, reduceCtorEq, or_false, false_or, or_true, Option.some.injEq, exists_eq_left', Bool.not_true, Bool.not_false, ne_eq, Int.reduceEq, not_true_eq_false, not_false_eq_true, Int.reduceLT, UInt8.reduceLT, UInt8.reduceLE, UInt8.reduceToNat]
    · simp (maxSteps := 1000000) (disch := omega) only [h0, h1, h8, h9, h10, h11, h12, h13, hleny, hnlt, rfault_spec, hf, len_by hx, hn, runPos_none, notTup, Option.isSome_none, W_seq, W_region, W_cond, W_block, W_skip, W_label, W_exit, W_goto, W_ret, WO_cons, WO_consG, WO_nil, wantedA_eq, wantB, evOp, ev_tmp, ev_const, ev_fn, WN_some, WN_none, updO_some, updO_none, upd_eq,
 ↓reduceIte, Nat.reduceEqDiff, List.nil_append, List.cons_append, List.append_nil, List.map_cons, List.map_nil, env0_zero, env0_succ, env0_nil, Option.map_some, Option.map_none, seqQ_normal, seqQ_ret, seqQ_exit, seqQ_goto, blockQ_normal, blockQ_ret, blockQ_exit, blockQ_goto, condW_bool, loopQ_ret, loopQ_exit, loopQ_goto, endQ_ret, endQ_normal,
 lss_i, leq_i, gtr_i, geq_i, eql_i, neq_i, eql_8, neq_8, lss_8, leq_8, gtr_8, geq_8, eql_s, neq_s, eql_b, neq_b, not_b, by_bys, by_nils, load_cp1, beq_true, beq_false, Bool.not_eq_true', decide_eq_true_eq, decide_eq_false_iff_not, decide_true, decide_false,
 Int.toNat_natCast, Int.ofNat_lt, Int.ofNat_le, Int.natCast_inj, Bool.false_eq_true, Bool.true_eq_false, extPV, List.getElem?_cons_zero, List.getElem?_cons_succ, nilckPV, Int.reduceToNat, Int.reduceLE, true_and, and_true, reduceCtorEq, or_false, false_or, or_true, Option.some.injEq, exists_eq_left', Bool.not_true, Bool.not_false, ne_eq, Int.reduceEq, not_true_eq_false, not_false_eq_true, Int.reduceLT, UInt8.reduceLT, UInt8.reduceLE, UInt8.reduceToNat]
  | cons q ss' =>
    obtain ⟨b, w⟩ := q
    obtain ⟨hq, hd'⟩ := pg2 b w ss' rfl
    have hlt := (List.getElem?_eq_some_iff.1 hq).1
    have hilt : (i : Int) < ((List.map lnV (refLines l)).length : Int) := by rw [List.length_map]; omega
    have hia := iaddr_vs (k := .i64) (c := (i : Int)) hyv (by omega) (by simp; omega)
    rw [Int.toNat_natCast, lnV_cells hq] at hia
    have hmem : (a, b, w) ∈ refLines l := List.mem_of_getElem? hq
    have hok := (refLines_ok _ hmem).1
    simp only at hok
    cases w with
    | false =>
      have hn : res.2 = none := by rw [hr]; rfl
      by_cases hf : faultC R.bare R.long R.fl = 0
      · simp (maxSteps := 1000000) (disch := omega) only [h0, h1, h8, h9, h10, h11, h12, h13, hleny, hilt, hia, faddrPV, List.drop_succ_cons, List.drop_zero, rfault_spec, hf, len_by hx, hn, runPos_none, hnt, loadPV, readCells, Option.isSome_none, W_seq, W_region, W_cond, W_block, W_skip, W_label, W_exit, W_goto, W_ret, WO_cons, WO_consG, WO_nil, wantedA_eq, wantB, evOp, ev_tmp, ev_const, ev_fn, WN_some, WN_none, updO_some, updO_none, upd_eq,
 ↓reduceIte, Nat.reduceEqDiff, List.nil_append, List.cons_append, List.append_nil, List.map_cons, List.map_nil, env0_zero, env0_succ, env0_nil, Option.map_some, Option.map_none, seqQ_normal, seqQ_ret, seqQ_exit, seqQ_goto, blockQ_normal, blockQ_ret, blockQ_exit, blockQ_goto, condW_bool, loopQ_ret, loopQ_exit, loopQ_goto, endQ_ret, endQ_normal,
 lss_i, leq_i, gtr_i, geq_i, eql_i, neq_i, eql_8, neq_8, lss_8, leq_8, gtr_8, geq_8, eql_s, neq_s, eql_b, neq_b, not_b, by_bys, by_nils, load_cp1, beq_true, beq_false, Bool.not_eq_true', decide_eq_true_eq, decide_eq_false_iff_not, decide_true, decide_false,
 Int.toNat_natCast, Int.ofNat_lt, Int.ofNat_le, Int.natCast_inj, Bool.false_eq_true, Bool.true_eq_false, extPV, List.getElem?_cons_zero, List.getElem?_cons_succ, nilckPV, Int.reduceToNat, Int.reduceLE, true_and, and_true, reduceCtorEq, or_false, false_or, or_true, Option.some.injEq, exists_eq_left', Bool.not_true, Bool.not_false, ne_eq, Int.reduceEq, not_true_eq_false, not_false_eq_true, Int.reduceLT, UInt8.reduceLT, UInt8.reduceLE, UInt8.reduceToNat]
      · simp (maxSteps := 1000000) (disch := omega) only [h0, h1, h8, h9, h10, h11, h12, h13, hleny, hilt, hia, faddrPV, List.drop_succ_cons, List.drop_zero, rfault_spec, hf, len_by hx, hn, runPos_none, notTup, loadPV, readCells, Option.isSome_none, W_seq, W_region, W_cond, W_block, W_skip, W_label, W_exit, W_goto, W_ret, WO_cons, WO_consG, WO_nil, wantedA_eq, wantB, evOp, ev_tmp, ev_const, ev_fn, WN_some, WN_none, updO_some, updO_none, upd_eq,
 ↓reduceIte, Nat.reduceEqDiff, List.nil_append, List.cons_append, List.append_nil, List.map_cons, List.map_nil, env0_zero, env0_succ, env0_nil, Option.map_some, Option.map_none, seqQ_normal, seqQ_ret, seqQ_exit, seqQ_goto, blockQ_normal, blockQ_ret, blockQ_exit, blockQ_goto, condW_bool, loopQ_ret, loopQ_exit, loopQ_goto, endQ_ret, endQ_normal,
 lss_i, leq_i, gtr_i, geq_i, eql_i, neq_i, eql_8, neq_8, lss_8, leq_8, gtr_8, geq_8, eql_s, neq_s, eql_b, neq_b, not_b, by_bys, by_nils, load_cp1, beq_true, beq_false, Bool.not_eq_true', decide_eq_true_eq, decide_eq_false_iff_not, decide_true, decide_false,
 Int.toNat_natCast, Int.ofNat_lt, Int.ofNat_le, Int.natCast_inj, Bool.false_eq_true, Bool.true_eq_false, extPV, List.getElem?_cons_zero, List.getElem?_cons_succ, nilckPV, Int.reduceToNat, Int.reduceLE, true_and, and_true, reduceCtorEq, or_false, false_or, or_true, Option.some.injEq, exists_eq_left', Bool.not_true, Bool.not_false, ne_eq, Int.reduceEq, not_true_eq_false, not_false_eq_true, Int.reduceLT, UInt8.reduceLT, UInt8.reduceLE, UInt8.reduceToNat]
    | true =>
      have hrm := res
      have hbl : b.length ≤ l.length := by omega
      have hbx : (PV.bys Tok.no b).by = some b := rfl
      have hlb : lenPV false (PV.bys Tok.no b) = some (.int .i64 (b.length : Int)) := rfl
      have hlit2 : lit8Fill (List.replicate 2 0) [(0, .b8 13), (1, .b8 10)] = some [13, 10] := rfl
      by_cases hdot : b = [46]
      · have hrs : res = (R, some (a + 3)) := by rw [hr, hdot]; simp [runSegs]
        subst hdot
        have hone : lenPV false (PV.bys Tok.no [46]) = some (.int .i64 1) := rfl
        have h46 : iaddrPV 1 (PV.bys Tok.no [46]) (.int .i64 0) = some (.cp [.b8 46]) := rfl
        by_cases hf : faultC R.bare R.long R.fl = 0
        · simp (maxSteps := 1000000) (disch := omega) only [h0, h1, h8, h9, h10, h11, h12, h13, hleny, hilt, hia, faddrPV, List.drop_succ_cons, List.drop_zero, rfault_spec, hf, len_by hx, loadPV, readCells, hone, h46, add_n, errOf_eq, runPos_some, hrs, hnt, Option.isSome_some, W_seq, W_region, W_cond, W_block, W_skip, W_label, W_exit, W_goto, W_ret, WO_cons, WO_consG, WO_nil, wantedA_eq, wantB, evOp, ev_tmp, ev_const, ev_fn, WN_some, WN_none, updO_some, updO_none, upd_eq,
 ↓reduceIte, Nat.reduceEqDiff, List.nil_append, List.cons_append, List.append_nil, List.map_cons, List.map_nil, env0_zero, env0_succ, env0_nil, Option.map_some, Option.map_none, seqQ_normal, seqQ_ret, seqQ_exit, seqQ_goto, blockQ_normal, blockQ_ret, blockQ_exit, blockQ_goto, condW_bool, loopQ_ret, loopQ_exit, loopQ_goto, endQ_ret, endQ_normal,
 lss_i, leq_i, gtr_i, geq_i, eql_i, neq_i, eql_8, neq_8, lss_8, leq_8, gtr_8, geq_8, eql_s, neq_s, eql_b, neq_b, not_b, by_bys, by_nils, load_cp1, beq_true, beq_false, Bool.not_eq_true', decide_eq_true_eq, decide_eq_false_iff_not, decide_true, decide_false,
 Int.toNat_natCast, Int.ofNat_lt, Int.ofNat_le, Int.natCast_inj, Bool.false_eq_true, Bool.true_eq_false, extPV, List.getElem?_cons_zero, List.getElem?_cons_succ, nilckPV, Int.reduceToNat, Int.reduceLE, true_and, and_true, reduceCtorEq, or_false, false_or, or_true, Option.some.injEq, exists_eq_left', Bool.not_true, Bool.not_false, ne_eq, Int.reduceEq, not_true_eq_false, not_false_eq_true, Int.reduceLT, UInt8.reduceLT, UInt8.reduceLE, UInt8.reduceToNat]
        · simp (maxSteps := 1000000) (disch := omega) only [h0, h1, h8, h9, h10, h11, h12, h13, hleny, hilt, hia, faddrPV, List.drop_succ_cons, List.drop_zero, rfault_spec, hf, len_by hx, notTup, loadPV, readCells, hone, h46, add_n, errOf_eq, runPos_some, hrs, hnt, Option.isSome_some, W_seq, W_region, W_cond, W_block, W_skip, W_label, W_exit, W_goto, W_ret, WO_cons, WO_consG, WO_nil, wantedA_eq, wantB, evOp, ev_tmp, ev_const, ev_fn, WN_some, WN_none, updO_some, updO_none, upd_eq,
 ↓reduceIte, Nat.reduceEqDiff, List.nil_append, List.cons_append, List.append_nil, List.map_cons, List.map_nil, env0_zero, env0_succ, env0_nil, Option.map_some, Option.map_none, seqQ_normal, seqQ_ret, seqQ_exit, seqQ_goto, blockQ_normal, blockQ_ret, blockQ_exit, blockQ_goto, condW_bool, loopQ_ret, loopQ_exit, loopQ_goto, endQ_ret, endQ_normal,
 lss_i, leq_i, gtr_i, geq_i, eql_i, neq_i, eql_8, neq_8, lss_8, leq_8, gtr_8, geq_8, eql_s, neq_s, eql_b, neq_b, not_b, by_bys, by_nils, load_cp1, beq_true, beq_false, Bool.not_eq_true', decide_eq_true_eq, decide_eq_false_iff_not, decide_true, decide_false,
 Int.toNat_natCast, Int.ofNat_lt, Int.ofNat_le, Int.natCast_inj, Bool.false_eq_true, Bool.true_eq_false, extPV, List.getElem?_cons_zero, List.getElem?_cons_succ, nilckPV, Int.reduceToNat, Int.reduceLE, true_and, and_true, reduceCtorEq, or_false, false_or, or_true, Option.some.injEq, exists_eq_left', Bool.not_true, Bool.not_false, ne_eq, Int.reduceEq, not_true_eq_false, not_false_eq_true, Int.reduceLT, UInt8.reduceLT, UInt8.reduceLE, UInt8.reduceToNat]
      · have hrs : res = runSegs (R.take b) (a + b.length + 2) ss' := by rw [hr]; simp [runSegs, hdot]
        obtain ⟨u, hu⟩ : ∃ u, u = unDot b := ⟨_, rfl⟩
        -- what stands behind the lines on a point
        have hb0 : ∀ c, b.getD 0 0 = c → 0 < b.length → iaddrPV 1 (PV.bys Tok.no b) (.int .i64 0) = some (.cp [.b8 c]) := fun c hc h => by
          rw [iaddr_by hbx (by omega) (by simpa using h)]; simp [← hc]
        have hul : u.length ≤ b.length := by rw [hu]; exact unDot_le
        have hlu : lenPV false (PV.bys Tok.no u) = some (.int .i64 (u.length : Int)) := rfl
        have hsrc : src8 s (PV.bys Tok.no u) = some u := rfl
        obtain ⟨v1, s1, a1, a2, a3, a4, a5, a6, a7, a8, a9⟩ := app8_live hlv hsrc (by simp only [room]; omega)
        obtain ⟨v2, s2, b1, b2, b3, b4, b5, b6, b7, b8, b9⟩ := app8_live (y := .bys (.own s1.toks.length) [13, 10]) (m := [13, 10]) a5.tok1 rfl (by simp [room]; omega)
        have hlv9 := len_by hlv.by
        have hfin : ∀ (E : Env) (S : St) (w : PV), E 0 = .int .i64 M → E 1 = x → E 8 = y → E 9 = w → Live S w (R.take b).text → E 10 = .bool (R.take b).bare → E 11 = .bool (R.take b).long → E 12 = .bool (R.take b).fl → E 13 = .int .i64 ((i + 1 : Nat) : Int) → I ((refLines l).length - (i + 1)) E S := by
          intro E S w k0 k1 k8 k9 kl k10 k11 k12 k13
          rw [hI]
          refine ⟨i + 1, a + b.length + 2, ss', R.take b, w, rfl, by omega, hd', hrs, hRm, ?_, by omega, k0, k1, k8, k9, kl, k10, k11, k12, k13⟩
          have := take_text (R := R) (l := b); omega
        have hbar := rbare_spec (st := s) hbx (by omega)
        have hmeas : (refLines l).length - (i + 1) < (refLines l).length - i := by omega
        -- the line's first byte
        have hx1 : (b.length = 1 ∧ b.getD 0 0 ≠ 46) ∨ (b.length ≠ 1) := by
          by_cases h1 : b.length = 1
          · left
            refine ⟨h1, fun h2 => hdot ?_⟩
            obtain ⟨c, rfl⟩ := List.length_eq_one_iff.1 h1
            simp at h2; rw [h2]
          · exact .inr h1
        have hx2 : (0 < b.length ∧ b.getD 0 0 = 46 ∧ u = b.drop 1) ∨ (0 < b.length ∧ b.getD 0 0 ≠ 46 ∧ u = b) ∨ (b = [] ∧ u = b) := by
          cases b with
          | nil => exact .inr (.inr ⟨rfl, by rw [hu]; rfl⟩)
          | cons c r =>
            by_cases hc : c = 46
            · subst hc; exact .inl ⟨by simp, by simp, by rw [hu]; simp [unDot]⟩
            · have hc' : ¬ 46 = c := fun h => hc h.symm
              exact .inr (.inl ⟨by simp, by simpa using hc, by rw [hu]; simp [unDot, hc']⟩)
        obtain ⟨J, hJ⟩ : ∃ J : PV → Bool → Bool → Bool → Env → St → Prop, J = fun z bb gg ff E S => E 0 = .int .i64 M ∧ E 1 = x ∧ E 8 = y ∧ E 9 = v ∧ E 10 = .bool bb ∧ E 11 = .bool gg ∧ E 12 = .bool ff ∧ E 13 = .int .i64 (i : Int) ∧ E 14 = z ∧ S = s := ⟨_, rfl⟩
        -- the loop's condition
        refine W_cut (J (e 14) R.bare R.long R.fl) ?_ ?_
        · simp (maxSteps := 1000000) (disch := omega) only [h0, h1, h8, h9, h10, h11, h12, h13, hleny, hilt, hia, faddrPV, List.drop_succ_cons, List.drop_zero, loadPV, readCells, hJ, W_seq, W_region, W_cond, W_block, W_skip, W_label, W_exit, W_goto, W_ret, WO_cons, WO_consG, WO_nil, wantedA_eq, wantB, evOp, ev_tmp, ev_const, ev_fn, WN_some, WN_none, updO_some, updO_none, upd_eq,
 ↓reduceIte, Nat.reduceEqDiff, List.nil_append, List.cons_append, List.append_nil, List.map_cons, List.map_nil, env0_zero, env0_succ, env0_nil, Option.map_some, Option.map_none, seqQ_normal, seqQ_ret, seqQ_exit, seqQ_goto, blockQ_normal, blockQ_ret, blockQ_exit, blockQ_goto, condW_bool, loopQ_ret, loopQ_exit, loopQ_goto, endQ_ret, endQ_normal,
 lss_i, leq_i, gtr_i, geq_i, eql_i, neq_i, eql_8, neq_8, lss_8, leq_8, gtr_8, geq_8, eql_s, neq_s, eql_b, neq_b, not_b, by_bys, by_nils, load_cp1, beq_true, beq_false, Bool.not_eq_true', decide_eq_true_eq, decide_eq_false_iff_not, decide_true, decide_false,
 Int.toNat_natCast, Int.ofNat_lt, Int.ofNat_le, Int.natCast_inj, Bool.false_eq_true, Bool.true_eq_false, extPV, List.getElem?_cons_zero, List.getElem?_cons_succ, nilckPV, Int.reduceToNat, Int.reduceLE, true_and, and_true, reduceCtorEq, or_false, false_or, or_true, Option.some.injEq, exists_eq_left', Bool.not_true, Bool.not_false, ne_eq, Int.reduceEq, not_true_eq_false, not_false_eq_true, Int.reduceLT, UInt8.reduceLT, UInt8.reduceLE, UInt8.reduceToNat]
        clear h0 h1 h8 h9 h10 h11 h12 h13
        intro e S hj
        rw [hJ] at hj
        obtain ⟨h0, h1, h8, h9, h10, h11, h12, h13, h14, rfl⟩ := hj
        rw [W_seq, W_block]
        refine W_cut (J (.bys .no b) R.bare R.long R.fl) ?_ ?_
        · simp (maxSteps := 1000000) (disch := omega) only [h0, h1, h8, h9, h10, h11, h12, h13, hia, faddrPV, List.drop_succ_cons, List.drop_zero, loadPV, readCells, hJ, W_seq, W_region, W_cond, W_block, W_skip, W_label, W_exit, W_goto, W_ret, WO_cons, WO_consG, WO_nil, wantedA_eq, wantB, evOp, ev_tmp, ev_const, ev_fn, WN_some, WN_none, updO_some, updO_none, upd_eq,
 ↓reduceIte, Nat.reduceEqDiff, List.nil_append, List.cons_append, List.append_nil, List.map_cons, List.map_nil, env0_zero, env0_succ, env0_nil, Option.map_some, Option.map_none, seqQ_normal, seqQ_ret, seqQ_exit, seqQ_goto, blockQ_normal, blockQ_ret, blockQ_exit, blockQ_goto, condW_bool, loopQ_ret, loopQ_exit, loopQ_goto, endQ_ret, endQ_normal,
 lss_i, leq_i, gtr_i, geq_i, eql_i, neq_i, eql_8, neq_8, lss_8, leq_8, gtr_8, geq_8, eql_s, neq_s, eql_b, neq_b, not_b, by_bys, by_nils, load_cp1, beq_true, beq_false, Bool.not_eq_true', decide_eq_true_eq, decide_eq_false_iff_not, decide_true, decide_false,
 Int.toNat_natCast, Int.ofNat_lt, Int.ofNat_le, Int.natCast_inj, Bool.false_eq_true, Bool.true_eq_false, extPV, List.getElem?_cons_zero, List.getElem?_cons_succ, nilckPV, Int.reduceToNat, Int.reduceLE, true_and, and_true, reduceCtorEq, or_false, false_or, or_true, Option.some.injEq, exists_eq_left', Bool.not_true, Bool.not_false, ne_eq, Int.reduceEq, not_true_eq_false, not_false_eq_true, Int.reduceLT, UInt8.reduceLT, UInt8.reduceLE, UInt8.reduceToNat]
        clear h0 h1 h8 h9 h10 h11 h12 h13 h14
        intro e S hj
        rw [hJ] at hj
        obtain ⟨h0, h1, h8, h9, h10, h11, h12, h13, h14, rfl⟩ := hj
        -- no point alone
        refine W_cut (J (.bys .no b) R.bare R.long R.fl) ?_ ?_
        · rcases hx1 with ⟨q1, q2⟩ | q1
          · have q1' : (b.length : Int) = 1 := by omega
            simp (maxSteps := 1000000) (disch := omega) only [h0, h1, h8, h9, h10, h11, h12, h13, h14, hlb, q1', hb0 _ rfl (by omega), q2, hJ, W_seq, W_region, W_cond, W_block, W_skip, W_label, W_exit, W_goto, W_ret, WO_cons, WO_consG, WO_nil, wantedA_eq, wantB, evOp, ev_tmp, ev_const, ev_fn, WN_some, WN_none, updO_some, updO_none, upd_eq,
 ↓reduceIte, Nat.reduceEqDiff, List.nil_append, List.cons_append, List.append_nil, List.map_cons, List.map_nil, env0_zero, env0_succ, env0_nil, Option.map_some, Option.map_none, seqQ_normal, seqQ_ret, seqQ_exit, seqQ_goto, blockQ_normal, blockQ_ret, blockQ_exit, blockQ_goto, condW_bool, loopQ_ret, loopQ_exit, loopQ_goto, endQ_ret, endQ_normal,
 lss_i, leq_i, gtr_i, geq_i, eql_i, neq_i, eql_8, neq_8, lss_8, leq_8, gtr_8, geq_8, eql_s, neq_s, eql_b, neq_b, not_b, by_bys, by_nils, load_cp1, beq_true, beq_false, Bool.not_eq_true', decide_eq_true_eq, decide_eq_false_iff_not, decide_true, decide_false,
 Int.toNat_natCast, Int.ofNat_lt, Int.ofNat_le, Int.natCast_inj, Bool.false_eq_true, Bool.true_eq_false, extPV, List.getElem?_cons_zero, List.getElem?_cons_succ, nilckPV, Int.reduceToNat, Int.reduceLE, true_and, and_true, reduceCtorEq, or_false, false_or, or_true, Option.some.injEq, exists_eq_left', Bool.not_true, Bool.not_false, ne_eq, Int.reduceEq, not_true_eq_false, not_false_eq_true, Int.reduceLT, UInt8.reduceLT, UInt8.reduceLE, UInt8.reduceToNat]
          · have q1' : ¬ (b.length : Int) = 1 := by omega
            simp (maxSteps := 1000000) (disch := omega) only [h0, h1, h8, h9, h10, h11, h12, h13, h14, hlb, q1', hJ, W_seq, W_region, W_cond, W_block, W_skip, W_label, W_exit, W_goto, W_ret, WO_cons, WO_consG, WO_nil, wantedA_eq, wantB, evOp, ev_tmp, ev_const, ev_fn, WN_some, WN_none, updO_some, updO_none, upd_eq,
 ↓reduceIte, Nat.reduceEqDiff, List.nil_append, List.cons_append, List.append_nil, List.map_cons, List.map_nil, env0_zero, env0_succ, env0_nil, Option.map_some, Option.map_none, seqQ_normal, seqQ_ret, seqQ_exit, seqQ_goto, blockQ_normal, blockQ_ret, blockQ_exit, blockQ_goto, condW_bool, loopQ_ret, loopQ_exit, loopQ_goto, endQ_ret, endQ_normal,
 lss_i, leq_i, gtr_i, geq_i, eql_i, neq_i, eql_8, neq_8, lss_8, leq_8, gtr_8, geq_8, eql_s, neq_s, eql_b, neq_b, not_b, by_bys, by_nils, load_cp1, beq_true, beq_false, Bool.not_eq_true', decide_eq_true_eq, decide_eq_false_iff_not, decide_true, decide_false,
 Int.toNat_natCast, Int.ofNat_lt, Int.ofNat_le, Int.natCast_inj, Bool.false_eq_true, Bool.true_eq_false, extPV, List.getElem?_cons_zero, List.getElem?_cons_succ, nilckPV, Int.reduceToNat, Int.reduceLE, true_and, and_true, reduceCtorEq, or_false, false_or, or_true, Option.some.injEq, exists_eq_left', Bool.not_true, Bool.not_false, ne_eq, Int.reduceEq, not_true_eq_false, not_false_eq_true, Int.reduceLT, UInt8.reduceLT, UInt8.reduceLE, UInt8.reduceToNat]
        clear h0 h1 h8 h9 h10 h11 h12 h13 h14
        intro e S hj
        rw [hJ] at hj
        obtain ⟨h0, h1, h8, h9, h10, h11, h12, h13, h14, rfl⟩ := hj
        -- bare
        refine W_cut (J (.bys .no b) (R.bare || decide (0 ≤ bareAt b)) R.long R.fl) ?_ ?_
        · cases hb : R.bare with
          | true =>
            rw [hb] at h10
            simp (maxSteps := 1000000) (disch := omega) only [h0, h1, h8, h9, h10, h11, h12, h13, h14, hJ, Bool.true_or, W_seq, W_region, W_cond, W_block, W_skip, W_label, W_exit, W_goto, W_ret, WO_cons, WO_consG, WO_nil, wantedA_eq, wantB, evOp, ev_tmp, ev_const, ev_fn, WN_some, WN_none, updO_some, updO_none, upd_eq,
 ↓reduceIte, Nat.reduceEqDiff, List.nil_append, List.cons_append, List.append_nil, List.map_cons, List.map_nil, env0_zero, env0_succ, env0_nil, Option.map_some, Option.map_none, seqQ_normal, seqQ_ret, seqQ_exit, seqQ_goto, blockQ_normal, blockQ_ret, blockQ_exit, blockQ_goto, condW_bool, loopQ_ret, loopQ_exit, loopQ_goto, endQ_ret, endQ_normal,
 lss_i, leq_i, gtr_i, geq_i, eql_i, neq_i, eql_8, neq_8, lss_8, leq_8, gtr_8, geq_8, eql_s, neq_s, eql_b, neq_b, not_b, by_bys, by_nils, load_cp1, beq_true, beq_false, Bool.not_eq_true', decide_eq_true_eq, decide_eq_false_iff_not, decide_true, decide_false,
 Int.toNat_natCast, Int.ofNat_lt, Int.ofNat_le, Int.natCast_inj, Bool.false_eq_true, Bool.true_eq_false, extPV, List.getElem?_cons_zero, List.getElem?_cons_succ, nilckPV, Int.reduceToNat, Int.reduceLE, true_and, and_true, reduceCtorEq, or_false, false_or, or_true, Option.some.injEq, exists_eq_left', Bool.not_true, Bool.not_false, ne_eq, Int.reduceEq, not_true_eq_false, not_false_eq_true, Int.reduceLT, UInt8.reduceLT, UInt8.reduceLE, UInt8.reduceToNat]
          | false =>
            rw [hb] at h10
            simp (maxSteps := 1000000) (disch := omega) only [h0, h1, h8, h9, h10, h11, h12, h13, h14, hbar, hJ, Bool.false_or, W_seq, W_region, W_cond, W_block, W_skip, W_label, W_exit, W_goto, W_ret, WO_cons, WO_consG, WO_nil, wantedA_eq, wantB, evOp, ev_tmp, ev_const, ev_fn, WN_some, WN_none, updO_some, updO_none, upd_eq,
 ↓reduceIte, Nat.reduceEqDiff, List.nil_append, List.cons_append, List.append_nil, List.map_cons, List.map_nil, env0_zero, env0_succ, env0_nil, Option.map_some, Option.map_none, seqQ_normal, seqQ_ret, seqQ_exit, seqQ_goto, blockQ_normal, blockQ_ret, blockQ_exit, blockQ_goto, condW_bool, loopQ_ret, loopQ_exit, loopQ_goto, endQ_ret, endQ_normal,
 lss_i, leq_i, gtr_i, geq_i, eql_i, neq_i, eql_8, neq_8, lss_8, leq_8, gtr_8, geq_8, eql_s, neq_s, eql_b, neq_b, not_b, by_bys, by_nils, load_cp1, beq_true, beq_false, Bool.not_eq_true', decide_eq_true_eq, decide_eq_false_iff_not, decide_true, decide_false,
 Int.toNat_natCast, Int.ofNat_lt, Int.ofNat_le, Int.natCast_inj, Bool.false_eq_true, Bool.true_eq_false, extPV, List.getElem?_cons_zero, List.getElem?_cons_succ, nilckPV, Int.reduceToNat, Int.reduceLE, true_and, and_true, reduceCtorEq, or_false, false_or, or_true, Option.some.injEq, exists_eq_left', Bool.not_true, Bool.not_false, ne_eq, Int.reduceEq, not_true_eq_false, not_false_eq_true, Int.reduceLT, UInt8.reduceLT, UInt8.reduceLE, UInt8.reduceToNat]
        clear h0 h1 h8 h9 h10 h11 h12 h13 h14
        intro e S hj
        rw [hJ] at hj
        obtain ⟨h0, h1, h8, h9, h10, h11, h12, h13, h14, rfl⟩ := hj
        -- long
        refine W_cut (J (.bys .no b) (R.bare || decide (0 ≤ bareAt b)) (R.long || decide (999 < b.length)) R.fl) ?_ ?_
        · cases hb : R.long with
          | true =>
            rw [hb] at h11
            simp (maxSteps := 1000000) (disch := omega) only [h0, h1, h8, h9, h10, h11, h12, h13, h14, hJ, Bool.true_or, W_seq, W_region, W_cond, W_block, W_skip, W_label, W_exit, W_goto, W_ret, WO_cons, WO_consG, WO_nil, wantedA_eq, wantB, evOp, ev_tmp, ev_const, ev_fn, WN_some, WN_none, updO_some, updO_none, upd_eq,
 ↓reduceIte, Nat.reduceEqDiff, List.nil_append, List.cons_append, List.append_nil, List.map_cons, List.map_nil, env0_zero, env0_succ, env0_nil, Option.map_some, Option.map_none, seqQ_normal, seqQ_ret, seqQ_exit, seqQ_goto, blockQ_normal, blockQ_ret, blockQ_exit, blockQ_goto, condW_bool, loopQ_ret, loopQ_exit, loopQ_goto, endQ_ret, endQ_normal,
 lss_i, leq_i, gtr_i, geq_i, eql_i, neq_i, eql_8, neq_8, lss_8, leq_8, gtr_8, geq_8, eql_s, neq_s, eql_b, neq_b, not_b, by_bys, by_nils, load_cp1, beq_true, beq_false, Bool.not_eq_true', decide_eq_true_eq, decide_eq_false_iff_not, decide_true, decide_false,
 Int.toNat_natCast, Int.ofNat_lt, Int.ofNat_le, Int.natCast_inj, Bool.false_eq_true, Bool.true_eq_false, extPV, List.getElem?_cons_zero, List.getElem?_cons_succ, nilckPV, Int.reduceToNat, Int.reduceLE, true_and, and_true, reduceCtorEq, or_false, false_or, or_true, Option.some.injEq, exists_eq_left', Bool.not_true, Bool.not_false, ne_eq, Int.reduceEq, not_true_eq_false, not_false_eq_true, Int.reduceLT, UInt8.reduceLT, UInt8.reduceLE, UInt8.reduceToNat]
          | false =>
            rw [hb] at h11
            have hd : decide ((999 : Int) < (b.length : Int)) = decide (999 < b.length) := by congr 1; apply propext; omega
            simp (maxSteps := 1000000) (disch := omega) only [h0, h1, h8, h9, h10, h11, h12, h13, h14, hlb, hd, hJ, Bool.false_or, W_seq, W_region, W_cond, W_block, W_skip, W_label, W_exit, W_goto, W_ret, WO_cons, WO_consG, WO_nil, wantedA_eq, wantB, evOp, ev_tmp, ev_const, ev_fn, WN_some, WN_none, updO_some, updO_none, upd_eq,
 ↓reduceIte, Nat.reduceEqDiff, List.nil_append, List.cons_append, List.append_nil, List.map_cons, List.map_nil, env0_zero, env0_succ, env0_nil, Option.map_some, Option.map_none, seqQ_normal, seqQ_ret, seqQ_exit, seqQ_goto, blockQ_normal, blockQ_ret, blockQ_exit, blockQ_goto, condW_bool, loopQ_ret, loopQ_exit, loopQ_goto, endQ_ret, endQ_normal,
 lss_i, leq_i, gtr_i, geq_i, eql_i, neq_i, eql_8, neq_8, lss_8, leq_8, gtr_8, geq_8, eql_s, neq_s, eql_b, neq_b, not_b, by_bys, by_nils, load_cp1, beq_true, beq_false, Bool.not_eq_true', decide_eq_true_eq, decide_eq_false_iff_not, decide_true, decide_false,
 Int.toNat_natCast, Int.ofNat_lt, Int.ofNat_le, Int.natCast_inj, Bool.false_eq_true, Bool.true_eq_false, extPV, List.getElem?_cons_zero, List.getElem?_cons_succ, nilckPV, Int.reduceToNat, Int.reduceLE, true_and, and_true, reduceCtorEq, or_false, false_or, or_true, Option.some.injEq, exists_eq_left', Bool.not_true, Bool.not_false, ne_eq, Int.reduceEq, not_true_eq_false, not_false_eq_true, Int.reduceLT, UInt8.reduceLT, UInt8.reduceLE, UInt8.reduceToNat]
        clear h0 h1 h8 h9 h10 h11 h12 h13 h14
        intro e S hj
        rw [hJ] at hj
        obtain ⟨h0, h1, h8, h9, h10, h11, h12, h13, h14, rfl⟩ := hj
        -- the point
        refine W_cut (J (.bys .no u) (R.bare || decide (0 ≤ bareAt b)) (R.long || decide (999 < b.length)) R.fl) ?_ ?_
        · rcases hx2 with ⟨q0, q1, q2⟩ | ⟨q0, q1, q2⟩ | ⟨q1, q2⟩
          · have hsl : slcPV 1 (PV.bys Tok.no b) (some (.int .i64 1)) none none = some (.bys .no u) := by
              rw [slc_lo hbx (by omega) (by simp; omega), q2]; rfl
            have q0' : (0 : Int) < (b.length : Int) := by omega
            simp (maxSteps := 1000000) (disch := omega) only [h0, h1, h8, h9, h10, h11, h12, h13, h14, hlb, q0', hb0 _ q1 q0, hsl, hJ, W_seq, W_region, W_cond, W_block, W_skip, W_label, W_exit, W_goto, W_ret, WO_cons, WO_consG, WO_nil, wantedA_eq, wantB, evOp, ev_tmp, ev_const, ev_fn, WN_some, WN_none, updO_some, updO_none, upd_eq,
 ↓reduceIte, Nat.reduceEqDiff, List.nil_append, List.cons_append, List.append_nil, List.map_cons, List.map_nil, env0_zero, env0_succ, env0_nil, Option.map_some, Option.map_none, seqQ_normal, seqQ_ret, seqQ_exit, seqQ_goto, blockQ_normal, blockQ_ret, blockQ_exit, blockQ_goto, condW_bool, loopQ_ret, loopQ_exit, loopQ_goto, endQ_ret, endQ_normal,
 lss_i, leq_i, gtr_i, geq_i, eql_i, neq_i, eql_8, neq_8, lss_8, leq_8, gtr_8, geq_8, eql_s, neq_s, eql_b, neq_b, not_b, by_bys, by_nils, load_cp1, beq_true, beq_false, Bool.not_eq_true', decide_eq_true_eq, decide_eq_false_iff_not, decide_true, decide_false,
 Int.toNat_natCast, Int.ofNat_lt, Int.ofNat_le, Int.natCast_inj, Bool.false_eq_true, Bool.true_eq_false, extPV, List.getElem?_cons_zero, List.getElem?_cons_succ, nilckPV, Int.reduceToNat, Int.reduceLE, true_and, and_true, reduceCtorEq, or_false, false_or, or_true, Option.some.injEq, exists_eq_left', Bool.not_true, Bool.not_false, ne_eq, Int.reduceEq, not_true_eq_false, not_false_eq_true, Int.reduceLT, UInt8.reduceLT, UInt8.reduceLE, UInt8.reduceToNat]
          · have q0' : (0 : Int) < (b.length : Int) := by omega
            simp (maxSteps := 1000000) (disch := omega) only [h0, h1, h8, h9, h10, h11, h12, h13, h14, hlb, q0', hb0 _ rfl q0, q1, q2, hJ, W_seq, W_region, W_cond, W_block, W_skip, W_label, W_exit, W_goto, W_ret, WO_cons, WO_consG, WO_nil, wantedA_eq, wantB, evOp, ev_tmp, ev_const, ev_fn, WN_some, WN_none, updO_some, updO_none, upd_eq,
 ↓reduceIte, Nat.reduceEqDiff, List.nil_append, List.cons_append, List.append_nil, List.map_cons, List.map_nil, env0_zero, env0_succ, env0_nil, Option.map_some, Option.map_none, seqQ_normal, seqQ_ret, seqQ_exit, seqQ_goto, blockQ_normal, blockQ_ret, blockQ_exit, blockQ_goto, condW_bool, loopQ_ret, loopQ_exit, loopQ_goto, endQ_ret, endQ_normal,
 lss_i, leq_i, gtr_i, geq_i, eql_i, neq_i, eql_8, neq_8, lss_8, leq_8, gtr_8, geq_8, eql_s, neq_s, eql_b, neq_b, not_b, by_bys, by_nils, load_cp1, beq_true, beq_false, Bool.not_eq_true', decide_eq_true_eq, decide_eq_false_iff_not, decide_true, decide_false,
 Int.toNat_natCast, Int.ofNat_lt, Int.ofNat_le, Int.natCast_inj, Bool.false_eq_true, Bool.true_eq_false, extPV, List.getElem?_cons_zero, List.getElem?_cons_succ, nilckPV, Int.reduceToNat, Int.reduceLE, true_and, and_true, reduceCtorEq, or_false, false_or, or_true, Option.some.injEq, exists_eq_left', Bool.not_true, Bool.not_false, ne_eq, Int.reduceEq, not_true_eq_false, not_false_eq_true, Int.reduceLT, UInt8.reduceLT, UInt8.reduceLE, UInt8.reduceToNat]
          · have q0' : ¬ (0 : Int) < (b.length : Int) := by rw [q1]; simp
            simp (maxSteps := 1000000) (disch := omega) only [h0, h1, h8, h9, h10, h11, h12, h13, h14, hlb, q0', q2, hJ, W_seq, W_region, W_cond, W_block, W_skip, W_label, W_exit, W_goto, W_ret, WO_cons, WO_consG, WO_nil, wantedA_eq, wantB, evOp, ev_tmp, ev_const, ev_fn, WN_some, WN_none, updO_some, updO_none, upd_eq,
 ↓reduceIte, Nat.reduceEqDiff, List.nil_append, List.cons_append, List.append_nil, List.map_cons, List.map_nil, env0_zero, env0_succ, env0_nil, Option.map_some, Option.map_none, seqQ_normal, seqQ_ret, seqQ_exit, seqQ_goto, blockQ_normal, blockQ_ret, blockQ_exit, blockQ_goto, condW_bool, loopQ_ret, loopQ_exit, loopQ_goto, endQ_ret, endQ_normal,
 lss_i, leq_i, gtr_i, geq_i, eql_i, neq_i, eql_8, neq_8, lss_8, leq_8, gtr_8, geq_8, eql_s, neq_s, eql_b, neq_b, not_b, by_bys, by_nils, load_cp1, beq_true, beq_false, Bool.not_eq_true', decide_eq_true_eq, decide_eq_false_iff_not, decide_true, decide_false,
 Int.toNat_natCast, Int.ofNat_lt, Int.ofNat_le, Int.natCast_inj, Bool.false_eq_true, Bool.true_eq_false, extPV, List.getElem?_cons_zero, List.getElem?_cons_succ, nilckPV, Int.reduceToNat, Int.reduceLE, true_and, and_true, reduceCtorEq, or_false, false_or, or_true, Option.some.injEq, exists_eq_left', Bool.not_true, Bool.not_false, ne_eq, Int.reduceEq, not_true_eq_false, not_false_eq_true, Int.reduceLT, UInt8.reduceLT, UInt8.reduceLE, UInt8.reduceToNat]
        clear h0 h1 h8 h9 h10 h11 h12 h13 h14
        intro e S hj
        rw [hJ] at hj
        obtain ⟨h0, h1, h8, h9, h10, h11, h12, h13, h14, rfl⟩ := hj
        -- long
        refine W_cut (J (.bys .no u) (R.take b).bare (R.take b).long R.fl) ?_ ?_
        · rw [show (R.take b).long = ((R.long || decide (999 < b.length)) || decide (998 < u.length)) by rw [hu]; rfl, show (R.take b).bare = (R.bare || decide (0 ≤ bareAt b)) from rfl]
          cases hb : (R.long || decide (999 < b.length)) with
          | true =>
            rw [hb] at h11
            simp (maxSteps := 1000000) (disch := omega) only [h0, h1, h8, h9, h10, h11, h12, h13, h14, hJ, Bool.true_or, W_seq, W_region, W_cond, W_block, W_skip, W_label, W_exit, W_goto, W_ret, WO_cons, WO_consG, WO_nil, wantedA_eq, wantB, evOp, ev_tmp, ev_const, ev_fn, WN_some, WN_none, updO_some, updO_none, upd_eq,
 ↓reduceIte, Nat.reduceEqDiff, List.nil_append, List.cons_append, List.append_nil, List.map_cons, List.map_nil, env0_zero, env0_succ, env0_nil, Option.map_some, Option.map_none, seqQ_normal, seqQ_ret, seqQ_exit, seqQ_goto, blockQ_normal, blockQ_ret, blockQ_exit, blockQ_goto, condW_bool, loopQ_ret, loopQ_exit, loopQ_goto, endQ_ret, endQ_normal,
 lss_i, leq_i, gtr_i, geq_i, eql_i, neq_i, eql_8, neq_8, lss_8, leq_8, gtr_8, geq_8, eql_s, neq_s, eql_b, neq_b, not_b, by_bys, by_nils, load_cp1, beq_true, beq_false, Bool.not_eq_true', decide_eq_true_eq, decide_eq_false_iff_not, decide_true, decide_false,
 Int.toNat_natCast, Int.ofNat_lt, Int.ofNat_le, Int.natCast_inj, Bool.false_eq_true, Bool.true_eq_false, extPV, List.getElem?_cons_zero, List.getElem?_cons_succ, nilckPV, Int.reduceToNat, Int.reduceLE, true_and, and_true, reduceCtorEq, or_false, false_or, or_true, Option.some.injEq, exists_eq_left', Bool.not_true, Bool.not_false, ne_eq, Int.reduceEq, not_true_eq_false, not_false_eq_true, Int.reduceLT, UInt8.reduceLT, UInt8.reduceLE, UInt8.reduceToNat]
          | false =>
            rw [hb] at h11
            have hd : decide ((998 : Int) < (u.length : Int)) = decide (998 < u.length) := by congr 1; apply propext; omega
            simp (maxSteps := 1000000) (disch := omega) only [h0, h1, h8, h9, h10, h11, h12, h13, h14, hlu, hd, hJ, Bool.false_or, W_seq, W_region, W_cond, W_block, W_skip, W_label, W_exit, W_goto, W_ret, WO_cons, WO_consG, WO_nil, wantedA_eq, wantB, evOp, ev_tmp, ev_const, ev_fn, WN_some, WN_none, updO_some, updO_none, upd_eq,
 ↓reduceIte, Nat.reduceEqDiff, List.nil_append, List.cons_append, List.append_nil, List.map_cons, List.map_nil, env0_zero, env0_succ, env0_nil, Option.map_some, Option.map_none, seqQ_normal, seqQ_ret, seqQ_exit, seqQ_goto, blockQ_normal, blockQ_ret, blockQ_exit, blockQ_goto, condW_bool, loopQ_ret, loopQ_exit, loopQ_goto, endQ_ret, endQ_normal,
 lss_i, leq_i, gtr_i, geq_i, eql_i, neq_i, eql_8, neq_8, lss_8, leq_8, gtr_8, geq_8, eql_s, neq_s, eql_b, neq_b, not_b, by_bys, by_nils, load_cp1, beq_true, beq_false, Bool.not_eq_true', decide_eq_true_eq, decide_eq_false_iff_not, decide_true, decide_false,
 Int.toNat_natCast, Int.ofNat_lt, Int.ofNat_le, Int.natCast_inj, Bool.false_eq_true, Bool.true_eq_false, extPV, List.getElem?_cons_zero, List.getElem?_cons_succ, nilckPV, Int.reduceToNat, Int.reduceLE, true_and, and_true, reduceCtorEq, or_false, false_or, or_true, Option.some.injEq, exists_eq_left', Bool.not_true, Bool.not_false, ne_eq, Int.reduceEq, not_true_eq_false, not_false_eq_true, Int.reduceLT, UInt8.reduceLT, UInt8.reduceLE, UInt8.reduceToNat]
        clear h0 h1 h8 h9 h10 h11 h12 h13 h14
        intro e S hj
        rw [hJ] at hj
        obtain ⟨h0, h1, h8, h9, h10, h11, h12, h13, h14, rfl⟩ := hj
        -- full
        refine W_cut (J (.bys .no u) (R.take b).bare (R.take b).long (R.take b).fl) ?_ ?_
        · rw [show (R.take b).fl = (R.fl || decide (M - R.text.length < u.length + 2)) by rw [hu, ← hRm]; rfl]
          cases hb : R.fl with
          | true =>
            rw [hb] at h12
            simp (maxSteps := 1000000) (disch := omega) only [h0, h1, h8, h9, h10, h11, h12, h13, h14, hJ, Bool.true_or, W_seq, W_region, W_cond, W_block, W_skip, W_label, W_exit, W_goto, W_ret, WO_cons, WO_consG, WO_nil, wantedA_eq, wantB, evOp, ev_tmp, ev_const, ev_fn, WN_some, WN_none, updO_some, updO_none, upd_eq,
 ↓reduceIte, Nat.reduceEqDiff, List.nil_append, List.cons_append, List.append_nil, List.map_cons, List.map_nil, env0_zero, env0_succ, env0_nil, Option.map_some, Option.map_none, seqQ_normal, seqQ_ret, seqQ_exit, seqQ_goto, blockQ_normal, blockQ_ret, blockQ_exit, blockQ_goto, condW_bool, loopQ_ret, loopQ_exit, loopQ_goto, endQ_ret, endQ_normal,
 lss_i, leq_i, gtr_i, geq_i, eql_i, neq_i, eql_8, neq_8, lss_8, leq_8, gtr_8, geq_8, eql_s, neq_s, eql_b, neq_b, not_b, by_bys, by_nils, load_cp1, beq_true, beq_false, Bool.not_eq_true', decide_eq_true_eq, decide_eq_false_iff_not, decide_true, decide_false,
 Int.toNat_natCast, Int.ofNat_lt, Int.ofNat_le, Int.natCast_inj, Bool.false_eq_true, Bool.true_eq_false, extPV, List.getElem?_cons_zero, List.getElem?_cons_succ, nilckPV, Int.reduceToNat, Int.reduceLE, true_and, and_true, reduceCtorEq, or_false, false_or, or_true, Option.some.injEq, exists_eq_left', Bool.not_true, Bool.not_false, ne_eq, Int.reduceEq, not_true_eq_false, not_false_eq_true, Int.reduceLT, UInt8.reduceLT, UInt8.reduceLE, UInt8.reduceToNat]
          | false =>
            rw [hb] at h12
            have hd : decide (M < ((R.text.length + u.length : Nat) : Int) + 2) = decide (M - (R.text.length : Int) < (u.length : Int) + 2) := by congr 1; apply propext; omega
            have ha : ∀ ek, binPV .add ek (.int .i64 (R.text.length : Int)) (.int .i64 (u.length : Int)) = some (.int .i64 ((R.text.length + u.length : Nat) : Int)) := fun ek => by
              rw [add_i (by omega) (by omega)]; simp
            simp (maxSteps := 1000000) (disch := omega) only [h0, h1, h8, h9, h10, h11, h12, h13, h14, hlu, hlv9, ha, add_i, hd, hJ, Bool.false_or, W_seq, W_region, W_cond, W_block, W_skip, W_label, W_exit, W_goto, W_ret, WO_cons, WO_consG, WO_nil, wantedA_eq, wantB, evOp, ev_tmp, ev_const, ev_fn, WN_some, WN_none, updO_some, updO_none, upd_eq,
 ↓reduceIte, Nat.reduceEqDiff, List.nil_append, List.cons_append, List.append_nil, List.map_cons, List.map_nil, env0_zero, env0_succ, env0_nil, Option.map_some, Option.map_none, seqQ_normal, seqQ_ret, seqQ_exit, seqQ_goto, blockQ_normal, blockQ_ret, blockQ_exit, blockQ_goto, condW_bool, loopQ_ret, loopQ_exit, loopQ_goto, endQ_ret, endQ_normal,
 lss_i, leq_i, gtr_i, geq_i, eql_i, neq_i, eql_8, neq_8, lss_8, leq_8, gtr_8, geq_8, eql_s, neq_s, eql_b, neq_b, not_b, by_bys, by_nils, load_cp1, beq_true, beq_false, Bool.not_eq_true', decide_eq_true_eq, decide_eq_false_iff_not, decide_true, decide_false,
 Int.toNat_natCast, Int.ofNat_lt, Int.ofNat_le, Int.natCast_inj, Bool.false_eq_true, Bool.true_eq_false, extPV, List.getElem?_cons_zero, List.getElem?_cons_succ, nilckPV, Int.reduceToNat, Int.reduceLE, true_and, and_true, reduceCtorEq, or_false, false_or, or_true, Option.some.injEq, exists_eq_left', Bool.not_true, Bool.not_false, ne_eq, Int.reduceEq, not_true_eq_false, not_false_eq_true, Int.reduceLT, UInt8.reduceLT, UInt8.reduceLE, UInt8.reduceToNat]
        clear h0 h1 h8 h9 h10 h11 h12 h13 h14
        intro e S hj
        rw [hJ] at hj
        obtain ⟨h0, h1, h8, h9, h10, h11, h12, h13, h14, rfl⟩ := hj
        have htx : (R.take b).text = if (R.take b).fl then R.text else R.text ++ u ++ [13, 10] := by rw [hu]; rfl
        cases hb : (R.take b).fl with
        | true =>
          rw [hb] at h12 htx
          simp (maxSteps := 1000000) (disch := omega) only [h0, h1, h8, h9, h10, h11, h12, h13, h14, add_n, W_seq, W_region, W_cond, W_block, W_skip, W_label, W_exit, W_goto, W_ret, WO_cons, WO_consG, WO_nil, wantedA_eq, wantB, evOp, ev_tmp, ev_const, ev_fn, WN_some, WN_none, updO_some, updO_none, upd_eq,
 ↓reduceIte, Nat.reduceEqDiff, List.nil_append, List.cons_append, List.append_nil, List.map_cons, List.map_nil, env0_zero, env0_succ, env0_nil, Option.map_some, Option.map_none, seqQ_normal, seqQ_ret, seqQ_exit, seqQ_goto, blockQ_normal, blockQ_ret, blockQ_exit, blockQ_goto, condW_bool, loopQ_ret, loopQ_exit, loopQ_goto, endQ_ret, endQ_normal,
 lss_i, leq_i, gtr_i, geq_i, eql_i, neq_i, eql_8, neq_8, lss_8, leq_8, gtr_8, geq_8, eql_s, neq_s, eql_b, neq_b, not_b, by_bys, by_nils, load_cp1, beq_true, beq_false, Bool.not_eq_true', decide_eq_true_eq, decide_eq_false_iff_not, decide_true, decide_false,
 Int.toNat_natCast, Int.ofNat_lt, Int.ofNat_le, Int.natCast_inj, Bool.false_eq_true, Bool.true_eq_false, extPV, List.getElem?_cons_zero, List.getElem?_cons_succ, nilckPV, Int.reduceToNat, Int.reduceLE, true_and, and_true, reduceCtorEq, or_false, false_or, or_true, Option.some.injEq, exists_eq_left', Bool.not_true, Bool.not_false, ne_eq, Int.reduceEq, not_true_eq_false, not_false_eq_true, Int.reduceLT, UInt8.reduceLT, UInt8.reduceLE, UInt8.reduceToNat]
          refine loopQ_intro hmeas ?_
          refine hfin _ _ v h0 h1 h8 h9 (by rw [htx]; exact hlv) h10 h11 (by rw [hb]; exact h12) ?_
          simp [upd_eq]
        | false =>
          rw [hb] at h12 htx
          simp (maxSteps := 1000000) (disch := omega) only [h0, h1, h8, h9, h10, h11, h12, h13, h14, add_n, a1, hlit2, freshT_eq, b1, W_seq, W_region, W_cond, W_block, W_skip, W_label, W_exit, W_goto, W_ret, WO_cons, WO_consG, WO_nil, wantedA_eq, wantB, evOp, ev_tmp, ev_const, ev_fn, WN_some, WN_none, updO_some, updO_none, upd_eq,
 ↓reduceIte, Nat.reduceEqDiff, List.nil_append, List.cons_append, List.append_nil, List.map_cons, List.map_nil, env0_zero, env0_succ, env0_nil, Option.map_some, Option.map_none, seqQ_normal, seqQ_ret, seqQ_exit, seqQ_goto, blockQ_normal, blockQ_ret, blockQ_exit, blockQ_goto, condW_bool, loopQ_ret, loopQ_exit, loopQ_goto, endQ_ret, endQ_normal,
 lss_i, leq_i, gtr_i, geq_i, eql_i, neq_i, eql_8, neq_8, lss_8, leq_8, gtr_8, geq_8, eql_s, neq_s, eql_b, neq_b, not_b, by_bys, by_nils, load_cp1, beq_true, beq_false, Bool.not_eq_true', decide_eq_true_eq, decide_eq_false_iff_not, decide_true, decide_false,
 Int.toNat_natCast, Int.ofNat_lt, Int.ofNat_le, Int.natCast_inj, Bool.false_eq_true, Bool.true_eq_false, extPV, List.getElem?_cons_zero, List.getElem?_cons_succ, nilckPV, Int.reduceToNat, Int.reduceLE, true_and, and_true, reduceCtorEq, or_false, false_or, or_true, Option.some.injEq, exists_eq_left', Bool.not_true, Bool.not_false, ne_eq, Int.reduceEq, not_true_eq_false, not_false_eq_true, Int.reduceLT, UInt8.reduceLT, UInt8.reduceLE, UInt8.reduceToNat]
          refine loopQ_intro hmeas ?_
          refine hfin _ _ v2 h0 h1 h8 rfl (by rw [htx]; exact b5) h10 h11 (by rw [hb]; exact h12) ?_
          simp [upd_eq]
end Go.Ab

/-
  The law DotsNobody.
-/
namespace Go.Ab
open Go
set_option linter.unusedVariables false
set_option linter.unusedSimpArgs false

theorem put_run {l : List UInt8} {m : Int} : ((rd0 m).put l).2.2 = (runSegs (rd0 m) 0 (segs l [])).2.isSome ∧ errOf ((rd0 m).put l).1 = errOf (runSegs (rd0 m) 0 (segs l [])).1 ∧
    (((rd0 m).put l).2.1 : Int) = runPos (runSegs (rd0 m) 0 (segs l [])).2 l.length := by
  have h := put_segs l.length l rfl (rd0 m) 0 (by simp [rd0])
  have hn : (rd0 m).norm = rd0 m := rfl
  have hl : (rd0 m).line = [] := rfl
  rw [hn, hl] at h
  obtain ⟨h1, h2, h3⟩ := h
  have he : errOf ((rd0 m).put l).1 = errOf (runSegs (rd0 m) 0 (segs l [])).1 := by rw [← h1]; rfl
  have hc := put_count l (rd0 m)
  cases hr : (runSegs (rd0 m) 0 (segs l [])).2 with
  | none =>
    have h4 := h3 hr
    refine ⟨by rw [h4]; rfl, he, ?_⟩
    rw [hc.2 h4]; rfl
  | some p =>
    obtain ⟨h4, h5⟩ := h2 p hr
    refine ⟨by rw [h4]; rfl, he, ?_⟩
    simp only [List.length_nil] at h5
    show _ = (p : Int)
    omega

set_option maxHeartbeats 4000000 in
theorem law_DotsNobody {x : PV} {l : List UInt8} (hx : x.by = some l) (hxt : x.tokLt 0 = true) : ∃ s', call prog (.fn 13 []) [x] ⟨[], [], [], 0⟩ = some (.bool true, s') := by
  refine law_of_W prog_13 rfl ?_
  unfold F_posthornlaw05_DotsNobody; dsimp only
  by_cases hl : 2000 < l.length
  · have hl' : (2000 : Int) < (l.length : Int) := by omega
    simp (maxSteps := 1000000) (disch := omega) only [len_by hx, hl', List.length_nil, alive5, W_seq, W_region, W_cond, W_block, W_skip, W_label, W_exit, W_goto, W_ret, WO_cons, WO_consG, WO_nil, wantedA_eq, wantB, evOp, ev_tmp, ev_const, ev_fn, WN_some, WN_none, updO_some, updO_none, upd_eq,
 ↓reduceIte, Nat.reduceEqDiff, List.nil_append, List.cons_append, List.append_nil, List.map_cons, List.map_nil, env0_zero, env0_succ, env0_nil, Option.map_some, Option.map_none, seqQ_normal, seqQ_ret, seqQ_exit, seqQ_goto, blockQ_normal, blockQ_ret, blockQ_exit, blockQ_goto, condW_bool, loopQ_ret, loopQ_exit, loopQ_goto, endQ_ret, endQ_normal,
 lss_i, leq_i, gtr_i, geq_i, eql_i, neq_i, eql_8, neq_8, lss_8, leq_8, gtr_8, geq_8, eql_s, neq_s, eql_b, neq_b, not_b, by_bys, by_nils, load_cp1, beq_true, beq_false, Bool.not_eq_true', decide_eq_true_eq, decide_eq_false_iff_not, decide_true, decide_false,
 Int.toNat_natCast, Int.ofNat_lt, Int.ofNat_le, Int.natCast_inj, Bool.false_eq_true, Bool.true_eq_false, extPV, List.getElem?_cons_zero, List.getElem?_cons_succ, nilckPV, Int.reduceToNat, Int.reduceLE, true_and, and_true, reduceCtorEq, or_false, false_or, or_true, Option.some.injEq, exists_eq_left', Bool.not_true, Bool.not_false, ne_eq, Int.reduceEq, not_true_eq_false, not_false_eq_true, Int.reduceLT, UInt8.reduceLT, UInt8.reduceLE, UInt8.reduceToNat]
  have hl' : ¬ (2000 : Int) < (l.length : Int) := by omega
  obtain ⟨s1, vl1, vt1, a1, a2, a3⟩ := Put_spec (x := x) (b := 0) (rds0 (s := ⟨[(rd0 0).vals .nils .nils], [], [], 0⟩) (m := 0) rfl) hx rfl (by simp [rd0]; omega) (by simp [rd0]) (by simp [rd0])
  have e0 : [PV.int .i64 0, .nils, .nils, .bool false, .bool false, .bool false, .bool false] = (rd0 0).vals .nils .nils := rfl
  obtain ⟨s2, v, f1⟩ := Frame_spec (st := s1) (m := 0) hx (by omega) (by omega) (by omega)
  have hz0 : ((0 : Nat) : Int) = 0 := rfl
  obtain ⟨p1, p2, p3⟩ := put_run (l := l) (m := 0)
  simp only [Int.max_self] at f1
  rw [← p3, ← p1, ← p2] at f1
  simp (maxSteps := 1000000) (disch := omega) only [len_by hx, hl', List.length_nil, Put_nil, Text_nil, allocPV, e0, a1, f1, alive5, len_by by_nils, List.length_nil, hz0, W_seq, W_region, W_cond, W_block, W_skip, W_label, W_exit, W_goto, W_ret, WO_cons, WO_consG, WO_nil, wantedA_eq, wantB, evOp, ev_tmp, ev_const, ev_fn, WN_some, WN_none, updO_some, updO_none, upd_eq,
 ↓reduceIte, Nat.reduceEqDiff, List.nil_append, List.cons_append, List.append_nil, List.map_cons, List.map_nil, env0_zero, env0_succ, env0_nil, Option.map_some, Option.map_none, seqQ_normal, seqQ_ret, seqQ_exit, seqQ_goto, blockQ_normal, blockQ_ret, blockQ_exit, blockQ_goto, condW_bool, loopQ_ret, loopQ_exit, loopQ_goto, endQ_ret, endQ_normal,
 lss_i, leq_i, gtr_i, geq_i, eql_i, neq_i, eql_8, neq_8, lss_8, leq_8, gtr_8, geq_8, eql_s, neq_s, eql_b, neq_b, not_b, by_bys, by_nils, load_cp1, beq_true, beq_false, Bool.not_eq_true', decide_eq_true_eq, decide_eq_false_iff_not, decide_true, decide_false,
 Int.toNat_natCast, Int.ofNat_lt, Int.ofNat_le, Int.natCast_inj, Bool.false_eq_true, Bool.true_eq_false, extPV, List.getElem?_cons_zero, List.getElem?_cons_succ, nilckPV, Int.reduceToNat, Int.reduceLE, true_and, and_true, reduceCtorEq, or_false, false_or, or_true, Option.some.injEq, exists_eq_left', Bool.not_true, Bool.not_false, ne_eq, Int.reduceEq, not_true_eq_false, not_false_eq_true, Int.reduceLT, UInt8.reduceLT, UInt8.reduceLE, UInt8.reduceToNat]
end Go.Ab

/-
  Plain law: a frame is read as the text that it is of.
-/
namespace Go.Ab
set_option linter.unusedVariables false
set_option linter.unusedSimpArgs false

theorem segs_stuff2 (more : List UInt8) : ∀ (r : List (Nat × List UInt8 × Bool)), (∀ q ∈ r, NoCrlf q.2.1) → segs (stuffLines r ++ 46 :: 13 :: 10 :: more) [] = r.map (fun q => (dotted q, true)) ++ ([46], true) :: segs more [] := by
  intro r
  induction r with
  | nil =>
    intro _
    have := segs_line [46] [] more (by intro c hc; simp at hc; subst hc; decide)
    simpa [stuffLines] using this
  | cons q r ih =>
    intro h
    have h1 : stuffLines (q :: r) ++ 46 :: 13 :: 10 :: more = dotted q ++ 13 :: 10 :: (stuffLines r ++ 46 :: 13 :: 10 :: more) := by
      simp [stuffLines, stuffLine, dotted]
    rw [h1, segs_line _ _ _ (dotted_no (h q (by simp))), ih (fun q' hq' => h q' (by simp [hq']))]
    simp

theorem right_len {n : Nat} {r : List (Nat × List UInt8 × Bool)} (h : (rightGo n r).2 = 0) : ∀ q ∈ r, q.2.1.length ≤ 998 := by
  intro q hq
  induction r with
  | nil => simp at hq
  | cons q' r ih =>
    simp only [rightGo] at h
    by_cases hf : (faultOf n q').2 = 0
    · rw [if_neg (by simpa using hf)] at h
      rcases List.mem_cons.1 hq with rfl | hq
      · simp only [faultOf] at hf
        split at hf
        · simp at hf
        · split at hf
          · simp at hf
          · omega
      · exact ih h hq
    · rw [if_pos (by simpa using hf)] at h
      exact absurd h hf

theorem bareAt_no {m : List UInt8} (h : NoCrlf m) : bareAt m = -1 := by
  unfold bareAt
  have : m.findIdx? crlf = none := by
    rw [List.findIdx?_eq_none_iff]
    exact h
  rw [this]

def joinSegs (ss : List (List UInt8 × Bool)) : List UInt8 := ss.flatMap fun s => s.1 ++ if s.2 then [13, 10] else []
theorem segs_join : ∀ (m acc : List UInt8), joinSegs (segs m acc) = acc ++ m := by
  intro m acc
  induction m, acc using segs.induct with
  | case1 => simp [segs, joinSegs]
  | case2 acc h => simp [segs, h, joinSegs]
  | case3 c acc => simp [segs, joinSegs]
  | case4 acc c d r h ih =>
    obtain ⟨rfl, rfl⟩ := h
    simp only [segs, and_self, if_true, joinSegs, List.flatMap_cons] at ih ⊢
    rw [ih]; simp
  | case5 acc c d r h ih =>
    simp only [segs, h, if_false]
    rw [ih]; simp

theorem undot_dotted {q : Nat × List UInt8 × Bool} : unDot (dotted q) = q.2.1 := by
  obtain ⟨a, b, w⟩ := q
  cases b with
  | nil => simp [dotted, unDot]
  | cons c r =>
    by_cases hc : c = 46
    · subst hc; simp [dotted, unDot]
    · have : ¬ 46 = c := fun h => hc h.symm
      simp [dotted, unDot, hc, this]
theorem dotted_ne {q : Nat × List UInt8 × Bool} : dotted q ≠ [46] := by
  obtain ⟨a, b, w⟩ := q
  cases b with
  | nil => simp [dotted]
  | cons c r =>
    by_cases hc : c = 46
    · subst hc; simp [dotted]
    · simp [dotted, hc]
theorem dotted_len {q : Nat × List UInt8 × Bool} : (dotted q).length ≤ q.2.1.length + 1 := by
  unfold dotted; split
  · simp; try omega
  · simp

/-- What the lines of a right text make. -/
def textOf (r : List (Nat × List UInt8 × Bool)) : List UInt8 := r.flatMap fun q => q.2.1 ++ [13, 10]

theorem runSegs_stuff (tail : List (List UInt8 × Bool)) : ∀ (r : List (Nat × List UInt8 × Bool)) (R : Rd) (a : Nat), (∀ q ∈ r, NoCrlf q.2.1) → (∀ q ∈ r, q.2.1.length ≤ 998) → R.bare = false → R.long = false → R.fl = false →
    (R.text.length : Int) + (textOf r).length ≤ R.most →
    ∃ R', runSegs R a (r.map (fun q => (dotted q, true)) ++ ([46], true) :: tail) = (R', some (a + (stuffLines r).length + 3)) ∧ errOf R' = 0 ∧ R'.text = R.text ++ textOf r := by
  intro r
  induction r with
  | nil =>
    intro R a _ _ h1 h2 h3 _
    refine ⟨R, by simp [runSegs, stuffLines], ?_, by simp [textOf]⟩
    simp [errOf, faultC, h1, h2, h3]
  | cons q r ih =>
    intro R a hn hl h1 h2 h3 hm
    have hq := hn q (by simp)
    have hql := hl q (by simp)
    have hd : ¬ 0 ≤ bareAt (dotted q) := by rw [bareAt_no (dotted_no hq)]; decide
    have hdl := dotted_len (q := q)
    have hm' : (R.text.length : Int) + (q.2.1.length + 2) + (textOf r).length ≤ R.most := by
      have : (textOf (q :: r)).length = q.2.1.length + 2 + (textOf r).length := by simp [textOf]; omega
      rw [this] at hm; omega
    have t1 : (R.take (dotted q)).bare = false := by simp [Rd.take, h1, hd]
    have t2 : (R.take (dotted q)).long = false := by simp [Rd.take, h2, undot_dotted]; omega
    have t3 : (R.take (dotted q)).fl = false := by simp [Rd.take, h3, undot_dotted]; omega
    have t4 : (R.take (dotted q)).text = R.text ++ q.2.1 ++ [13, 10] := by
      show (if (R.take (dotted q)).fl then R.text else R.text ++ unDot (dotted q) ++ [13, 10]) = _
      rw [t3, undot_dotted]; simp
    obtain ⟨R', k1, k2, k3⟩ := ih (R.take (dotted q)) (a + (dotted q).length + 2) (fun q' h => hn q' (by simp [h])) (fun q' h => hl q' (by simp [h])) t1 t2 t3 (by
      rw [t4, take_most]; simp; omega)
    refine ⟨R', ?_, k2, ?_⟩
    · simp only [List.map_cons, List.cons_append, runSegs, dotted_ne, if_true, if_false, k1]
      have : (stuffLines (q :: r)).length = (dotted q).length + 2 + (stuffLines r).length := by simp [stuffLines, stuffLine, dotted]; omega
      rw [this]
      congr 2; omega
    · rw [k3, t4]; simp [textOf]

theorem place_map2 {ss : List (List UInt8 × Bool)} {a : Nat} : (place a ss).map (fun q => q.2) = ss := by
  induction ss generalizing a with
  | nil => rfl
  | cons q r ih => obtain ⟨b, w⟩ := q; simp [place, ih]
theorem textOf_whole : ∀ (r : List (Nat × List UInt8 × Bool)), (∀ q ∈ r, q.2.2 = true) → textOf r = r.flatMap (fun a => a.2.1 ++ if a.2.2 = true then [13, 10] else []) := by
  intro r
  induction r with
  | nil => intro _; rfl
  | cons q r ih =>
    intro h
    have h1 := ih (fun q' hq' => h q' (by simp [hq']))
    simp only [textOf] at h1 ⊢
    simp only [List.flatMap_cons, h1, h q (by simp), if_true]

theorem textOf_right {l : List UInt8} (hr : (rightOf l).2 = 0) : textOf (refLines l) = l := by
  have hw : ∀ q ∈ refLines l, q.2.2 = true := by
    by_cases hl0 : l.length = 0
    · have : l = [] := List.length_eq_zero_iff.1 hl0
      subst this; simp [refLines, segs, place]
    · exact right_whole hl0 hr
  have hj := segs_join l []
  have hp : (refLines l).map (fun q => q.2) = segs l [] := place_map2
  rw [← hp] at hj
  simp only [joinSegs, List.flatMap_map, List.nil_append] at hj
  rw [textOf_whole _ hw]; exact hj

/-- **The frame is read as the text.** -/
theorem put_stuff {l more : List UInt8} (hr : (rightOf l).2 = 0) : ∃ R', (rd0 l.length).put (stuffOf l ++ more) = (R', (stuffOf l).length, true) ∧ errOf R' = 0 ∧ R'.text = l := by
  have hs := segs_stuff2 more (refLines l) (right_no hr)
  have he : stuffOf l ++ more = stuffLines (refLines l) ++ 46 :: 13 :: 10 :: more := by simp [stuffOf]
  obtain ⟨R', k1, k2, k3⟩ := runSegs_stuff (segs more []) (refLines l) (rd0 l.length) 0 (right_no hr) (right_len hr) rfl rfl rfl (by rw [textOf_right hr]; simp [rd0])
  have hp := put_segs _ (stuffOf l ++ more) rfl (rd0 l.length) 0 (by simp [rd0])
  rw [show (rd0 l.length).norm = rd0 l.length from rfl, show (rd0 (l.length : Int)).line = [] from rfl, he, hs, k1] at hp
  obtain ⟨p1, p2, p3⟩ := hp
  obtain ⟨q1, q2⟩ := p2 _ rfl
  rw [← he] at p1 q1 q2
  refine ⟨((rd0 l.length).put (stuffOf l ++ more)).1, ?_, ?_, ?_⟩
  · refine Prod.ext rfl (Prod.ext ?_ q1)
    simp only at q2 ⊢
    have : (stuffOf l).length = (stuffLines (refLines l)).length + 3 := by simp [stuffOf]
    simp at q2; omega
  · rw [← k2]; exact (rfl : errOf _ = errOf (((rd0 l.length).put (stuffOf l ++ more)).1.norm)).trans (congrArg errOf p1)
  · have : (((rd0 l.length).put (stuffOf l ++ more)).1).norm.text = R'.text := by rw [p1]
    rw [k3, textOf_right hr] at this
    exact this

/-- A frame's length. -/
theorem stuff_short {l : List UInt8} (hr : (rightOf l).2 = 0) : 3 * (stuffOf l).length ≤ 4 * l.length + 9 := by
  have h := textOf_right hr
  have : ∀ r : List (Nat × List UInt8 × Bool), 3 * (stuffLines r).length ≤ 4 * (textOf r).length := by
    intro r
    induction r with
    | nil => simp [stuffLines, textOf]
    | cons q r ih =>
      have h1 : (stuffLines (q :: r)).length = (dotted q).length + 2 + (stuffLines r).length := by simp [stuffLines, stuffLine, dotted]; omega
      have h2 : (textOf (q :: r)).length = q.2.1.length + 2 + (textOf r).length := by simp [textOf]; omega
      have h3 : 3 * (dotted q).length ≤ 4 * q.2.1.length + 2 := by
        unfold dotted
        split
        · rename_i hh
          have : 0 < q.2.1.length := by
            cases hq : q.2.1 with
            | nil => rw [hq] at hh; simp at hh
            | cons => simp
          simp; omega
        · simp; omega
      omega
  have h1 := this (refLines l)
  rw [h] at h1
  simp only [stuffOf, List.length_append, List.length_cons, List.length_nil]
  omega
end Go.Ab

/-
  The law DotsBack.
-/
namespace Go.Ab
open Go
set_option linter.unusedVariables false
set_option linter.unusedSimpArgs false

theorem cInt8 {c : UInt8} : cIntPV .i64 (.b8 c) = some (.int .i64 (c.toNat : Int)) := rfl

theorem put_take {all : List UInt8} {M : Int} {R' : Rd} {N : Nat} (h : (rd0 M).put all = (R', N, true)) {m : Nat} (hm : m ≤ all.length) :
    (((rd0 M).put (all.take m)).2.2 = true → (rd0 M).put (all.take m) = (R', N, true)) ∧ (((rd0 M).put (all.take m)).2.2 = false → m < N ∧ m < all.length) := by
  have hp := put_append (all.take m) (all.drop m) (rd0 M)
  rw [List.take_append_drop, h] at hp
  constructor
  · intro ht
    rw [if_pos ht] at hp
    exact hp.symm
  · intro ht
    rw [if_neg (by simp [ht])] at hp
    have hov : (((rd0 M).put (all.take m)).1.put (all.drop m)).2.2 = true := (congrArg (fun z => z.2.2) hp).symm
    have hn : N = (all.take m).length + (((rd0 M).put (all.take m)).1.put (all.drop m)).2.1 := congrArg (fun z => z.2.1) hp
    have hlen : (all.take m).length = m := by simp; omega
    have hpos : 0 < (((rd0 M).put (all.take m)).1.put (all.drop m)).2.1 := by
      cases hd : all.drop m with
      | nil => rw [hd] at hov; simp [Rd.put] at hov
      | cons c r => simp only [Rd.put]; split <;> simp
    have hne : m < all.length := by
      rcases Nat.lt_or_ge m all.length with h1 | h1
      · exact h1
      · rw [List.drop_of_length_le h1] at hov; simp [Rd.put] at hov
    omega

set_option maxHeartbeats 4000000 in
theorem law_DotsBack {x y z : PV} {l more cuts : List UInt8} (hx : x.by = some l) (hy : y.by = some more) (hz : z.by = some cuts) (hxt : x.tokLt 0 = true) : ∃ s', call prog (.fn 16 []) [x, y, z] ⟨[], [], [], 0⟩ = some (.bool true, s') := by
  refine law_of_W prog_16 rfl ?_
  unfold F_posthornlaw05_DotsBack; dsimp only
  by_cases hl : 4000 < l.length
  · have hl' : (4000 : Int) < (l.length : Int) := by omega
    simp (maxSteps := 1000000) (disch := omega) only [len_by hx, hl', List.length_nil, alive5, W_seq, W_region, W_cond, W_block, W_skip, W_label, W_exit, W_goto, W_ret, WO_cons, WO_consG, WO_nil, wantedA_eq, wantB, evOp, ev_tmp, ev_const, ev_fn, WN_some, WN_none, updO_some, updO_none, upd_eq,
 ↓reduceIte, Nat.reduceEqDiff, List.nil_append, List.cons_append, List.append_nil, List.map_cons, List.map_nil, env0_zero, env0_succ, env0_nil, Option.map_some, Option.map_none, seqQ_normal, seqQ_ret, seqQ_exit, seqQ_goto, blockQ_normal, blockQ_ret, blockQ_exit, blockQ_goto, condW_bool, loopQ_ret, loopQ_exit, loopQ_goto, endQ_ret, endQ_normal,
 lss_i, leq_i, gtr_i, geq_i, eql_i, neq_i, eql_8, neq_8, lss_8, leq_8, gtr_8, geq_8, eql_s, neq_s, eql_b, neq_b, not_b, by_bys, by_nils, load_cp1, beq_true, beq_false, Bool.not_eq_true', decide_eq_true_eq, decide_eq_false_iff_not, decide_true, decide_false,
 Int.toNat_natCast, Int.ofNat_lt, Int.ofNat_le, Int.natCast_inj, Bool.false_eq_true, Bool.true_eq_false, extPV, List.getElem?_cons_zero, List.getElem?_cons_succ, nilckPV, Int.reduceToNat, Int.reduceLE, true_and, and_true, reduceCtorEq, or_false, false_or, or_true, Option.some.injEq, exists_eq_left', Bool.not_true, Bool.not_false, ne_eq, Int.reduceEq, not_true_eq_false, not_false_eq_true, Int.reduceLT, UInt8.reduceLT, UInt8.reduceLE, UInt8.reduceToNat]
  have hl' : ¬ (4000 : Int) < (l.length : Int) := by omega
  by_cases hm : 100 < more.length
  · have hm' : (100 : Int) < (more.length : Int) := by omega
    simp (maxSteps := 1000000) (disch := omega) only [len_by hx, len_by hy, hl', hm', List.length_nil, alive5, W_seq, W_region, W_cond, W_block, W_skip, W_label, W_exit, W_goto, W_ret, WO_cons, WO_consG, WO_nil, wantedA_eq, wantB, evOp, ev_tmp, ev_const, ev_fn, WN_some, WN_none, updO_some, updO_none, upd_eq,
 ↓reduceIte, Nat.reduceEqDiff, List.nil_append, List.cons_append, List.append_nil, List.map_cons, List.map_nil, env0_zero, env0_succ, env0_nil, Option.map_some, Option.map_none, seqQ_normal, seqQ_ret, seqQ_exit, seqQ_goto, blockQ_normal, blockQ_ret, blockQ_exit, blockQ_goto, condW_bool, loopQ_ret, loopQ_exit, loopQ_goto, endQ_ret, endQ_normal,
 lss_i, leq_i, gtr_i, geq_i, eql_i, neq_i, eql_8, neq_8, lss_8, leq_8, gtr_8, geq_8, eql_s, neq_s, eql_b, neq_b, not_b, by_bys, by_nils, load_cp1, beq_true, beq_false, Bool.not_eq_true', decide_eq_true_eq, decide_eq_false_iff_not, decide_true, decide_false,
 Int.toNat_natCast, Int.ofNat_lt, Int.ofNat_le, Int.natCast_inj, Bool.false_eq_true, Bool.true_eq_false, extPV, List.getElem?_cons_zero, List.getElem?_cons_succ, nilckPV, Int.reduceToNat, Int.reduceLE, true_and, and_true, reduceCtorEq, or_false, false_or, or_true, Option.some.injEq, exists_eq_left', Bool.not_true, Bool.not_false, ne_eq, Int.reduceEq, not_true_eq_false, not_false_eq_true, Int.reduceLT, UInt8.reduceLT, UInt8.reduceLE, UInt8.reduceToNat]
  have hm' : ¬ (100 : Int) < (more.length : Int) := by omega
  have h1 := dStuff_spec (st := ⟨[], [], [], 0⟩) hx (by omega) hxt
  by_cases hr : (rightOf l).2 = 0
  · rw [if_neg (by simpa using hr)] at h1
    simp only [St.tok1, List.nil_append, List.length_nil] at h1
    have hsl := stuff_short hr
    obtain ⟨R', k1, k2, k3⟩ := put_stuff (more := more) hr
    -- the frame and what stands behind it
    obtain ⟨f, hf⟩ : ∃ f, f = stuffOf l := ⟨_, rfl⟩
    have hfne : f ≠ [] := by rw [hf]; simp [stuffOf]
    have hcp : ∀ t ts, call prog (.fn 14 []) [.bys t f] ⟨[], ts, [], 0⟩ = some (.bys (.own ts.length) f, ⟨[], ts ++ [true], [], 0⟩) := fun t ts => by
      rw [Copy_spec (l := f) rfl (by rw [hf]; simp only [room]; omega)]
      simp [copyV, copyS, hfne]
    rw [← hf] at h1 k1 hsl
    have happ : ∀ ts, ∃ v' ts', app8 ⟨[], ts ++ [true], [], 0⟩ (.bys (.own ts.length) f) y = some (v', ⟨[], ts', [], 0⟩) ∧ v'.by = some (f ++ more) := fun ts => by
      obtain ⟨v', s', a1, a2, a3, a4, a5, _⟩ := app8_live (s := ⟨[], ts ++ [true], [], 0⟩) (v := .bys (.own ts.length) f) (l := f) (.inr ⟨_, rfl, by simp⟩) (src8_by hy) (by simp only [room]; omega)
      obtain ⟨bs, ts', ls, lo⟩ := s'
      simp only at a2 a3 a4
      subst a2 a3 a4
      exact ⟨v', ts', a1, a5.by⟩
    obtain ⟨all, ts', b1, b2⟩ := happ [true]
    simp only [List.cons_append, List.nil_append, List.length_cons, List.length_nil, Nat.zero_add] at b1
    have hnew := New_spec (st := ⟨[], ts', [], 0⟩) (m := (l.length : Int))
    rw [show max (l.length : Int) 0 = l.length by omega, show rdV (l.length : Int) .nils .nils false false false false = (rd0 l.length).vals .nils .nils from rfl] at hnew
    simp only [List.length_nil, List.nil_append, Nat.min_self] at hnew
    have hall : (f ++ more).length = f.length + more.length := by simp
    simp (maxSteps := 1000000) (disch := omega) only [len_by hx, len_by hy, hl', hm', List.length_nil, h1, List.length_cons, Nat.zero_add, hcp, b1, hnew, W_seq, W_region, W_cond, W_block, W_skip, W_label, W_exit, W_goto, W_ret, WO_cons, WO_consG, WO_nil, wantedA_eq, wantB, evOp, ev_tmp, ev_const, ev_fn, WN_some, WN_none, updO_some, updO_none, upd_eq,
 ↓reduceIte, Nat.reduceEqDiff, List.nil_append, List.cons_append, List.append_nil, List.map_cons, List.map_nil, env0_zero, env0_succ, env0_nil, Option.map_some, Option.map_none, seqQ_normal, seqQ_ret, seqQ_exit, seqQ_goto, blockQ_normal, blockQ_ret, blockQ_exit, blockQ_goto, condW_bool, loopQ_ret, loopQ_exit, loopQ_goto, endQ_ret, endQ_normal,
 lss_i, leq_i, gtr_i, geq_i, eql_i, neq_i, eql_8, neq_8, lss_8, leq_8, gtr_8, geq_8, eql_s, neq_s, eql_b, neq_b, not_b, by_bys, by_nils, load_cp1, beq_true, beq_false, Bool.not_eq_true', decide_eq_true_eq, decide_eq_false_iff_not, decide_true, decide_false,
 Int.toNat_natCast, Int.ofNat_lt, Int.ofNat_le, Int.natCast_inj, Bool.false_eq_true, Bool.true_eq_false, extPV, List.getElem?_cons_zero, List.getElem?_cons_succ, nilckPV, Int.reduceToNat, Int.reduceLE, true_and, and_true, reduceCtorEq, or_false, false_or, or_true, Option.some.injEq, exists_eq_left', Bool.not_true, Bool.not_false, ne_eq, Int.reduceEq, not_true_eq_false, not_false_eq_true, Int.reduceLT, UInt8.reduceLT, UInt8.reduceLE, UInt8.reduceToNat]
    obtain ⟨I, hI⟩ : ∃ I : Nat → Env → St → Prop, I = fun n e s => ∃ (i p : Nat) (a vl vt : PV), n = 6000 - i ∧ i ≤ p ∧ p < f.length ∧ e 0 = x ∧ e 2 = z ∧ (∃ t, e 7 = .bys t f) ∧ e 9 = a ∧ a.by = some ((f ++ more).drop p) ∧ e 10 = .ptr 0 0 ∧ e 11 = .int .i64 (p : Int) ∧ e 12 = .int .i64 (i : Int) ∧
      s.boxes[0]? = some (((rd0 l.length).put ((f ++ more).take p)).1.vals vl vt) ∧ RdS s s 0 vl vt ((rd0 l.length).put ((f ++ more).take p)).1 vl vt ∧ ((rd0 l.length).put ((f ++ more).take p)).2.2 = false := ⟨_, rfl⟩
    refine W_loop I ?_ (n := 6000) (by
      rw [hI]
      have hfl : 0 < f.length := List.length_pos_iff.2 hfne
      exact ⟨0, 0, all, .nils, .nils, rfl, by omega, hfl, rfl, rfl, ⟨_, rfl⟩, rfl, by rw [b2]; simp, rfl, rfl, rfl, rfl, rds0 (s := ⟨[(rd0 l.length).vals .nils .nils], ts', [], 0⟩) (b := 0) (m := l.length) rfl, rfl⟩)
    intro n e s h
    rw [hI] at h
    obtain ⟨i, p, a, vl, vt, rfl, hip, hpf, h0, h2, ⟨t7, h7⟩, h9, hab, h10, h11, h12, hbx, hrd, hov⟩ := h
    have hi6 : (i : Int) < 6000 := by omega
    have hal : ((f ++ more).drop p).length = f.length + more.length - p := by simp
    have hla := len_by hab
    -- how many are put
    obtain ⟨J, hJ⟩ : ∃ J : (Nat → Prop) → Env → St → Prop, J = fun P E S => E 0 = x ∧ E 2 = z ∧ E 7 = .bys t7 f ∧ E 9 = a ∧ E 10 = .ptr 0 0 ∧ E 11 = .int .i64 (p : Int) ∧ E 12 = .int .i64 (i : Int) ∧ S = s ∧ ∃ k : Nat, E 13 = .int .i64 (k : Int) ∧ P k := ⟨_, rfl⟩
    refine W_cut (fun E S => E 0 = x ∧ E 2 = z ∧ E 7 = .bys t7 f ∧ E 9 = a ∧ E 10 = .ptr 0 0 ∧ E 11 = .int .i64 (p : Int) ∧ E 12 = .int .i64 (i : Int) ∧ S = s) ?_ ?_
    · simp (maxSteps := 1000000) (disch := omega) only [h0, h2, h7, h9, h10, h11, h12, hi6, W_seq, W_region, W_cond, W_block, W_skip, W_label, W_exit, W_goto, W_ret, WO_cons, WO_consG, WO_nil, wantedA_eq, wantB, evOp, ev_tmp, ev_const, ev_fn, WN_some, WN_none, updO_some, updO_none, upd_eq,
 ↓reduceIte, Nat.reduceEqDiff, List.nil_append, List.cons_append, List.append_nil, List.map_cons, List.map_nil, env0_zero, env0_succ, env0_nil, Option.map_some, Option.map_none, seqQ_normal, seqQ_ret, seqQ_exit, seqQ_goto, blockQ_normal, blockQ_ret, blockQ_exit, blockQ_goto, condW_bool, loopQ_ret, loopQ_exit, loopQ_goto, endQ_ret, endQ_normal,
 lss_i, leq_i, gtr_i, geq_i, eql_i, neq_i, eql_8, neq_8, lss_8, leq_8, gtr_8, geq_8, eql_s, neq_s, eql_b, neq_b, not_b, by_bys, by_nils, load_cp1, beq_true, beq_false, Bool.not_eq_true', decide_eq_true_eq, decide_eq_false_iff_not, decide_true, decide_false,
 Int.toNat_natCast, Int.ofNat_lt, Int.ofNat_le, Int.natCast_inj, Bool.false_eq_true, Bool.true_eq_false, extPV, List.getElem?_cons_zero, List.getElem?_cons_succ, nilckPV, Int.reduceToNat, Int.reduceLE, true_and, and_true, reduceCtorEq, or_false, false_or, or_true, Option.some.injEq, exists_eq_left', Bool.not_true, Bool.not_false, ne_eq, Int.reduceEq, not_true_eq_false, not_false_eq_true, Int.reduceLT, UInt8.reduceLT, UInt8.reduceLE, UInt8.reduceToNat]
    clear h0 h2 h7 h9 h10 h11 h12
    rintro e S ⟨h0, h2, h7, h9, h10, h11, h12, rfl⟩
    rw [W_seq, W_block]
    refine W_cut (J (fun k => k = 7)) ?_ ?_
    · simp (maxSteps := 1000000) (disch := omega) only [h0, h2, h7, h9, h10, h11, h12, hJ, W_seq, W_region, W_cond, W_block, W_skip, W_label, W_exit, W_goto, W_ret, WO_cons, WO_consG, WO_nil, wantedA_eq, wantB, evOp, ev_tmp, ev_const, ev_fn, WN_some, WN_none, updO_some, updO_none, upd_eq,
 ↓reduceIte, Nat.reduceEqDiff, List.nil_append, List.cons_append, List.append_nil, List.map_cons, List.map_nil, env0_zero, env0_succ, env0_nil, Option.map_some, Option.map_none, seqQ_normal, seqQ_ret, seqQ_exit, seqQ_goto, blockQ_normal, blockQ_ret, blockQ_exit, blockQ_goto, condW_bool, loopQ_ret, loopQ_exit, loopQ_goto, endQ_ret, endQ_normal,
 lss_i, leq_i, gtr_i, geq_i, eql_i, neq_i, eql_8, neq_8, lss_8, leq_8, gtr_8, geq_8, eql_s, neq_s, eql_b, neq_b, not_b, by_bys, by_nils, load_cp1, beq_true, beq_false, Bool.not_eq_true', decide_eq_true_eq, decide_eq_false_iff_not, decide_true, decide_false,
 Int.toNat_natCast, Int.ofNat_lt, Int.ofNat_le, Int.natCast_inj, Bool.false_eq_true, Bool.true_eq_false, extPV, List.getElem?_cons_zero, List.getElem?_cons_succ, nilckPV, Int.reduceToNat, Int.reduceLE, true_and, and_true, reduceCtorEq, or_false, false_or, or_true, Option.some.injEq, exists_eq_left', Bool.not_true, Bool.not_false, ne_eq, Int.reduceEq, not_true_eq_false, not_false_eq_true, Int.reduceLT, UInt8.reduceLT, UInt8.reduceLE, UInt8.reduceToNat]
      exact ⟨7, rfl, rfl⟩
    clear h0 h2 h7 h9 h10 h11 h12
    intro e S hj
    rw [hJ] at hj
    obtain ⟨h0, h2, h7, h9, h10, h11, h12, rfl, k, h13, rfl⟩ := hj
    refine W_cut (J (fun k => 1 ≤ k ∧ k ≤ 256)) ?_ ?_
    · by_cases hc : i < cuts.length
      · have hc' : (i : Int) < (cuts.length : Int) := by omega
        have hb := (cuts.getD i 0).toNat_lt
        have hadd : ∀ ek, binPV .add ek (.int .i64 1) (.int .i64 ((cuts.getD i 0).toNat : Int)) = some (.int .i64 ((1 + (cuts.getD i 0).toNat : Nat) : Int)) := fun ek => by
          rw [add_i (by omega) (by omega)]; simp
        simp (maxSteps := 1000000) (disch := omega) only [h0, h2, h7, h9, h10, h11, h12, h13, len_by hz, hc', iaddr_by hz, cInt8, hadd, hJ, W_seq, W_region, W_cond, W_block, W_skip, W_label, W_exit, W_goto, W_ret, WO_cons, WO_consG, WO_nil, wantedA_eq, wantB, evOp, ev_tmp, ev_const, ev_fn, WN_some, WN_none, updO_some, updO_none, upd_eq,
 ↓reduceIte, Nat.reduceEqDiff, List.nil_append, List.cons_append, List.append_nil, List.map_cons, List.map_nil, env0_zero, env0_succ, env0_nil, Option.map_some, Option.map_none, seqQ_normal, seqQ_ret, seqQ_exit, seqQ_goto, blockQ_normal, blockQ_ret, blockQ_exit, blockQ_goto, condW_bool, loopQ_ret, loopQ_exit, loopQ_goto, endQ_ret, endQ_normal,
 lss_i, leq_i, gtr_i, geq_i, eql_i, neq_i, eql_8, neq_8, lss_8, leq_8, gtr_8, geq_8, eql_s, neq_s, eql_b, neq_b, not_b, by_bys, by_nils, load_cp1, beq_true, beq_false, Bool.not_eq_true', decide_eq_true_eq, decide_eq_false_iff_not, decide_true, decide_false,
 Int.toNat_natCast, Int.ofNat_lt, Int.ofNat_le, Int.natCast_inj, Bool.false_eq_true, Bool.true_eq_false, extPV, List.getElem?_cons_zero, List.getElem?_cons_succ, nilckPV, Int.reduceToNat, Int.reduceLE, true_and, and_true, reduceCtorEq, or_false, false_or, or_true, Option.some.injEq, exists_eq_left', Bool.not_true, Bool.not_false, ne_eq, Int.reduceEq, not_true_eq_false, not_false_eq_true, Int.reduceLT, UInt8.reduceLT, UInt8.reduceLE, UInt8.reduceToNat]
        exact ⟨_, rfl, by omega, by omega⟩
      · have hc' : ¬ (i : Int) < (cuts.length : Int) := by omega
        simp (maxSteps := 1000000) (disch := omega) only [h0, h2, h7, h9, h10, h11, h12, h13, len_by hz, hc', hJ, W_seq, W_region, W_cond, W_block, W_skip, W_label, W_exit, W_goto, W_ret, WO_cons, WO_consG, WO_nil, wantedA_eq, wantB, evOp, ev_tmp, ev_const, ev_fn, WN_some, WN_none, updO_some, updO_none, upd_eq,
 ↓reduceIte, Nat.reduceEqDiff, List.nil_append, List.cons_append, List.append_nil, List.map_cons, List.map_nil, env0_zero, env0_succ, env0_nil, Option.map_some, Option.map_none, seqQ_normal, seqQ_ret, seqQ_exit, seqQ_goto, blockQ_normal, blockQ_ret, blockQ_exit, blockQ_goto, condW_bool, loopQ_ret, loopQ_exit, loopQ_goto, endQ_ret, endQ_normal,
 lss_i, leq_i, gtr_i, geq_i, eql_i, neq_i, eql_8, neq_8, lss_8, leq_8, gtr_8, geq_8, eql_s, neq_s, eql_b, neq_b, not_b, by_bys, by_nils, load_cp1, beq_true, beq_false, Bool.not_eq_true', decide_eq_true_eq, decide_eq_false_iff_not, decide_true, decide_false,
 Int.toNat_natCast, Int.ofNat_lt, Int.ofNat_le, Int.natCast_inj, Bool.false_eq_true, Bool.true_eq_false, extPV, List.getElem?_cons_zero, List.getElem?_cons_succ, nilckPV, Int.reduceToNat, Int.reduceLE, true_and, and_true, reduceCtorEq, or_false, false_or, or_true, Option.some.injEq, exists_eq_left', Bool.not_true, Bool.not_false, ne_eq, Int.reduceEq, not_true_eq_false, not_false_eq_true, Int.reduceLT, UInt8.reduceLT, UInt8.reduceLE, UInt8.reduceToNat]
        exact ⟨7, rfl, by omega, by omega⟩
    clear h0 h2 h7 h9 h10 h11 h12 h13
    intro e S hj
    rw [hJ] at hj
    obtain ⟨h0, h2, h7, h9, h10, h11, h12, rfl, k, h13, hk1, hk2⟩ := hj
    refine W_cut (J (fun k => 1 ≤ k ∧ k ≤ ((f ++ more).drop p).length)) ?_ ?_
    · by_cases hc : ((f ++ more).drop p).length < k
      · have hc' : ((((f ++ more).drop p).length : Nat) : Int) < (k : Int) := by omega
        simp (maxSteps := 1000000) (disch := omega) only [h0, h2, h7, h9, h10, h11, h12, h13, hla, hc', hJ, W_seq, W_region, W_cond, W_block, W_skip, W_label, W_exit, W_goto, W_ret, WO_cons, WO_consG, WO_nil, wantedA_eq, wantB, evOp, ev_tmp, ev_const, ev_fn, WN_some, WN_none, updO_some, updO_none, upd_eq,
 ↓reduceIte, Nat.reduceEqDiff, List.nil_append, List.cons_append, List.append_nil, List.map_cons, List.map_nil, env0_zero, env0_succ, env0_nil, Option.map_some, Option.map_none, seqQ_normal, seqQ_ret, seqQ_exit, seqQ_goto, blockQ_normal, blockQ_ret, blockQ_exit, blockQ_goto, condW_bool, loopQ_ret, loopQ_exit, loopQ_goto, endQ_ret, endQ_normal,
 lss_i, leq_i, gtr_i, geq_i, eql_i, neq_i, eql_8, neq_8, lss_8, leq_8, gtr_8, geq_8, eql_s, neq_s, eql_b, neq_b, not_b, by_bys, by_nils, load_cp1, beq_true, beq_false, Bool.not_eq_true', decide_eq_true_eq, decide_eq_false_iff_not, decide_true, decide_false,
 Int.toNat_natCast, Int.ofNat_lt, Int.ofNat_le, Int.natCast_inj, Bool.false_eq_true, Bool.true_eq_false, extPV, List.getElem?_cons_zero, List.getElem?_cons_succ, nilckPV, Int.reduceToNat, Int.reduceLE, true_and, and_true, reduceCtorEq, or_false, false_or, or_true, Option.some.injEq, exists_eq_left', Bool.not_true, Bool.not_false, ne_eq, Int.reduceEq, not_true_eq_false, not_false_eq_true, Int.reduceLT, UInt8.reduceLT, UInt8.reduceLE, UInt8.reduceToNat]
        exact ⟨_, rfl, by omega, by omega⟩
      · have hc' : ¬ ((((f ++ more).drop p).length : Nat) : Int) < (k : Int) := by omega
        simp (maxSteps := 1000000) (disch := omega) only [h0, h2, h7, h9, h10, h11, h12, h13, hla, hc', hJ, W_seq, W_region, W_cond, W_block, W_skip, W_label, W_exit, W_goto, W_ret, WO_cons, WO_consG, WO_nil, wantedA_eq, wantB, evOp, ev_tmp, ev_const, ev_fn, WN_some, WN_none, updO_some, updO_none, upd_eq,
 ↓reduceIte, Nat.reduceEqDiff, List.nil_append, List.cons_append, List.append_nil, List.map_cons, List.map_nil, env0_zero, env0_succ, env0_nil, Option.map_some, Option.map_none, seqQ_normal, seqQ_ret, seqQ_exit, seqQ_goto, blockQ_normal, blockQ_ret, blockQ_exit, blockQ_goto, condW_bool, loopQ_ret, loopQ_exit, loopQ_goto, endQ_ret, endQ_normal,
 lss_i, leq_i, gtr_i, geq_i, eql_i, neq_i, eql_8, neq_8, lss_8, leq_8, gtr_8, geq_8, eql_s, neq_s, eql_b, neq_b, not_b, by_bys, by_nils, load_cp1, beq_true, beq_false, Bool.not_eq_true', decide_eq_true_eq, decide_eq_false_iff_not, decide_true, decide_false,
 Int.toNat_natCast, Int.ofNat_lt, Int.ofNat_le, Int.natCast_inj, Bool.false_eq_true, Bool.true_eq_false, extPV, List.getElem?_cons_zero, List.getElem?_cons_succ, nilckPV, Int.reduceToNat, Int.reduceLE, true_and, and_true, reduceCtorEq, or_false, false_or, or_true, Option.some.injEq, exists_eq_left', Bool.not_true, Bool.not_false, ne_eq, Int.reduceEq, not_true_eq_false, not_false_eq_true, Int.reduceLT, UInt8.reduceLT, UInt8.reduceLE, UInt8.reduceToNat]
        exact ⟨_, rfl, by omega, by omega⟩
    clear h0 h2 h7 h9 h10 h11 h12 h13 hk1 hk2
    intro e S hj
    rw [hJ] at hj
    obtain ⟨h0, h2, h7, h9, h10, h11, h12, rfl, k, h13, hk1, hk2⟩ := hj
    clear hJ
    -- the piece
    have hpl : (rd0 (l.length : Int)).put ((f ++ more).take (p + k)) = ((((rd0 l.length).put ((f ++ more).take p)).1.put (((f ++ more).drop p).take k)).1, p + (((rd0 l.length).put ((f ++ more).take p)).1.put (((f ++ more).drop p).take k)).2.1, (((rd0 l.length).put ((f ++ more).take p)).1.put (((f ++ more).drop p).take k)).2.2) := by
      rw [List.take_add, put_append, hov]
      have : ((f ++ more).take p).length = p := by simp; omega
      rw [this]; rfl
    obtain ⟨Rp, hRp⟩ : ∃ Rp, Rp = ((rd0 (l.length : Int)).put ((f ++ more).take p)).1 := ⟨_, rfl⟩
    have hpm : Rp.most = l.length := by rw [hRp, put_most]; rfl
    have hpe : Rp.ended = false := by rw [hRp]; exact put_ended _ _ rfl hov
    have hplen : Rp.text.length + Rp.line.length ≤ p := by
      have := put_len ((f ++ more).take p) (rd0 l.length)
      rw [← hRp] at this
      simp [rd0] at this; omega
    rw [← hRp] at hpl hrd hbx
    obtain ⟨s1, vl1, vt1, c1, c2, c3⟩ := Put_spec (x := a.takeB k) hrd (takeB_by hab) hpe (by simp; omega) (by rw [hpm]; omega) (by rw [hpm]; omega)
    obtain ⟨pt1, pt2⟩ := put_take k1 (m := p + k) (by rw [hall]; omega)
    rw [hpl] at pt1 pt2
    have hkc : (((f ++ more).drop p).take k).length = k := by simp; omega
    have hcnt := put_count (((f ++ more).drop p).take k) Rp
    generalize hN : (Rp.put (((f ++ more).drop p).take k)).2.1 = N at c1 pt1 pt2 hpl hcnt
    have hlh := hcnt.1
    have hadd : ∀ ek, binPV .add ek (.int .i64 (p : Int)) (.int .i64 (N : Int)) = some (.int .i64 ((p + N : Nat) : Int)) := fun ek => by
      rw [add_i (by omega) (by omega)]; simp
    cases hov2 : (Rp.put (((f ++ more).drop p).take k)).2.2 with
    | true =>
      have hend := pt1 (by simp [hov2])
      simp only [hov2, Prod.mk.injEq, and_true] at hend
      obtain ⟨e1, e2⟩ := hend
      rw [hov2, e1] at c1
      simp only [if_true, k2] at c1
      rw [e1] at c2
      have htx := c2.lt.by
      rw [k3] at htx
      obtain ⟨u1, s3, d1, d2, d3⟩ := Text_any (st := s1) (b := 0) (R := R') (vl := vl1) (vt := vt1) c2.get (by rw [k3]; exact htx) (by rw [k3]; simp only [room]; omega)
      rw [if_pos k2, k3] at d2
      have hlf : lenPV false (.bys t7 f) = some (.int .i64 (f.length : Int)) := rfl
      simp (maxSteps := 1000000) (disch := omega) only [h0, h2, h7, h9, h10, h11, h12, h13, slc_hi hab, slc_lo hab, c1, hadd, alive5, e2, hlf, d1, b2s_by d2, b2s_by hx, W_seq, W_region, W_cond, W_block, W_skip, W_label, W_exit, W_goto, W_ret, WO_cons, WO_consG, WO_nil, wantedA_eq, wantB, evOp, ev_tmp, ev_const, ev_fn, WN_some, WN_none, updO_some, updO_none, upd_eq,
 ↓reduceIte, Nat.reduceEqDiff, List.nil_append, List.cons_append, List.append_nil, List.map_cons, List.map_nil, env0_zero, env0_succ, env0_nil, Option.map_some, Option.map_none, seqQ_normal, seqQ_ret, seqQ_exit, seqQ_goto, blockQ_normal, blockQ_ret, blockQ_exit, blockQ_goto, condW_bool, loopQ_ret, loopQ_exit, loopQ_goto, endQ_ret, endQ_normal,
 lss_i, leq_i, gtr_i, geq_i, eql_i, neq_i, eql_8, neq_8, lss_8, leq_8, gtr_8, geq_8, eql_s, neq_s, eql_b, neq_b, not_b, by_bys, by_nils, load_cp1, beq_true, beq_false, Bool.not_eq_true', decide_eq_true_eq, decide_eq_false_iff_not, decide_true, decide_false,
 Int.toNat_natCast, Int.ofNat_lt, Int.ofNat_le, Int.natCast_inj, Bool.false_eq_true, Bool.true_eq_false, extPV, List.getElem?_cons_zero, List.getElem?_cons_succ, nilckPV, Int.reduceToNat, Int.reduceLE, true_and, and_true, reduceCtorEq, or_false, false_or, or_true, Option.some.injEq, exists_eq_left', Bool.not_true, Bool.not_false, ne_eq, Int.reduceEq, not_true_eq_false, not_false_eq_true, Int.reduceLT, UInt8.reduceLT, UInt8.reduceLE, UInt8.reduceToNat]
    | false =>
      have hnot := pt2 (by simp [hov2])
      have hNk : N = k := by rw [hcnt.2 hov2, hkc]
      subst hNk
      rw [hov2] at c1
      simp only [Bool.false_eq_true, if_false] at c1
      have hla2 := len_by (dropB_by (i := N) hab)
      have hnz : ¬ ((List.drop N ((f ++ more).drop p)).length : Int) = 0 := by simp; omega
      simp (maxSteps := 1000000) (disch := omega) only [h0, h2, h7, h9, h10, h11, h12, h13, slc_hi hab, slc_lo hab, c1, hadd, hla2, hnz, add_n, W_seq, W_region, W_cond, W_block, W_skip, W_label, W_exit, W_goto, W_ret, WO_cons, WO_consG, WO_nil, wantedA_eq, wantB, evOp, ev_tmp, ev_const, ev_fn, WN_some, WN_none, updO_some, updO_none, upd_eq,
 ↓reduceIte, Nat.reduceEqDiff, List.nil_append, List.cons_append, List.append_nil, List.map_cons, List.map_nil, env0_zero, env0_succ, env0_nil, Option.map_some, Option.map_none, seqQ_normal, seqQ_ret, seqQ_exit, seqQ_goto, blockQ_normal, blockQ_ret, blockQ_exit, blockQ_goto, condW_bool, loopQ_ret, loopQ_exit, loopQ_goto, endQ_ret, endQ_normal,
 lss_i, leq_i, gtr_i, geq_i, eql_i, neq_i, eql_8, neq_8, lss_8, leq_8, gtr_8, geq_8, eql_s, neq_s, eql_b, neq_b, not_b, by_bys, by_nils, load_cp1, beq_true, beq_false, Bool.not_eq_true', decide_eq_true_eq, decide_eq_false_iff_not, decide_true, decide_false,
 Int.toNat_natCast, Int.ofNat_lt, Int.ofNat_le, Int.natCast_inj, Bool.false_eq_true, Bool.true_eq_false, extPV, List.getElem?_cons_zero, List.getElem?_cons_succ, nilckPV, Int.reduceToNat, Int.reduceLE, true_and, and_true, reduceCtorEq, or_false, false_or, or_true, Option.some.injEq, exists_eq_left', Bool.not_true, Bool.not_false, ne_eq, Int.reduceEq, not_true_eq_false, not_false_eq_true, Int.reduceLT, UInt8.reduceLT, UInt8.reduceLE, UInt8.reduceToNat]
      refine loopQ_intro (m := 6000 - (i + 1)) (by omega) ?_
      rw [hI]
      have hst : RdS s1 s1 0 vl1 vt1 ((rd0 l.length).put ((f ++ more).take (p + N))).1 vl1 vt1 := by
        rw [hpl]; exact RdS.start c2.get c2.ll c2.lt c2.ne (Nat.min_le_left _ _)
      refine ⟨i + 1, p + N, a.dropB N, vl1, vt1, rfl, by omega, hnot.1, h0, h2, ⟨t7, h7⟩, rfl, ?_, h10, rfl, rfl, hst.get, hst, by rw [hpl]; exact hov2⟩
      rw [dropB_by hab, List.drop_drop]
  · rw [if_pos (by simpa using hr)] at h1
    have hz0 : ((0 : Nat) : Int) = 0 := rfl
    simp (maxSteps := 1000000) (disch := omega) only [len_by hx, len_by hy, hl', hm', List.length_nil, h1, hr, len_by by_nils, hz0, alive5, W_seq, W_region, W_cond, W_block, W_skip, W_label, W_exit, W_goto, W_ret, WO_cons, WO_consG, WO_nil, wantedA_eq, wantB, evOp, ev_tmp, ev_const, ev_fn, WN_some, WN_none, updO_some, updO_none, upd_eq,
 ↓reduceIte, Nat.reduceEqDiff, List.nil_append, List.cons_append, List.append_nil, List.map_cons, List.map_nil, env0_zero, env0_succ, env0_nil, Option.map_some, Option.map_none, seqQ_normal, seqQ_ret, seqQ_exit, seqQ_goto, blockQ_normal, blockQ_ret, blockQ_exit, blockQ_goto, condW_bool, loopQ_ret, loopQ_exit, loopQ_goto, endQ_ret, endQ_normal,
 lss_i, leq_i, gtr_i, geq_i, eql_i, neq_i, eql_8, neq_8, lss_8, leq_8, gtr_8, geq_8, eql_s, neq_s, eql_b, neq_b, not_b, by_bys, by_nils, load_cp1, beq_true, beq_false, Bool.not_eq_true', decide_eq_true_eq, decide_eq_false_iff_not, decide_true, decide_false,
 Int.toNat_natCast, Int.ofNat_lt, Int.ofNat_le, Int.natCast_inj, Bool.false_eq_true, Bool.true_eq_false, extPV, List.getElem?_cons_zero, List.getElem?_cons_succ, nilckPV, Int.reduceToNat, Int.reduceLE, true_and, and_true, reduceCtorEq, or_false, false_or, or_true, Option.some.injEq, exists_eq_left', Bool.not_true, Bool.not_false, ne_eq, Int.reduceEq, not_true_eq_false, not_false_eq_true, Int.reduceLT, UInt8.reduceLT, UInt8.reduceLE, UInt8.reduceToNat]
end Go.Ab

/-
  The library's searches as primitives, out of the shelf's contracts.
-/
namespace Go.Ab
open Go.Shelf Go.Proofs
set_option linter.unusedVariables false
set_option linter.unusedSimpArgs false
variable {P : Program} {g : GMap} {ρ : Go.Shelf.Ren}

def numsOf (a : List UInt8) : List Int := a.map fun b => (b.toNat : Int)
theorem bytesOf_nums (a : List UInt8) : Lib.bytesOf (numsOf a) = a := by
  simp [Lib.bytesOf, numsOf, Function.comp_def]
theorem nums_range (a : List UInt8) : ∀ x ∈ numsOf a, 0 ≤ x ∧ x < 256 := by
  intro x hx
  simp only [numsOf, List.mem_map] at hx
  obtain ⟨b, _, rfl⟩ := hx
  have := b.toNat_lt
  omega
theorem nums_getD (a : List UInt8) {i : Nat} (h : i < a.length) : (numsOf a).getD i 0 = ((a[i]).toNat : Int) := by
  simp [numsOf, List.getD, h]

theorem cells_of {κ : K} {w : World} (hC : ∀ b i u, κ.C b i = some u → w.cell? ⟨b, i, none⟩ = some u) {blk off : Nat} {a : List UInt8} (hb : ∀ (i : Nat) (b : UInt8), a[i]? = some b → κ.C blk (off + i) = some (.int .u8 b.toNat)) :
    ∀ i, i < a.length → w.cell? ((⟨blk, off, none⟩ : Addr).add i) = some (.int .u8 ((numsOf a).getD i 0)) := by
  intro i hi
  rw [add_eq, nums_getD a hi]
  exact hC _ _ _ (hb i _ (by simp [hi]))

theorem primIndex (L : Lays.n185 P ρ) (hm : ∀ κ, g.inv κ → ∃ m, κ.C (ρ.g 1) 0 = some (.int .i64 m)) {pf : Func} (hpf : P.funcs[ρ.f 185]? = some pf) (hb : pf.body.isSome = true) (hn : pf.name ≠ "runtime.NumGoroutine") : PrimOK P g (ρ.f 185) pBytesIndex := by
  refine prim_of_calls hpf hb hn (fun κ w args ps v hi hC hsz hargs hp => ?_)
  obtain ⟨m, hm⟩ := hm κ hi
  have hmc := hC _ _ _ hm
  match ps, hp with
  | [x, y], hp =>
    simp only [pBytesIndex] at hp
    cases hx : x.by with
    | none => simp [hx] at hp
    | some a =>
      cases hy : y.by with
      | none => simp [hx, hy] at hp
      | some b =>
        simp only [hx, hy] at hp
        split at hp
        · rename_i hlen
          cases hp
          obtain ⟨u1, u2, rfl⟩ : ∃ u1 u2, args = #[u1, u2] := by
            obtain ⟨l⟩ := args
            match l, hsz with
            | [u1, u2], _ => exact ⟨u1, u2, rfl⟩
          have r1 := hargs 0 u1 x rfl rfl
          have r2 := hargs 1 u2 y rfl rfl
          have post : ∀ (n : Int), n = Lib.index a b → ∀ (e : Ending) (w' : World), (e = .returned (.int .i64 n) ∧ ∃ q, w' = w.drewN q) → ∃ z, e = .returned z ∧ (∀ κ', R g κ' z (.int .i64 (Lib.index a b))) ∧ w'.heap = w.heap ∧ w'.os = w.os ∧ w'.tape = w.tape ∧ w'.output = w.output := by
            rintro n rfl e w' ⟨rfl, q, rfl⟩
            exact ⟨_, rfl, fun κ' => .int .i64 _ (by decide), rfl, rfl, rfl, rfl⟩
          have post0 : ∀ (n : Int), n = Lib.index a b → ∀ (e : Ending) (w' : World), (e = .returned (.int .i64 n) ∧ w' = w) → ∃ z, e = .returned z ∧ (∀ κ', R g κ' z (.int .i64 (Lib.index a b))) ∧ w'.heap = w.heap ∧ w'.os = w.os ∧ w'.tape = w.tape ∧ w'.output = w.output := by
            rintro n rfl e w' ⟨rfl, rfl⟩
            exact ⟨_, rfl, fun κ' => .int .i64 _ (by decide), rfl, rfl, rfl, rfl⟩
          rcases by_cases' hx with ⟨rfl, rfl⟩ | ⟨t, rfl⟩
          · cases r1
            rcases by_cases' hy with ⟨rfl, rfl⟩ | ⟨t2, rfl⟩
            · cases r2
              exact (Any.bytes_Index_none L none none 0 0 0 w).mono (post0 0 (by simp [Lib.index]))
            · cases r2 with
              | bys blk off n c _ _ h1 h2 h3 h4 =>
                subst h1
                refine (Any.bytes_Index_nil L (some ⟨blk, off, none⟩) b.length c w (by omega) (fun h1 => ?_)).mono (post0 _ ?_)
                · have := cells_of hC h3 0 (by omega)
                  rw [add_eq] at this
                  exact ⟨blk, off, _, rfl, this⟩
                · cases b <;> simp [Lib.index]
          · cases r1 with
            | bys blk off n c _ _ h1 h2 h3 h4 =>
              subst h1
              rcases by_cases' hy with ⟨rfl, rfl⟩ | ⟨t2, rfl⟩
              · cases r2
                exact (Any.bytes_Index_none L (some ⟨blk, off, none⟩) none a.length c 0 w).mono (post0 0 (Lib.index_empty a).symm)
              · cases r2 with
                | bys blk2 off2 n2 c2 _ _ k1 k2 k3 k4 =>
                  subst k1
                  refine (Any.bytes_Index_at L ⟨blk, off, none⟩ ⟨blk2, off2, none⟩ a.length c b.length c2 (numsOf a) (numsOf b) m w (by simp [numsOf]) (by simp [numsOf]) (nums_range a) (nums_range b) (cells_of hC h3) (cells_of hC k3) h2 hlen.1 (by omega) hmc).mono (post _ ?_)
                  rw [bytesOf_nums, bytesOf_nums]
        · cases hp
  | [], hp => simp [pBytesIndex] at hp
  | [_], hp => simp [pBytesIndex] at hp
  | _ :: _ :: _ :: _, hp => simp [pBytesIndex] at hp
end Go.Ab
