/-
  A header is written, by the document.
-/
import Derived.Test.YtpemgniafhdheaaA4
import Derived.Test.YtpemgniafhdheaaA2
import Derived.Test.YtpemgniafhdheaaA3
namespace Go.Ab
set_option linter.unusedVariables false
set_option linter.unusedSimpArgs false
variable {st s : St} {e : Env}

theorem any_take {α : Type} {p : α → Bool} {l : List α} {i : Nat} {d : α} (h : i < l.length) : (l.take (i + 1)).any p = ((l.take i).any p || p (l.getD i d)) := by
  rw [take_getD' (d := d) h, List.any_append]; simp

set_option maxHeartbeats 1000000 in
theorem rWrite_spec {x : PV} {fs : List Fld} (hx : x.vs 2 = some (fs.map fV)) (hf : ∀ f ∈ fs, okF f) (hl : fs.length ≤ 1000000) : call prog (.fn 146 []) [x] st = some (outV st (writeOf fs)) := by
  refine call_of_W prog_146 ?_
  unfold F_posthornref06_Write; dsimp only
  have hlen := len_vs hx
  rw [List.length_map] at hlen
  have okLen : ∀ f : Fld, okFd f = true → f.1.length ≤ 64 ∧ f.2.length ≤ 4096 := fun f h => by
    simp only [okFd, nameB, valB, Bool.and_eq_true, decide_eq_true_eq] at h; omega
  by_cases h128 : 128 < fs.length
  · have e1 : (128 : Int) < (fs.length : Int) := by omega
    have hw : writeOf fs = (2, []) := by simp [writeOf, h128]
    simp (maxSteps := 1000000) (disch := omega) only [hlen, e1, W_seq, W_region, W_cond, W_block, W_skip, W_label, W_exit, W_goto, W_ret, WO_cons, WO_consG, WO_nil, wantedA_eq, wantB, evOp, ev_tmp, ev_const, ev_fn, WN_some, WN_none, updO_some, updO_none, upd_eq,
 ↓reduceIte, Nat.reduceEqDiff, List.nil_append, List.cons_append, List.append_nil, List.map_cons, List.map_nil, env0_zero, env0_succ, env0_nil, Option.map_some, Option.map_none, seqQ_normal, seqQ_ret, seqQ_exit, seqQ_goto, blockQ_normal, blockQ_ret, blockQ_exit, blockQ_goto, condW_bool, loopQ_ret, loopQ_exit, loopQ_goto, endQ_ret, endQ_normal,
 lss_i, leq_i, gtr_i, geq_i, eql_i, neq_i, eql_8, neq_8, lss_8, leq_8, gtr_8, geq_8, eql_s, neq_s, eql_b, neq_b, not_b, by_bys, by_nils, load_cp1, beq_true, beq_false, Bool.not_eq_true', decide_eq_true_eq, decide_eq_false_iff_not, decide_true, decide_false,
 Int.toNat_natCast, Int.ofNat_lt, Int.ofNat_le, Int.natCast_inj, Bool.false_eq_true, Bool.true_eq_false, extPV, List.getElem?_cons_zero, List.getElem?_cons_succ, nilckPV, Int.reduceToNat, Int.reduceLE, true_and, and_true, reduceCtorEq, or_false, false_or, or_true, Option.some.injEq, exists_eq_left', Bool.not_true, Bool.not_false, ne_eq, Int.reduceEq, not_true_eq_false, not_false_eq_true, Int.reduceLT, UInt8.reduceLT, UInt8.reduceLE, UInt8.reduceToNat]
    rw [hw]
    exact ⟨.tup [.nils, .int .i64 2], rfl, Kept.start.leave rfl (fun _ _ => rfl)⟩
  have e128 : ¬ (128 : Int) < (fs.length : Int) := by omega
  simp (maxSteps := 1000000) (disch := omega) only [hlen, e128, W_seq, W_region, W_cond, W_block, W_skip, W_label, W_exit, W_goto, W_ret, WO_cons, WO_consG, WO_nil, wantedA_eq, wantB, evOp, ev_tmp, ev_const, ev_fn, WN_some, WN_none, updO_some, updO_none, upd_eq,
 ↓reduceIte, Nat.reduceEqDiff, List.nil_append, List.cons_append, List.append_nil, List.map_cons, List.map_nil, env0_zero, env0_succ, env0_nil, Option.map_some, Option.map_none, seqQ_normal, seqQ_ret, seqQ_exit, seqQ_goto, blockQ_normal, blockQ_ret, blockQ_exit, blockQ_goto, condW_bool, loopQ_ret, loopQ_exit, loopQ_goto, endQ_ret, endQ_normal,
 lss_i, leq_i, gtr_i, geq_i, eql_i, neq_i, eql_8, neq_8, lss_8, leq_8, gtr_8, geq_8, eql_s, neq_s, eql_b, neq_b, not_b, by_bys, by_nils, load_cp1, beq_true, beq_false, Bool.not_eq_true', decide_eq_true_eq, decide_eq_false_iff_not, decide_true, decide_false,
 Int.toNat_natCast, Int.ofNat_lt, Int.ofNat_le, Int.natCast_inj, Bool.false_eq_true, Bool.true_eq_false, extPV, List.getElem?_cons_zero, List.getElem?_cons_succ, nilckPV, Int.reduceToNat, Int.reduceLE, true_and, and_true, reduceCtorEq, or_false, false_or, or_true, Option.some.injEq, exists_eq_left', Bool.not_true, Bool.not_false, ne_eq, Int.reduceEq, not_true_eq_false, not_false_eq_true, Int.reduceLT, UInt8.reduceLT, UInt8.reduceLE, UInt8.reduceToNat]
  obtain ⟨I, hI⟩ : ∃ I : Nat → Env → St → Prop, I = fun k e s' => ∃ (i : Nat) (v : PV), k = fs.length - i ∧ i ≤ fs.length ∧ Kept st s' ∧ Mine st s' v ((fs.take i).flatMap fieldBytes) ∧ (∀ j, j < i → okFd (fs.getD j ([], [])) = true) ∧ e 0 = x ∧ e 4 = v ∧ e 5 = .bool ((fs.take i).any longF) ∧ e 6 = .int .i64 (i : Int) := ⟨_, rfl⟩
  refine W_loop I ?_ (n := fs.length) (by
    rw [hI]
    exact ⟨0, .nils, rfl, by omega, Kept.start, Mine.nil, fun j h => by omega, rfl, rfl, rfl, rfl⟩)
  intro k e s' hh
  rw [hI] at hh
  obtain ⟨i, v, rfl, hi, hk, hm, hok, h0, h4, h5, h6⟩ := hh
  have hbl := bytes_len (fs := fs.take i) (fun f hfm => hf f (List.mem_of_mem_take hfm))
  have hbl2 : ((fs.take i).flatMap fieldBytes).length ≤ 3840000 := by
    have h0 : (fs.take i).length ≤ 128 := by simp; omega
    exact Nat.le_trans hbl (Nat.le_trans (Nat.mul_le_mul_right 30000 h0) (by decide))
  clear hbl
  by_cases hlt : i < fs.length
  · obtain ⟨f, hfe⟩ : ∃ f, f = fs.getD i ([], []) := ⟨_, rfl⟩
    have hfm : f ∈ fs := by rw [hfe]; simp [List.getD, hlt]
    have hfo := hf f hfm
    have hnm : ∀ S : St, call prog (.fn 160 []) [.str f.1] S = some (.bool (nameB f.1), S) := fun S => rName_spec (by have := hfo.1; omega)
    have hvl : ∀ S : St, call prog (.fn 161 []) [.str f.2] S = some (.bool (valB f.2), S) := fun S => rValue_spec (by have := hfo.2; omega)
    have bad : okFd f = false → ∀ (E : Env), E 2 = .nils → E 3 = .int .i64 50 → ∃ rv, resOf E s' [.tmp 2, .tmp 3] = some rv ∧ leave st s' rv = outV st (writeOf fs) := fun hq E k2 k3 =>
      ⟨.tup [.nils, .int .i64 50], by simp [resOf, rvAll, rv1, k2, k3, notTup, packRes], by
        rw [show writeOf fs = (50, []) by simp [writeOf, h128, all_not hlt (by rw [← hfe]; exact hq)]]
        exact hk.leave rfl (fun _ _ => rfl)⟩
    cases q1 : nameB f.1 with
    | false =>
      rw [q1] at hnm
      simp (maxSteps := 1000000) (disch := omega) only [h0, h4, h5, h6, hlen, hlt, iaddr_f hx, ← hfe, fa_cp, load_cp0, load_cp1', hnm, W_seq, W_region, W_cond, W_block, W_skip, W_label, W_exit, W_goto, W_ret, WO_cons, WO_consG, WO_nil, wantedA_eq, wantB, evOp, ev_tmp, ev_const, ev_fn, WN_some, WN_none, updO_some, updO_none, upd_eq,
 ↓reduceIte, Nat.reduceEqDiff, List.nil_append, List.cons_append, List.append_nil, List.map_cons, List.map_nil, env0_zero, env0_succ, env0_nil, Option.map_some, Option.map_none, seqQ_normal, seqQ_ret, seqQ_exit, seqQ_goto, blockQ_normal, blockQ_ret, blockQ_exit, blockQ_goto, condW_bool, loopQ_ret, loopQ_exit, loopQ_goto, endQ_ret, endQ_normal,
 lss_i, leq_i, gtr_i, geq_i, eql_i, neq_i, eql_8, neq_8, lss_8, leq_8, gtr_8, geq_8, eql_s, neq_s, eql_b, neq_b, not_b, by_bys, by_nils, load_cp1, beq_true, beq_false, Bool.not_eq_true', decide_eq_true_eq, decide_eq_false_iff_not, decide_true, decide_false,
 Int.toNat_natCast, Int.ofNat_lt, Int.ofNat_le, Int.natCast_inj, Bool.false_eq_true, Bool.true_eq_false, extPV, List.getElem?_cons_zero, List.getElem?_cons_succ, nilckPV, Int.reduceToNat, Int.reduceLE, true_and, and_true, reduceCtorEq, or_false, false_or, or_true, Option.some.injEq, exists_eq_left', Bool.not_true, Bool.not_false, ne_eq, Int.reduceEq, not_true_eq_false, not_false_eq_true, Int.reduceLT, UInt8.reduceLT, UInt8.reduceLE, UInt8.reduceToNat]
      exact bad (by simp [okFd, q1]) _ rfl rfl
    | true =>
    rw [q1] at hnm
    cases q2 : valB f.2 with
    | false =>
      rw [q2] at hvl
      simp (maxSteps := 1000000) (disch := omega) only [h0, h4, h5, h6, hlen, hlt, iaddr_f hx, ← hfe, fa_cp, load_cp0, load_cp1', hnm, hvl, W_seq, W_region, W_cond, W_block, W_skip, W_label, W_exit, W_goto, W_ret, WO_cons, WO_consG, WO_nil, wantedA_eq, wantB, evOp, ev_tmp, ev_const, ev_fn, WN_some, WN_none, updO_some, updO_none, upd_eq,
 ↓reduceIte, Nat.reduceEqDiff, List.nil_append, List.cons_append, List.append_nil, List.map_cons, List.map_nil, env0_zero, env0_succ, env0_nil, Option.map_some, Option.map_none, seqQ_normal, seqQ_ret, seqQ_exit, seqQ_goto, blockQ_normal, blockQ_ret, blockQ_exit, blockQ_goto, condW_bool, loopQ_ret, loopQ_exit, loopQ_goto, endQ_ret, endQ_normal,
 lss_i, leq_i, gtr_i, geq_i, eql_i, neq_i, eql_8, neq_8, lss_8, leq_8, gtr_8, geq_8, eql_s, neq_s, eql_b, neq_b, not_b, by_bys, by_nils, load_cp1, beq_true, beq_false, Bool.not_eq_true', decide_eq_true_eq, decide_eq_false_iff_not, decide_true, decide_false,
 Int.toNat_natCast, Int.ofNat_lt, Int.ofNat_le, Int.natCast_inj, Bool.false_eq_true, Bool.true_eq_false, extPV, List.getElem?_cons_zero, List.getElem?_cons_succ, nilckPV, Int.reduceToNat, Int.reduceLE, true_and, and_true, reduceCtorEq, or_false, false_or, or_true, Option.some.injEq, exists_eq_left', Bool.not_true, Bool.not_false, ne_eq, Int.reduceEq, not_true_eq_false, not_false_eq_true, Int.reduceLT, UInt8.reduceLT, UInt8.reduceLE, UInt8.reduceToNat]
      exact bad (by simp [okFd, q2]) _ rfl rfl
    | true =>
    rw [q2] at hvl
    have hokf : okFd f = true := by simp [okFd, q1, q2]
    have hq := okLen f hokf
    have hfb := fieldBytes_len hfo.1 hfo.2
    have hll := lineOf_len (f := f)
    obtain ⟨T, hT⟩ : ∃ T, T = piecesOf f := ⟨_, rfl⟩
    obtain ⟨base, hbase⟩ : ∃ base, base = (fs.take i).flatMap fieldBytes := ⟨_, rfl⟩
    obtain ⟨lg, hlg⟩ : ∃ lg, lg = (fs.take i).any longF := ⟨_, rfl⟩
    rw [← hbase] at hm hbl2
    rw [← hlg] at h5
    have hsn : (fs.take (i + 1)).flatMap fieldBytes = base ++ T.flatMap crl2 := by
      rw [take_getD' hlt, ← hfe, List.flatMap_append, hbase, hT]; simp [fieldBytes]
    have hfbl : (T.flatMap crl2).length ≤ 30000 := by rw [hT]; exact hfb
    have hlgn : (fs.take (i + 1)).any longF = (lg || T.any longX) := by
      rw [any_take (d := ([], [])) hlt, ← hlg, ← hfe, hT]; rfl
    clear hbase bad
    obtain ⟨J, hJ⟩ : ∃ J : Env → St → Prop, J = fun E S => S = s' ∧ E 0 = x ∧ E 4 = v ∧ E 5 = .bool lg ∧ E 6 = .int .i64 (i : Int) := ⟨_, rfl⟩
    refine W_cut J ?_ ?_
    · simp (maxSteps := 1000000) (disch := omega) only [h0, h4, h5, h6, hlen, hlt, hJ, W_seq, W_region, W_cond, W_block, W_skip, W_label, W_exit, W_goto, W_ret, WO_cons, WO_consG, WO_nil, wantedA_eq, wantB, evOp, ev_tmp, ev_const, ev_fn, WN_some, WN_none, updO_some, updO_none, upd_eq,
 ↓reduceIte, Nat.reduceEqDiff, List.nil_append, List.cons_append, List.append_nil, List.map_cons, List.map_nil, env0_zero, env0_succ, env0_nil, Option.map_some, Option.map_none, seqQ_normal, seqQ_ret, seqQ_exit, seqQ_goto, blockQ_normal, blockQ_ret, blockQ_exit, blockQ_goto, condW_bool, loopQ_ret, loopQ_exit, loopQ_goto, endQ_ret, endQ_normal,
 lss_i, leq_i, gtr_i, geq_i, eql_i, neq_i, eql_8, neq_8, lss_8, leq_8, gtr_8, geq_8, eql_s, neq_s, eql_b, neq_b, not_b, by_bys, by_nils, load_cp1, beq_true, beq_false, Bool.not_eq_true', decide_eq_true_eq, decide_eq_false_iff_not, decide_true, decide_false,
 Int.toNat_natCast, Int.ofNat_lt, Int.ofNat_le, Int.natCast_inj, Bool.false_eq_true, Bool.true_eq_false, extPV, List.getElem?_cons_zero, List.getElem?_cons_succ, nilckPV, Int.reduceToNat, Int.reduceLE, true_and, and_true, reduceCtorEq, or_false, false_or, or_true, Option.some.injEq, exists_eq_left', Bool.not_true, Bool.not_false, ne_eq, Int.reduceEq, not_true_eq_false, not_false_eq_true, Int.reduceLT, UInt8.reduceLT, UInt8.reduceLE, UInt8.reduceToNat]
    clear h0 h4 h5 h6
    intro e S hj
    rw [hJ] at hj
    obtain ⟨rfl, h0, h4, h5, h6⟩ := hj
    rw [W_seq, W_block]
    refine W_cut J ?_ ?_
    · simp (maxSteps := 1000000) (disch := omega) only [h0, h4, h5, h6, iaddr_f hx, ← hfe, fa_cp, load_cp0, load_cp1', hnm, hvl, hJ, W_seq, W_region, W_cond, W_block, W_skip, W_label, W_exit, W_goto, W_ret, WO_cons, WO_consG, WO_nil, wantedA_eq, wantB, evOp, ev_tmp, ev_const, ev_fn, WN_some, WN_none, updO_some, updO_none, upd_eq,
 ↓reduceIte, Nat.reduceEqDiff, List.nil_append, List.cons_append, List.append_nil, List.map_cons, List.map_nil, env0_zero, env0_succ, env0_nil, Option.map_some, Option.map_none, seqQ_normal, seqQ_ret, seqQ_exit, seqQ_goto, blockQ_normal, blockQ_ret, blockQ_exit, blockQ_goto, condW_bool, loopQ_ret, loopQ_exit, loopQ_goto, endQ_ret, endQ_normal,
 lss_i, leq_i, gtr_i, geq_i, eql_i, neq_i, eql_8, neq_8, lss_8, leq_8, gtr_8, geq_8, eql_s, neq_s, eql_b, neq_b, not_b, by_bys, by_nils, load_cp1, beq_true, beq_false, Bool.not_eq_true', decide_eq_true_eq, decide_eq_false_iff_not, decide_true, decide_false,
 Int.toNat_natCast, Int.ofNat_lt, Int.ofNat_le, Int.natCast_inj, Bool.false_eq_true, Bool.true_eq_false, extPV, List.getElem?_cons_zero, List.getElem?_cons_succ, nilckPV, Int.reduceToNat, Int.reduceLE, true_and, and_true, reduceCtorEq, or_false, false_or, or_true, Option.some.injEq, exists_eq_left', Bool.not_true, Bool.not_false, ne_eq, Int.reduceEq, not_true_eq_false, not_false_eq_true, Int.reduceLT, UInt8.reduceLT, UInt8.reduceLE, UInt8.reduceToNat]
    clear h0 h4 h5 h6
    intro e S hj
    rw [hJ] at hj
    obtain ⟨rfl, h0, h4, h5, h6⟩ := hj
    have ha0 : ∀ ek, binPV .add ek (.str f.1) (.str [58]) = some (.str (f.1 ++ [58])) := fun ek => adds (by simp; omega)
    refine W_cut (fun E S => J E S ∧ E 7 = .str (f.1 ++ [58])) ?_ ?_
    · simp (maxSteps := 1000000) (disch := omega) only [h0, h4, h5, h6, iaddr_f hx, ← hfe, fa_cp, load_cp0, load_cp1', ha0, hJ, W_seq, W_region, W_cond, W_block, W_skip, W_label, W_exit, W_goto, W_ret, WO_cons, WO_consG, WO_nil, wantedA_eq, wantB, evOp, ev_tmp, ev_const, ev_fn, WN_some, WN_none, updO_some, updO_none, upd_eq,
 ↓reduceIte, Nat.reduceEqDiff, List.nil_append, List.cons_append, List.append_nil, List.map_cons, List.map_nil, env0_zero, env0_succ, env0_nil, Option.map_some, Option.map_none, seqQ_normal, seqQ_ret, seqQ_exit, seqQ_goto, blockQ_normal, blockQ_ret, blockQ_exit, blockQ_goto, condW_bool, loopQ_ret, loopQ_exit, loopQ_goto, endQ_ret, endQ_normal,
 lss_i, leq_i, gtr_i, geq_i, eql_i, neq_i, eql_8, neq_8, lss_8, leq_8, gtr_8, geq_8, eql_s, neq_s, eql_b, neq_b, not_b, by_bys, by_nils, load_cp1, beq_true, beq_false, Bool.not_eq_true', decide_eq_true_eq, decide_eq_false_iff_not, decide_true, decide_false,
 Int.toNat_natCast, Int.ofNat_lt, Int.ofNat_le, Int.natCast_inj, Bool.false_eq_true, Bool.true_eq_false, extPV, List.getElem?_cons_zero, List.getElem?_cons_succ, nilckPV, Int.reduceToNat, Int.reduceLE, true_and, and_true, reduceCtorEq, or_false, false_or, or_true, Option.some.injEq, exists_eq_left', Bool.not_true, Bool.not_false, ne_eq, Int.reduceEq, not_true_eq_false, not_false_eq_true, Int.reduceLT, UInt8.reduceLT, UInt8.reduceLE, UInt8.reduceToNat]
    clear h0 h4 h5 h6
    rintro e S ⟨hj, h7⟩
    rw [hJ] at hj
    obtain ⟨rfl, h0, h4, h5, h6⟩ := hj
    refine W_cut (fun E S => J E S ∧ E 7 = .str (lineOf f)) ?_ ?_
    · by_cases hv : f.2 = []
      · rw [show lineOf f = f.1 ++ [58] by simp [lineOf, hv]]
        simp (maxSteps := 1000000) (disch := omega) only [h0, h4, h5, h6, h7, iaddr_f hx, ← hfe, fa_cp, load_cp0, load_cp1', eq_true hv, hJ, W_seq, W_region, W_cond, W_block, W_skip, W_label, W_exit, W_goto, W_ret, WO_cons, WO_consG, WO_nil, wantedA_eq, wantB, evOp, ev_tmp, ev_const, ev_fn, WN_some, WN_none, updO_some, updO_none, upd_eq,
 ↓reduceIte, Nat.reduceEqDiff, List.nil_append, List.cons_append, List.append_nil, List.map_cons, List.map_nil, env0_zero, env0_succ, env0_nil, Option.map_some, Option.map_none, seqQ_normal, seqQ_ret, seqQ_exit, seqQ_goto, blockQ_normal, blockQ_ret, blockQ_exit, blockQ_goto, condW_bool, loopQ_ret, loopQ_exit, loopQ_goto, endQ_ret, endQ_normal,
 lss_i, leq_i, gtr_i, geq_i, eql_i, neq_i, eql_8, neq_8, lss_8, leq_8, gtr_8, geq_8, eql_s, neq_s, eql_b, neq_b, not_b, by_bys, by_nils, load_cp1, beq_true, beq_false, Bool.not_eq_true', decide_eq_true_eq, decide_eq_false_iff_not, decide_true, decide_false,
 Int.toNat_natCast, Int.ofNat_lt, Int.ofNat_le, Int.natCast_inj, Bool.false_eq_true, Bool.true_eq_false, extPV, List.getElem?_cons_zero, List.getElem?_cons_succ, nilckPV, Int.reduceToNat, Int.reduceLE, true_and, and_true, reduceCtorEq, or_false, false_or, or_true, Option.some.injEq, exists_eq_left', Bool.not_true, Bool.not_false, ne_eq, Int.reduceEq, not_true_eq_false, not_false_eq_true, Int.reduceLT, UInt8.reduceLT, UInt8.reduceLE, UInt8.reduceToNat]
      · have ha1 : ∀ ek, binPV .add ek (.str (f.1 ++ [58])) (.str [32]) = some (.str (f.1 ++ [58] ++ [32])) := fun ek => adds (by simp; omega)
        have ha2 : ∀ ek, binPV .add ek (.str (f.1 ++ [58] ++ [32])) (.str f.2) = some (.str (lineOf f)) := fun ek => by
          rw [adds (by simp; omega)]; simp [lineOf, hv]
        simp (maxSteps := 1000000) (disch := omega) only [h0, h4, h5, h6, h7, iaddr_f hx, ← hfe, fa_cp, load_cp0, load_cp1', hv, ha1, ha2, hJ, W_seq, W_region, W_cond, W_block, W_skip, W_label, W_exit, W_goto, W_ret, WO_cons, WO_consG, WO_nil, wantedA_eq, wantB, evOp, ev_tmp, ev_const, ev_fn, WN_some, WN_none, updO_some, updO_none, upd_eq,
 ↓reduceIte, Nat.reduceEqDiff, List.nil_append, List.cons_append, List.append_nil, List.map_cons, List.map_nil, env0_zero, env0_succ, env0_nil, Option.map_some, Option.map_none, seqQ_normal, seqQ_ret, seqQ_exit, seqQ_goto, blockQ_normal, blockQ_ret, blockQ_exit, blockQ_goto, condW_bool, loopQ_ret, loopQ_exit, loopQ_goto, endQ_ret, endQ_normal,
 lss_i, leq_i, gtr_i, geq_i, eql_i, neq_i, eql_8, neq_8, lss_8, leq_8, gtr_8, geq_8, eql_s, neq_s, eql_b, neq_b, not_b, by_bys, by_nils, load_cp1, beq_true, beq_false, Bool.not_eq_true', decide_eq_true_eq, decide_eq_false_iff_not, decide_true, decide_false,
 Int.toNat_natCast, Int.ofNat_lt, Int.ofNat_le, Int.natCast_inj, Bool.false_eq_true, Bool.true_eq_false, extPV, List.getElem?_cons_zero, List.getElem?_cons_succ, nilckPV, Int.reduceToNat, Int.reduceLE, true_and, and_true, reduceCtorEq, or_false, false_or, or_true, Option.some.injEq, exists_eq_left', Bool.not_true, Bool.not_false, ne_eq, Int.reduceEq, not_true_eq_false, not_false_eq_true, Int.reduceLT, UInt8.reduceLT, UInt8.reduceLE, UInt8.reduceToNat]
    clear h0 h4 h5 h6 h7
    rintro e S ⟨hj, h7⟩
    rw [hJ] at hj
    obtain ⟨rfl, h0, h4, h5, h6⟩ := hj
    refine W_cut (fun E S => J E S ∧ E 7 = .str (lineOf f) ∧ E 8 = .int .i64 ((f.1.length + 3 : Nat) : Int)) ?_ ?_
    · simp (maxSteps := 1000000) (disch := omega) only [h0, h4, h5, h6, h7, iaddr_f hx, ← hfe, fa_cp, load_cp0, load_cp1', len_s, add_n, hJ, W_seq, W_region, W_cond, W_block, W_skip, W_label, W_exit, W_goto, W_ret, WO_cons, WO_consG, WO_nil, wantedA_eq, wantB, evOp, ev_tmp, ev_const, ev_fn, WN_some, WN_none, updO_some, updO_none, upd_eq,
 ↓reduceIte, Nat.reduceEqDiff, List.nil_append, List.cons_append, List.append_nil, List.map_cons, List.map_nil, env0_zero, env0_succ, env0_nil, Option.map_some, Option.map_none, seqQ_normal, seqQ_ret, seqQ_exit, seqQ_goto, blockQ_normal, blockQ_ret, blockQ_exit, blockQ_goto, condW_bool, loopQ_ret, loopQ_exit, loopQ_goto, endQ_ret, endQ_normal,
 lss_i, leq_i, gtr_i, geq_i, eql_i, neq_i, eql_8, neq_8, lss_8, leq_8, gtr_8, geq_8, eql_s, neq_s, eql_b, neq_b, not_b, by_bys, by_nils, load_cp1, beq_true, beq_false, Bool.not_eq_true', decide_eq_true_eq, decide_eq_false_iff_not, decide_true, decide_false,
 Int.toNat_natCast, Int.ofNat_lt, Int.ofNat_le, Int.natCast_inj, Bool.false_eq_true, Bool.true_eq_false, extPV, List.getElem?_cons_zero, List.getElem?_cons_succ, nilckPV, Int.reduceToNat, Int.reduceLE, true_and, and_true, reduceCtorEq, or_false, false_or, or_true, Option.some.injEq, exists_eq_left', Bool.not_true, Bool.not_false, ne_eq, Int.reduceEq, not_true_eq_false, not_false_eq_true, Int.reduceLT, UInt8.reduceLT, UInt8.reduceLE, UInt8.reduceToNat]
    clear h0 h4 h5 h6 h7
    rintro e S ⟨hj, h7, h8⟩
    rw [hJ] at hj
    obtain ⟨rfl, h0, h4, h5, h6⟩ := hj
    clear hJ J
    obtain ⟨J, hJ⟩ : ∃ J : Env → St → Prop, J = fun E S => ∃ (m : List UInt8) (v : PV) (acc : List (List UInt8)), Kept st S ∧ Mine st S v (base ++ acc.flatMap crl2) ∧ T = acc ++ [m] ∧ E 0 = x ∧ E 4 = v ∧ E 5 = .bool (lg || acc.any longX) ∧ E 6 = .int .i64 (i : Int) ∧ E 7 = .str m := ⟨_, rfl⟩
    refine W_cut J ?_ ?_
    · rw [W_block]
      obtain ⟨II, hII⟩ : ∃ II : Nat → Env → St → Prop, II = fun k E S => ∃ (m : List UInt8) (f' n' : Nat) (v : PV) (acc : List (List UInt8)), m.length = k ∧ m.length ≤ n' ∧ m.length ≤ 1000000 ∧ 1 ≤ f' ∧ f' ≤ 77 ∧ Kept st S ∧ Mine st S v (base ++ acc.flatMap crl2) ∧ T = acc ++ foldF n' m f' ∧ E 0 = x ∧ E 4 = v ∧ E 5 = .bool (lg || acc.any longX) ∧ E 6 = .int .i64 (i : Int) ∧ E 7 = .str m ∧ E 8 = .int .i64 (f' : Int) := ⟨_, rfl⟩
      refine W_loop II ?_ (n := (lineOf f).length) (by
        rw [hII]
        exact ⟨lineOf f, f.1.length + 3, (lineOf f).length, v, [], rfl, Nat.le_refl _, by omega, by omega, by omega, hk, by simpa using hm, by rw [hT]; rfl, h0, h4, by simpa using h5, h6, h7, h8⟩)
      clear h0 h4 h5 h6 h7 h8 hk hm
      intro k e S hh
      rw [hII] at hh
      obtain ⟨m, f', n', v, acc, rfl, hmn, hm6, hf1, hf3, hk, hm, hTT, h0, h4, h5, h6, h7, h8⟩ := hh
      by_cases hlt2 : 76 < m.length
      · have e1 : (76 : Int) < (m.length : Int) := by omega
        obtain ⟨n'', rfl⟩ : ∃ n'', n' = n'' + 1 := ⟨n' - 1, by omega⟩
        simp only [foldF, hlt2, if_true] at hTT
        have hple := plc_le (l := m) (f := f') m.length
        have hplc : ∀ S : St, call prog (.fn 162 []) [.str m, .int .i64 (f' : Int)] S = some (.int .i64 (plc m f' m.length), S) := fun S => place_walk hm6 (by omega)
        by_cases hp0 : plc m f' m.length < 0
        · rw [if_pos hp0] at hTT
          simp (maxSteps := 1000000) (disch := omega) only [h0, h4, h5, h6, h7, h8, len_s, e1, hplc, hp0, hJ, W_seq, W_region, W_cond, W_block, W_skip, W_label, W_exit, W_goto, W_ret, WO_cons, WO_consG, WO_nil, wantedA_eq, wantB, evOp, ev_tmp, ev_const, ev_fn, WN_some, WN_none, updO_some, updO_none, upd_eq,
 ↓reduceIte, Nat.reduceEqDiff, List.nil_append, List.cons_append, List.append_nil, List.map_cons, List.map_nil, env0_zero, env0_succ, env0_nil, Option.map_some, Option.map_none, seqQ_normal, seqQ_ret, seqQ_exit, seqQ_goto, blockQ_normal, blockQ_ret, blockQ_exit, blockQ_goto, condW_bool, loopQ_ret, loopQ_exit, loopQ_goto, endQ_ret, endQ_normal,
 lss_i, leq_i, gtr_i, geq_i, eql_i, neq_i, eql_8, neq_8, lss_8, leq_8, gtr_8, geq_8, eql_s, neq_s, eql_b, neq_b, not_b, by_bys, by_nils, load_cp1, beq_true, beq_false, Bool.not_eq_true', decide_eq_true_eq, decide_eq_false_iff_not, decide_true, decide_false,
 Int.toNat_natCast, Int.ofNat_lt, Int.ofNat_le, Int.natCast_inj, Bool.false_eq_true, Bool.true_eq_false, extPV, List.getElem?_cons_zero, List.getElem?_cons_succ, nilckPV, Int.reduceToNat, Int.reduceLE, true_and, and_true, reduceCtorEq, or_false, false_or, or_true, Option.some.injEq, exists_eq_left', Bool.not_true, Bool.not_false, ne_eq, Int.reduceEq, not_true_eq_false, not_false_eq_true, Int.reduceLT, UInt8.reduceLT, UInt8.reduceLE, UInt8.reduceToNat]
          exact ⟨m, v, acc, hk, hm, hTT, rfl, rfl, rfl⟩
        · obtain ⟨pn, hpn⟩ : ∃ pn : Nat, plc m f' m.length = (pn : Int) := ⟨(plc m f' m.length).toNat, by omega⟩
          rw [hpn] at hTT hplc hple
          have e2 : ¬ (pn : Int) < 0 := by omega
          rw [if_neg e2, Int.toNat_natCast] at hTT
          have hfp : f' ≤ pn := by have := hple.2.2 (by omega); omega
          have hTc : T.flatMap crl2 = acc.flatMap crl2 ++ (crl2 (m.take pn) ++ (foldF n'' (m.drop pn) 1).flatMap crl2) := by rw [hTT]; simp
          have hTl := congrArg List.length hTc
          simp only [List.length_append, crl2, List.length_cons, List.length_nil] at hTl
          obtain ⟨v1, S1, a1, k1, m1⟩ := hk.app8 (y := .str (m.take pn)) (m := m.take pn) hm rfl (by simp only [List.length_append, room]; simp only [crl2] at *; omega)
          obtain ⟨v2, S2, a2, k2, m2⟩ := k1.push2 (c := 13) (d := 10) m1 (by simp only [List.length_append, room]; simp only [crl2] at *; omega)
          have hnext : ∀ (E : Env) (b : Bool), b = (lg || acc.any longX || longX (m.take pn)) → E 0 = x → E 4 = v2 → E 5 = .bool b → E 6 = .int .i64 (i : Int) → E 7 = .str (m.drop pn) → E 8 = .int .i64 1 → II (m.length - pn) E S2 := by
            intro E b hb j0 j4 j5 j6 j7 j8
            rw [hII]
            refine ⟨m.drop pn, 1, n'', v2, acc ++ [m.take pn], by simp, by simp; omega, by simp; omega, by omega, by omega, k2, ?_, ?_, j0, j4, ?_, j6, j7, j8⟩
            · rw [List.flatMap_append]; simpa [crl2] using m2
            · rw [hTT]; simp
            · rw [j5, hb, List.any_append]; simp [Bool.or_assoc]
          have hlx : longX (m.take pn) = decide (998 < pn) := by unfold longX; rw [List.length_take, Nat.min_eq_left (by omega)]
          cases hb : (lg || acc.any longX) with
          | true =>
            rw [hb] at h5
            simp (maxSteps := 1000000) (disch := omega) only [h0, h4, h5, h6, h7, h8, len_s, e1, hplc, e2, slc_s_hi, slc_s_lo, a1, lit8_2, freshT_eq, a2, W_seq, W_region, W_cond, W_block, W_skip, W_label, W_exit, W_goto, W_ret, WO_cons, WO_consG, WO_nil, wantedA_eq, wantB, evOp, ev_tmp, ev_const, ev_fn, WN_some, WN_none, updO_some, updO_none, upd_eq,
 ↓reduceIte, Nat.reduceEqDiff, List.nil_append, List.cons_append, List.append_nil, List.map_cons, List.map_nil, env0_zero, env0_succ, env0_nil, Option.map_some, Option.map_none, seqQ_normal, seqQ_ret, seqQ_exit, seqQ_goto, blockQ_normal, blockQ_ret, blockQ_exit, blockQ_goto, condW_bool, loopQ_ret, loopQ_exit, loopQ_goto, endQ_ret, endQ_normal,
 lss_i, leq_i, gtr_i, geq_i, eql_i, neq_i, eql_8, neq_8, lss_8, leq_8, gtr_8, geq_8, eql_s, neq_s, eql_b, neq_b, not_b, by_bys, by_nils, load_cp1, beq_true, beq_false, Bool.not_eq_true', decide_eq_true_eq, decide_eq_false_iff_not, decide_true, decide_false,
 Int.toNat_natCast, Int.ofNat_lt, Int.ofNat_le, Int.natCast_inj, Bool.false_eq_true, Bool.true_eq_false, extPV, List.getElem?_cons_zero, List.getElem?_cons_succ, nilckPV, Int.reduceToNat, Int.reduceLE, true_and, and_true, reduceCtorEq, or_false, false_or, or_true, Option.some.injEq, exists_eq_left', Bool.not_true, Bool.not_false, ne_eq, Int.reduceEq, not_true_eq_false, not_false_eq_true, Int.reduceLT, UInt8.reduceLT, UInt8.reduceLE, UInt8.reduceToNat]
            exact loopQ_intro (m := m.length - pn) (by omega) (hnext _ true (by simp [hb]) h0 rfl rfl h6 rfl rfl)
          | false =>
            rw [hb] at h5
            by_cases h998 : 998 < pn
            · have e3 : (998 : Int) < (pn : Int) := by omega
              simp (maxSteps := 1000000) (disch := omega) only [h0, h4, h5, h6, h7, h8, len_s, e1, hplc, e2, e3, slc_s_hi, slc_s_lo, a1, lit8_2, freshT_eq, a2, W_seq, W_region, W_cond, W_block, W_skip, W_label, W_exit, W_goto, W_ret, WO_cons, WO_consG, WO_nil, wantedA_eq, wantB, evOp, ev_tmp, ev_const, ev_fn, WN_some, WN_none, updO_some, updO_none, upd_eq,
 ↓reduceIte, Nat.reduceEqDiff, List.nil_append, List.cons_append, List.append_nil, List.map_cons, List.map_nil, env0_zero, env0_succ, env0_nil, Option.map_some, Option.map_none, seqQ_normal, seqQ_ret, seqQ_exit, seqQ_goto, blockQ_normal, blockQ_ret, blockQ_exit, blockQ_goto, condW_bool, loopQ_ret, loopQ_exit, loopQ_goto, endQ_ret, endQ_normal,
 lss_i, leq_i, gtr_i, geq_i, eql_i, neq_i, eql_8, neq_8, lss_8, leq_8, gtr_8, geq_8, eql_s, neq_s, eql_b, neq_b, not_b, by_bys, by_nils, load_cp1, beq_true, beq_false, Bool.not_eq_true', decide_eq_true_eq, decide_eq_false_iff_not, decide_true, decide_false,
 Int.toNat_natCast, Int.ofNat_lt, Int.ofNat_le, Int.natCast_inj, Bool.false_eq_true, Bool.true_eq_false, extPV, List.getElem?_cons_zero, List.getElem?_cons_succ, nilckPV, Int.reduceToNat, Int.reduceLE, true_and, and_true, reduceCtorEq, or_false, false_or, or_true, Option.some.injEq, exists_eq_left', Bool.not_true, Bool.not_false, ne_eq, Int.reduceEq, not_true_eq_false, not_false_eq_true, Int.reduceLT, UInt8.reduceLT, UInt8.reduceLE, UInt8.reduceToNat]
              exact loopQ_intro (m := m.length - pn) (by omega) (hnext _ true (by simp [hb, hlx, h998]) h0 rfl rfl h6 rfl rfl)
            · have e3 : ¬ (998 : Int) < (pn : Int) := by omega
              simp (maxSteps := 1000000) (disch := omega) only [h0, h4, h5, h6, h7, h8, len_s, e1, hplc, e2, e3, slc_s_hi, slc_s_lo, a1, lit8_2, freshT_eq, a2, W_seq, W_region, W_cond, W_block, W_skip, W_label, W_exit, W_goto, W_ret, WO_cons, WO_consG, WO_nil, wantedA_eq, wantB, evOp, ev_tmp, ev_const, ev_fn, WN_some, WN_none, updO_some, updO_none, upd_eq,
 ↓reduceIte, Nat.reduceEqDiff, List.nil_append, List.cons_append, List.append_nil, List.map_cons, List.map_nil, env0_zero, env0_succ, env0_nil, Option.map_some, Option.map_none, seqQ_normal, seqQ_ret, seqQ_exit, seqQ_goto, blockQ_normal, blockQ_ret, blockQ_exit, blockQ_goto, condW_bool, loopQ_ret, loopQ_exit, loopQ_goto, endQ_ret, endQ_normal,
 lss_i, leq_i, gtr_i, geq_i, eql_i, neq_i, eql_8, neq_8, lss_8, leq_8, gtr_8, geq_8, eql_s, neq_s, eql_b, neq_b, not_b, by_bys, by_nils, load_cp1, beq_true, beq_false, Bool.not_eq_true', decide_eq_true_eq, decide_eq_false_iff_not, decide_true, decide_false,
 Int.toNat_natCast, Int.ofNat_lt, Int.ofNat_le, Int.natCast_inj, Bool.false_eq_true, Bool.true_eq_false, extPV, List.getElem?_cons_zero, List.getElem?_cons_succ, nilckPV, Int.reduceToNat, Int.reduceLE, true_and, and_true, reduceCtorEq, or_false, false_or, or_true, Option.some.injEq, exists_eq_left', Bool.not_true, Bool.not_false, ne_eq, Int.reduceEq, not_true_eq_false, not_false_eq_true, Int.reduceLT, UInt8.reduceLT, UInt8.reduceLE, UInt8.reduceToNat]
              exact loopQ_intro (m := m.length - pn) (by omega) (hnext _ false (by simp [hb, hlx, h998]) h0 rfl rfl h6 rfl rfl)
      · have e1 : ¬ (76 : Int) < (m.length : Int) := by omega
        have hTf : T = acc ++ [m] := by
          rw [hTT]
          cases n' with
          | zero => rfl
          | succ n'' => simp only [foldF, hlt2, if_false]
        simp (maxSteps := 1000000) (disch := omega) only [h0, h4, h5, h6, h7, h8, len_s, e1, hJ, W_seq, W_region, W_cond, W_block, W_skip, W_label, W_exit, W_goto, W_ret, WO_cons, WO_consG, WO_nil, wantedA_eq, wantB, evOp, ev_tmp, ev_const, ev_fn, WN_some, WN_none, updO_some, updO_none, upd_eq,
 ↓reduceIte, Nat.reduceEqDiff, List.nil_append, List.cons_append, List.append_nil, List.map_cons, List.map_nil, env0_zero, env0_succ, env0_nil, Option.map_some, Option.map_none, seqQ_normal, seqQ_ret, seqQ_exit, seqQ_goto, blockQ_normal, blockQ_ret, blockQ_exit, blockQ_goto, condW_bool, loopQ_ret, loopQ_exit, loopQ_goto, endQ_ret, endQ_normal,
 lss_i, leq_i, gtr_i, geq_i, eql_i, neq_i, eql_8, neq_8, lss_8, leq_8, gtr_8, geq_8, eql_s, neq_s, eql_b, neq_b, not_b, by_bys, by_nils, load_cp1, beq_true, beq_false, Bool.not_eq_true', decide_eq_true_eq, decide_eq_false_iff_not, decide_true, decide_false,
 Int.toNat_natCast, Int.ofNat_lt, Int.ofNat_le, Int.natCast_inj, Bool.false_eq_true, Bool.true_eq_false, extPV, List.getElem?_cons_zero, List.getElem?_cons_succ, nilckPV, Int.reduceToNat, Int.reduceLE, true_and, and_true, reduceCtorEq, or_false, false_or, or_true, Option.some.injEq, exists_eq_left', Bool.not_true, Bool.not_false, ne_eq, Int.reduceEq, not_true_eq_false, not_false_eq_true, Int.reduceLT, UInt8.reduceLT, UInt8.reduceLE, UInt8.reduceToNat]
        exact ⟨m, v, acc, hk, hm, hTf, rfl, rfl, rfl⟩
    clear h0 h4 h5 h6 h7 h8 hk hm
    intro e S hj
    rw [hJ] at hj
    obtain ⟨m, v, acc, hk, hm, hTT, h0, h4, h5, h6, h7⟩ := hj
    have hTc : T.flatMap crl2 = acc.flatMap crl2 ++ crl2 m := by rw [hTT]; simp
    have hTl := congrArg List.length hTc
    simp only [List.length_append, crl2, List.length_cons, List.length_nil] at hTl
    obtain ⟨v1, S1, a1, k1, m1⟩ := hk.app8 (y := .str m) (m := m) hm rfl (by simp only [List.length_append, room]; simp only [crl2] at *; omega)
    obtain ⟨v2, S2, a2, k2, m2⟩ := k1.push2 (c := 13) (d := 10) m1 (by simp only [List.length_append, room]; simp only [crl2] at *; omega)
    have hnext : ∀ (E : Env) (b : Bool), b = (lg || acc.any longX || longX m) → E 0 = x → E 4 = v2 → E 5 = .bool b → E 6 = .int .i64 ((i + 1 : Nat) : Int) → I (fs.length - (i + 1)) E S2 := by
      intro E b hb j0 j4 j5 j6
      rw [hI]
      refine ⟨i + 1, v2, rfl, by omega, k2, ?_, fun j hj => ?_, j0, j4, ?_, j6⟩
      · rw [hsn, hTc]; simpa [crl2] using m2
      · by_cases hji : j = i
        · subst hji; rw [← hfe]; exact hokf
        · exact hok j (by omega)
      · rw [j5, hb, hlgn, hTT, List.any_append]; simp [Bool.or_assoc]
    cases hb : (lg || acc.any longX) with
    | true =>
      rw [hb] at h5
      simp (maxSteps := 1000000) (disch := omega) only [h0, h4, h5, h6, h7, len_s, a1, lit8_2, freshT_eq, a2, add_n, W_seq, W_region, W_cond, W_block, W_skip, W_label, W_exit, W_goto, W_ret, WO_cons, WO_consG, WO_nil, wantedA_eq, wantB, evOp, ev_tmp, ev_const, ev_fn, WN_some, WN_none, updO_some, updO_none, upd_eq,
 ↓reduceIte, Nat.reduceEqDiff, List.nil_append, List.cons_append, List.append_nil, List.map_cons, List.map_nil, env0_zero, env0_succ, env0_nil, Option.map_some, Option.map_none, seqQ_normal, seqQ_ret, seqQ_exit, seqQ_goto, blockQ_normal, blockQ_ret, blockQ_exit, blockQ_goto, condW_bool, loopQ_ret, loopQ_exit, loopQ_goto, endQ_ret, endQ_normal,
 lss_i, leq_i, gtr_i, geq_i, eql_i, neq_i, eql_8, neq_8, lss_8, leq_8, gtr_8, geq_8, eql_s, neq_s, eql_b, neq_b, not_b, by_bys, by_nils, load_cp1, beq_true, beq_false, Bool.not_eq_true', decide_eq_true_eq, decide_eq_false_iff_not, decide_true, decide_false,
 Int.toNat_natCast, Int.ofNat_lt, Int.ofNat_le, Int.natCast_inj, Bool.false_eq_true, Bool.true_eq_false, extPV, List.getElem?_cons_zero, List.getElem?_cons_succ, nilckPV, Int.reduceToNat, Int.reduceLE, true_and, and_true, reduceCtorEq, or_false, false_or, or_true, Option.some.injEq, exists_eq_left', Bool.not_true, Bool.not_false, ne_eq, Int.reduceEq, not_true_eq_false, not_false_eq_true, Int.reduceLT, UInt8.reduceLT, UInt8.reduceLE, UInt8.reduceToNat]
      exact loopQ_intro (m := fs.length - (i + 1)) (by omega) (hnext _ true (by simp [hb]) h0 rfl rfl rfl)
    | false =>
      rw [hb] at h5
      by_cases h998 : 998 < m.length
      · have e3 : (998 : Int) < (m.length : Int) := by omega
        simp (maxSteps := 1000000) (disch := omega) only [h0, h4, h5, h6, h7, len_s, e3, a1, lit8_2, freshT_eq, a2, add_n, W_seq, W_region, W_cond, W_block, W_skip, W_label, W_exit, W_goto, W_ret, WO_cons, WO_consG, WO_nil, wantedA_eq, wantB, evOp, ev_tmp, ev_const, ev_fn, WN_some, WN_none, updO_some, updO_none, upd_eq,
 ↓reduceIte, Nat.reduceEqDiff, List.nil_append, List.cons_append, List.append_nil, List.map_cons, List.map_nil, env0_zero, env0_succ, env0_nil, Option.map_some, Option.map_none, seqQ_normal, seqQ_ret, seqQ_exit, seqQ_goto, blockQ_normal, blockQ_ret, blockQ_exit, blockQ_goto, condW_bool, loopQ_ret, loopQ_exit, loopQ_goto, endQ_ret, endQ_normal,
 lss_i, leq_i, gtr_i, geq_i, eql_i, neq_i, eql_8, neq_8, lss_8, leq_8, gtr_8, geq_8, eql_s, neq_s, eql_b, neq_b, not_b, by_bys, by_nils, load_cp1, beq_true, beq_false, Bool.not_eq_true', decide_eq_true_eq, decide_eq_false_iff_not, decide_true, decide_false,
 Int.toNat_natCast, Int.ofNat_lt, Int.ofNat_le, Int.natCast_inj, Bool.false_eq_true, Bool.true_eq_false, extPV, List.getElem?_cons_zero, List.getElem?_cons_succ, nilckPV, Int.reduceToNat, Int.reduceLE, true_and, and_true, reduceCtorEq, or_false, false_or, or_true, Option.some.injEq, exists_eq_left', Bool.not_true, Bool.not_false, ne_eq, Int.reduceEq, not_true_eq_false, not_false_eq_true, Int.reduceLT, UInt8.reduceLT, UInt8.reduceLE, UInt8.reduceToNat]
        exact loopQ_intro (m := fs.length - (i + 1)) (by omega) (hnext _ true (by simp [hb, longX, h998]) h0 rfl rfl rfl)
      · have e3 : ¬ (998 : Int) < (m.length : Int) := by omega
        simp (maxSteps := 1000000) (disch := omega) only [h0, h4, h5, h6, h7, len_s, e3, a1, lit8_2, freshT_eq, a2, add_n, W_seq, W_region, W_cond, W_block, W_skip, W_label, W_exit, W_goto, W_ret, WO_cons, WO_consG, WO_nil, wantedA_eq, wantB, evOp, ev_tmp, ev_const, ev_fn, WN_some, WN_none, updO_some, updO_none, upd_eq,
 ↓reduceIte, Nat.reduceEqDiff, List.nil_append, List.cons_append, List.append_nil, List.map_cons, List.map_nil, env0_zero, env0_succ, env0_nil, Option.map_some, Option.map_none, seqQ_normal, seqQ_ret, seqQ_exit, seqQ_goto, blockQ_normal, blockQ_ret, blockQ_exit, blockQ_goto, condW_bool, loopQ_ret, loopQ_exit, loopQ_goto, endQ_ret, endQ_normal,
 lss_i, leq_i, gtr_i, geq_i, eql_i, neq_i, eql_8, neq_8, lss_8, leq_8, gtr_8, geq_8, eql_s, neq_s, eql_b, neq_b, not_b, by_bys, by_nils, load_cp1, beq_true, beq_false, Bool.not_eq_true', decide_eq_true_eq, decide_eq_false_iff_not, decide_true, decide_false,
 Int.toNat_natCast, Int.ofNat_lt, Int.ofNat_le, Int.natCast_inj, Bool.false_eq_true, Bool.true_eq_false, extPV, List.getElem?_cons_zero, List.getElem?_cons_succ, nilckPV, Int.reduceToNat, Int.reduceLE, true_and, and_true, reduceCtorEq, or_false, false_or, or_true, Option.some.injEq, exists_eq_left', Bool.not_true, Bool.not_false, ne_eq, Int.reduceEq, not_true_eq_false, not_false_eq_true, Int.reduceLT, UInt8.reduceLT, UInt8.reduceLE, UInt8.reduceToNat]
        exact loopQ_intro (m := fs.length - (i + 1)) (by omega) (hnext _ false (by simp [hb, longX, h998]) h0 rfl rfl rfl)
  · obtain rfl : i = fs.length := by omega
    rw [List.take_length] at hm hbl2 h5
    have hall : fs.all okFd = true := all_take hok
    cases hb : fs.any longF with
    | true =>
      rw [hb] at h5
      simp (maxSteps := 1000000) (disch := omega) only [h0, h4, h5, h6, hlen, hlt, W_seq, W_region, W_cond, W_block, W_skip, W_label, W_exit, W_goto, W_ret, WO_cons, WO_consG, WO_nil, wantedA_eq, wantB, evOp, ev_tmp, ev_const, ev_fn, WN_some, WN_none, updO_some, updO_none, upd_eq,
 ↓reduceIte, Nat.reduceEqDiff, List.nil_append, List.cons_append, List.append_nil, List.map_cons, List.map_nil, env0_zero, env0_succ, env0_nil, Option.map_some, Option.map_none, seqQ_normal, seqQ_ret, seqQ_exit, seqQ_goto, blockQ_normal, blockQ_ret, blockQ_exit, blockQ_goto, condW_bool, loopQ_ret, loopQ_exit, loopQ_goto, endQ_ret, endQ_normal,
 lss_i, leq_i, gtr_i, geq_i, eql_i, neq_i, eql_8, neq_8, lss_8, leq_8, gtr_8, geq_8, eql_s, neq_s, eql_b, neq_b, not_b, by_bys, by_nils, load_cp1, beq_true, beq_false, Bool.not_eq_true', decide_eq_true_eq, decide_eq_false_iff_not, decide_true, decide_false,
 Int.toNat_natCast, Int.ofNat_lt, Int.ofNat_le, Int.natCast_inj, Bool.false_eq_true, Bool.true_eq_false, extPV, List.getElem?_cons_zero, List.getElem?_cons_succ, nilckPV, Int.reduceToNat, Int.reduceLE, true_and, and_true, reduceCtorEq, or_false, false_or, or_true, Option.some.injEq, exists_eq_left', Bool.not_true, Bool.not_false, ne_eq, Int.reduceEq, not_true_eq_false, not_false_eq_true, Int.reduceLT, UInt8.reduceLT, UInt8.reduceLE, UInt8.reduceToNat]
      refine ⟨.tup [.nils, .int .i64 40], rfl, ?_⟩
      rw [show writeOf fs = (40, []) by simp [writeOf, h128, hall, hb]]
      exact hk.leave rfl (fun _ _ => rfl)
    | false =>
      rw [hb] at h5
      obtain ⟨v2, S2, a2, k2, m2⟩ := hk.push2 (c := 13) (d := 10) hm (by simp only [room]; omega)
      simp (maxSteps := 1000000) (disch := omega) only [h0, h4, h5, h6, hlen, hlt, lit8_2, freshT_eq, a2, W_seq, W_region, W_cond, W_block, W_skip, W_label, W_exit, W_goto, W_ret, WO_cons, WO_consG, WO_nil, wantedA_eq, wantB, evOp, ev_tmp, ev_const, ev_fn, WN_some, WN_none, updO_some, updO_none, upd_eq,
 ↓reduceIte, Nat.reduceEqDiff, List.nil_append, List.cons_append, List.append_nil, List.map_cons, List.map_nil, env0_zero, env0_succ, env0_nil, Option.map_some, Option.map_none, seqQ_normal, seqQ_ret, seqQ_exit, seqQ_goto, blockQ_normal, blockQ_ret, blockQ_exit, blockQ_goto, condW_bool, loopQ_ret, loopQ_exit, loopQ_goto, endQ_ret, endQ_normal,
 lss_i, leq_i, gtr_i, geq_i, eql_i, neq_i, eql_8, neq_8, lss_8, leq_8, gtr_8, geq_8, eql_s, neq_s, eql_b, neq_b, not_b, by_bys, by_nils, load_cp1, beq_true, beq_false, Bool.not_eq_true', decide_eq_true_eq, decide_eq_false_iff_not, decide_true, decide_false,
 Int.toNat_natCast, Int.ofNat_lt, Int.ofNat_le, Int.natCast_inj, Bool.false_eq_true, Bool.true_eq_false, extPV, List.getElem?_cons_zero, List.getElem?_cons_succ, nilckPV, Int.reduceToNat, Int.reduceLE, true_and, and_true, reduceCtorEq, or_false, false_or, or_true, Option.some.injEq, exists_eq_left', Bool.not_true, Bool.not_false, ne_eq, Int.reduceEq, not_true_eq_false, not_false_eq_true, Int.reduceLT, UInt8.reduceLT, UInt8.reduceLE, UInt8.reduceToNat]
      refine ⟨.tup [v2, .int .i64 0], ?_, ?_⟩
      · have hnt : notTup v2 = true := by rcases m2.1 with ⟨rfl, _⟩ | ⟨i, rfl, _⟩ <;> rfl
        simp [resOf, rvAll, rv1, upd_eq, hnt, packRes]
        rfl
      · rw [show writeOf fs = (0, fs.flatMap fieldBytes ++ [13, 10]) by simp [writeOf, h128, hall, hb]]
        exact leave_mine k2 m2 (by simp)
end Go.Ab

/-
  The law FieldsWrites.
-/
namespace Go.Ab
set_option linter.unusedVariables false
set_option linter.unusedSimpArgs false
variable {st s : St} {e : Env}

set_option maxRecDepth 100000 in
theorem alive06_e : evV prog 400 (.fn 144 []) [] ⟨[], [], [], 0⟩ = some (.bool true, ⟨[], [], [], 0⟩) := by kernel_rfl
set_option maxRecDepth 100000 in
theorem alive06_e2 : evV prog 400 (.fn 144 []) [] ⟨[], [true, true], [], 0⟩ = some (.bool true, ⟨[], [true, true], [], 0⟩) := by kernel_rfl
theorem al06_e : call prog (.fn 144 []) [] ⟨[], [], [], 0⟩ = some (.bool true, ⟨[], [], [], 0⟩) := call_of alive06_e
theorem al06_e2 : call prog (.fn 144 []) [] ⟨[], [true, true], [], 0⟩ = some (.bool true, ⟨[], [true, true], [], 0⟩) := call_of alive06_e2

theorem law_FieldsWrites {x : PV} {fs : List Fld} {t : List UInt8} (hx : x.vs 2 = some (fs.map fV)) (hm : ∀ f ∈ fs, f.1.length ≤ maxLen ∧ f.2.length ≤ maxLen) (hl : fs.length ≤ maxLen) (ht : t.length ≤ maxLen) :
    ∃ s', call prog (.fn 149 []) [x, .str t] ⟨[], [], [], 0⟩ = some (.bool true, s') := by
  have hML : maxLen ≤ 9223372036854775807 := by decide
  refine law_of_W prog_149 rfl ?_
  unfold F_posthornlaw06_FieldsWrites; dsimp only
  obtain ⟨g, hg, hgb⟩ := Great_spec (st := ⟨[], [], [], 0⟩) hx (fun f hf => ⟨by have := (hm f hf).1; omega, by have := (hm f hf).2; omega⟩) (by omega)
  cases g with
  | true =>
    simp (maxSteps := 1000000) (disch := omega) only [List.length_nil, hg, al06_e, W_seq, W_region, W_cond, W_block, W_skip, W_label, W_exit, W_goto, W_ret, WO_cons, WO_consG, WO_nil, wantedA_eq, wantB, evOp, ev_tmp, ev_const, ev_fn, WN_some, WN_none, updO_some, updO_none, upd_eq,
 ↓reduceIte, Nat.reduceEqDiff, List.nil_append, List.cons_append, List.append_nil, List.map_cons, List.map_nil, env0_zero, env0_succ, env0_nil, Option.map_some, Option.map_none, seqQ_normal, seqQ_ret, seqQ_exit, seqQ_goto, blockQ_normal, blockQ_ret, blockQ_exit, blockQ_goto, condW_bool, loopQ_ret, loopQ_exit, loopQ_goto, endQ_ret, endQ_normal,
 lss_i, leq_i, gtr_i, geq_i, eql_i, neq_i, eql_8, neq_8, lss_8, leq_8, gtr_8, geq_8, eql_s, neq_s, eql_b, neq_b, not_b, by_bys, by_nils, load_cp1, beq_true, beq_false, Bool.not_eq_true', decide_eq_true_eq, decide_eq_false_iff_not, decide_true, decide_false,
 Int.toNat_natCast, Int.ofNat_lt, Int.ofNat_le, Int.natCast_inj, Bool.false_eq_true, Bool.true_eq_false, extPV, List.getElem?_cons_zero, List.getElem?_cons_succ, nilckPV, Int.reduceToNat, Int.reduceLE, true_and, and_true, reduceCtorEq, or_false, false_or, or_true, Option.some.injEq, exists_eq_left', Bool.not_true, Bool.not_false, ne_eq, Int.reduceEq, not_true_eq_false, not_false_eq_true, Int.reduceLT, UInt8.reduceLT, UInt8.reduceLE, UInt8.reduceToNat]
  | false =>
  obtain ⟨hl2, hf⟩ := hgb rfl
  by_cases hn : 200 < t.length
  · have hn' : (200 : Int) < (t.length : Int) := by omega
    simp (maxSteps := 1000000) (disch := omega) only [List.length_nil, hg, al06_e, len_s, hn', W_seq, W_region, W_cond, W_block, W_skip, W_label, W_exit, W_goto, W_ret, WO_cons, WO_consG, WO_nil, wantedA_eq, wantB, evOp, ev_tmp, ev_const, ev_fn, WN_some, WN_none, updO_some, updO_none, upd_eq,
 ↓reduceIte, Nat.reduceEqDiff, List.nil_append, List.cons_append, List.append_nil, List.map_cons, List.map_nil, env0_zero, env0_succ, env0_nil, Option.map_some, Option.map_none, seqQ_normal, seqQ_ret, seqQ_exit, seqQ_goto, blockQ_normal, blockQ_ret, blockQ_exit, blockQ_goto, condW_bool, loopQ_ret, loopQ_exit, loopQ_goto, endQ_ret, endQ_normal,
 lss_i, leq_i, gtr_i, geq_i, eql_i, neq_i, eql_8, neq_8, lss_8, leq_8, gtr_8, geq_8, eql_s, neq_s, eql_b, neq_b, not_b, by_bys, by_nils, load_cp1, beq_true, beq_false, Bool.not_eq_true', decide_eq_true_eq, decide_eq_false_iff_not, decide_true, decide_false,
 Int.toNat_natCast, Int.ofNat_lt, Int.ofNat_le, Int.natCast_inj, Bool.false_eq_true, Bool.true_eq_false, extPV, List.getElem?_cons_zero, List.getElem?_cons_succ, nilckPV, Int.reduceToNat, Int.reduceLE, true_and, and_true, reduceCtorEq, or_false, false_or, or_true, Option.some.injEq, exists_eq_left', Bool.not_true, Bool.not_false, ne_eq, Int.reduceEq, not_true_eq_false, not_false_eq_true, Int.reduceLT, UInt8.reduceLT, UInt8.reduceLE, UInt8.reduceToNat]
  have hn' : ¬ (200 : Int) < (t.length : Int) := by omega
  have hW := Write_spec (st := ⟨[], [], [], 0⟩) hx hf (by omega)
  have hR := fun S : St => rWrite_spec (st := S) hx hf (by omega)
  have hG := fun S : St => Get_spec (st := S) (n := t) hx (by omega) hf (by omega)
  have hG2 := fun S : St => rGet_spec (st := S) (n := t) hx (by omega) hf (by omega)
  obtain ⟨c, b, hcb⟩ : ∃ c b, writeOf fs = (c, b) := ⟨_, _, rfl⟩
  obtain ⟨gv, gn, hgg⟩ : ∃ v n, getOf fs t = (v, n) := ⟨_, _, rfl⟩
  simp only [hcb, hgg, getV] at hW hR hG hG2
  by_cases hz : c = 0
  · subst hz
    simp only [outV, if_true, List.length_nil, St.tok1, List.nil_append] at hW hR
    have hR1 := hR ⟨[], [true], [], 0⟩
    simp only [List.length_cons, List.length_nil, List.cons_append, List.nil_append] at hR1
    simp (maxSteps := 1000000) (disch := omega) only [List.length_nil, hg, len_s, hn', hW, hR1, hG, hG2, al06_e2, b2s_by by_bys, eq_self, W_seq, W_region, W_cond, W_block, W_skip, W_label, W_exit, W_goto, W_ret, WO_cons, WO_consG, WO_nil, wantedA_eq, wantB, evOp, ev_tmp, ev_const, ev_fn, WN_some, WN_none, updO_some, updO_none, upd_eq,
 ↓reduceIte, Nat.reduceEqDiff, List.nil_append, List.cons_append, List.append_nil, List.map_cons, List.map_nil, env0_zero, env0_succ, env0_nil, Option.map_some, Option.map_none, seqQ_normal, seqQ_ret, seqQ_exit, seqQ_goto, blockQ_normal, blockQ_ret, blockQ_exit, blockQ_goto, condW_bool, loopQ_ret, loopQ_exit, loopQ_goto, endQ_ret, endQ_normal,
 lss_i, leq_i, gtr_i, geq_i, eql_i, neq_i, eql_8, neq_8, lss_8, leq_8, gtr_8, geq_8, eql_s, neq_s, eql_b, neq_b, not_b, by_bys, by_nils, load_cp1, beq_true, beq_false, Bool.not_eq_true', decide_eq_true_eq, decide_eq_false_iff_not, decide_true, decide_false,
 Int.toNat_natCast, Int.ofNat_lt, Int.ofNat_le, Int.natCast_inj, Bool.false_eq_true, Bool.true_eq_false, extPV, List.getElem?_cons_zero, List.getElem?_cons_succ, nilckPV, Int.reduceToNat, Int.reduceLE, true_and, and_true, reduceCtorEq, or_false, false_or, or_true, Option.some.injEq, exists_eq_left', Bool.not_true, Bool.not_false, ne_eq, Int.reduceEq, not_true_eq_false, not_false_eq_true, Int.reduceLT, UInt8.reduceLT, UInt8.reduceLE, UInt8.reduceToNat]
  · simp only [outV, hz, if_false] at hW hR
    simp (maxSteps := 1000000) (disch := omega) only [List.length_nil, hg, len_s, hn', hW, hR, hG, hG2, al06_e, b2s_by by_nils, eq_self, W_seq, W_region, W_cond, W_block, W_skip, W_label, W_exit, W_goto, W_ret, WO_cons, WO_consG, WO_nil, wantedA_eq, wantB, evOp, ev_tmp, ev_const, ev_fn, WN_some, WN_none, updO_some, updO_none, upd_eq,
 ↓reduceIte, Nat.reduceEqDiff, List.nil_append, List.cons_append, List.append_nil, List.map_cons, List.map_nil, env0_zero, env0_succ, env0_nil, Option.map_some, Option.map_none, seqQ_normal, seqQ_ret, seqQ_exit, seqQ_goto, blockQ_normal, blockQ_ret, blockQ_exit, blockQ_goto, condW_bool, loopQ_ret, loopQ_exit, loopQ_goto, endQ_ret, endQ_normal,
 lss_i, leq_i, gtr_i, geq_i, eql_i, neq_i, eql_8, neq_8, lss_8, leq_8, gtr_8, geq_8, eql_s, neq_s, eql_b, neq_b, not_b, by_bys, by_nils, load_cp1, beq_true, beq_false, Bool.not_eq_true', decide_eq_true_eq, decide_eq_false_iff_not, decide_true, decide_false,
 Int.toNat_natCast, Int.ofNat_lt, Int.ofNat_le, Int.natCast_inj, Bool.false_eq_true, Bool.true_eq_false, extPV, List.getElem?_cons_zero, List.getElem?_cons_succ, nilckPV, Int.reduceToNat, Int.reduceLE, true_and, and_true, reduceCtorEq, or_false, false_or, or_true, Option.some.injEq, exists_eq_left', Bool.not_true, Bool.not_false, ne_eq, Int.reduceEq, not_true_eq_false, not_false_eq_true, Int.reduceLT, UInt8.reduceLT, UInt8.reduceLE, UInt8.reduceToNat]
end Go.Ab

/-
  What the smallest functions come to.
-/
namespace Go.Ab
set_option linter.unusedVariables false
set_option linter.unusedSimpArgs false
variable {st : St} {e : Env}

theorem Equal_spec {x y : PV} {a b : List UInt8} (hx : x.by = some a) (hy : y.by = some b) : call prog (.fn 34 []) [x, y] st = some (.bool (decide (a = b)), st) := by
  refine call_of_W prog_34 ?_
  unfold F_bytes_Equal; dsimp only
  simp only [b2s_by hx, b2s_by hy, W_seq, W_region, W_cond, W_block, W_skip, W_label, W_exit, W_goto, W_ret, WO_cons, WO_consG, WO_nil, wantedA_eq, wantB, evOp, ev_tmp, ev_const, ev_fn, WN_some, WN_none, updO_some, updO_none, upd_eq,
 ↓reduceIte, Nat.reduceEqDiff, List.nil_append, List.cons_append, List.append_nil, List.map_cons, List.map_nil, env0_zero, env0_succ, env0_nil, Option.map_some, Option.map_none, seqQ_normal, seqQ_ret, seqQ_exit, seqQ_goto, blockQ_normal, blockQ_ret, blockQ_exit, blockQ_goto, condW_bool, loopQ_ret, loopQ_exit, loopQ_goto, endQ_ret, endQ_normal,
 lss_i, leq_i, gtr_i, geq_i, eql_i, neq_i, eql_8, neq_8, lss_8, leq_8, gtr_8, geq_8, eql_s, neq_s, eql_b, neq_b, not_b, by_bys, by_nils, load_cp1, beq_true, beq_false, Bool.not_eq_true', decide_eq_true_eq, decide_eq_false_iff_not, decide_true, decide_false,
 Int.toNat_natCast, Int.ofNat_lt, Int.ofNat_le, Int.natCast_inj, Bool.false_eq_true, Bool.true_eq_false, extPV, List.getElem?_cons_zero, List.getElem?_cons_succ, nilckPV, Int.reduceToNat, Int.reduceLE, true_and, and_true, reduceCtorEq, or_false, false_or, or_true, Option.some.injEq, exists_eq_left', Bool.not_true, Bool.not_false, ne_eq, Int.reduceEq, not_true_eq_false, not_false_eq_true, Int.reduceLT, UInt8.reduceLT, UInt8.reduceLE, UInt8.reduceToNat]
  exact ⟨_, rfl, leave_pure rfl rfl⟩

theorem HasSuffix_spec {x y : PV} {a b : List UInt8} (hx : x.by = some a) (hy : y.by = some b) (ha : a.length < 4611686018427387904) : call prog (.fn 28 []) [x, y] st = some (.bool (decide (b <:+ a)), st) := by
  refine call_of_W prog_28 ?_
  by_cases h : b.length ≤ a.length
  · have hs : (x.dropB (a.length - b.length)).by = some (a.drop (a.length - b.length)) := dropB_by hx
    have h' : (b.length : Int) ≤ a.length := by omega
    unfold F_bytes_HasSuffix; dsimp only
    simp (maxSteps := 1000000) (disch := omega) only [len_by hx, len_by hy, h', sub_n, slc_lo hx, Equal_spec hs hy, W_seq, W_region, W_cond, W_block, W_skip, W_label, W_exit, W_goto, W_ret, WO_cons, WO_consG, WO_nil, wantedA_eq, wantB, evOp, ev_tmp, ev_const, ev_fn, WN_some, WN_none, updO_some, updO_none, upd_eq,
 ↓reduceIte, Nat.reduceEqDiff, List.nil_append, List.cons_append, List.append_nil, List.map_cons, List.map_nil, env0_zero, env0_succ, env0_nil, Option.map_some, Option.map_none, seqQ_normal, seqQ_ret, seqQ_exit, seqQ_goto, blockQ_normal, blockQ_ret, blockQ_exit, blockQ_goto, condW_bool, loopQ_ret, loopQ_exit, loopQ_goto, endQ_ret, endQ_normal,
 lss_i, leq_i, gtr_i, geq_i, eql_i, neq_i, eql_8, neq_8, lss_8, leq_8, gtr_8, geq_8, eql_s, neq_s, eql_b, neq_b, not_b, by_bys, by_nils, load_cp1, beq_true, beq_false, Bool.not_eq_true', decide_eq_true_eq, decide_eq_false_iff_not, decide_true, decide_false,
 Int.toNat_natCast, Int.ofNat_lt, Int.ofNat_le, Int.natCast_inj, Bool.false_eq_true, Bool.true_eq_false, extPV, List.getElem?_cons_zero, List.getElem?_cons_succ, nilckPV, Int.reduceToNat, Int.reduceLE, true_and, and_true, reduceCtorEq, or_false, false_or, or_true, Option.some.injEq, exists_eq_left', Bool.not_true, Bool.not_false, ne_eq, Int.reduceEq, not_true_eq_false, not_false_eq_true, Int.reduceLT, UInt8.reduceLT, UInt8.reduceLE, UInt8.reduceToNat]
    refine ⟨_, rfl, ?_⟩
    rw [show decide (a.drop (a.length - b.length) = b) = decide (b <:+ a) by
      rw [decide_eq_decide]
      exact ⟨fun hd => hd ▸ List.drop_suffix _ _, fun hd => by
        obtain ⟨t, rfl⟩ := hd
        simp⟩]
    exact leave_pure rfl rfl
  · have h' : ¬ (b.length : Int) ≤ a.length := by omega
    unfold F_bytes_HasSuffix; dsimp only
    simp (maxSteps := 1000000) (disch := omega) only [len_by hx, len_by hy, h', W_seq, W_region, W_cond, W_block, W_skip, W_label, W_exit, W_goto, W_ret, WO_cons, WO_consG, WO_nil, wantedA_eq, wantB, evOp, ev_tmp, ev_const, ev_fn, WN_some, WN_none, updO_some, updO_none, upd_eq,
 ↓reduceIte, Nat.reduceEqDiff, List.nil_append, List.cons_append, List.append_nil, List.map_cons, List.map_nil, env0_zero, env0_succ, env0_nil, Option.map_some, Option.map_none, seqQ_normal, seqQ_ret, seqQ_exit, seqQ_goto, blockQ_normal, blockQ_ret, blockQ_exit, blockQ_goto, condW_bool, loopQ_ret, loopQ_exit, loopQ_goto, endQ_ret, endQ_normal,
 lss_i, leq_i, gtr_i, geq_i, eql_i, neq_i, eql_8, neq_8, lss_8, leq_8, gtr_8, geq_8, eql_s, neq_s, eql_b, neq_b, not_b, by_bys, by_nils, load_cp1, beq_true, beq_false, Bool.not_eq_true', decide_eq_true_eq, decide_eq_false_iff_not, decide_true, decide_false,
 Int.toNat_natCast, Int.ofNat_lt, Int.ofNat_le, Int.natCast_inj, Bool.false_eq_true, Bool.true_eq_false, extPV, List.getElem?_cons_zero, List.getElem?_cons_succ, nilckPV, Int.reduceToNat, Int.reduceLE, true_and, and_true, reduceCtorEq, or_false, false_or, or_true, Option.some.injEq, exists_eq_left', Bool.not_true, Bool.not_false, ne_eq, Int.reduceEq, not_true_eq_false, not_false_eq_true, Int.reduceLT, UInt8.reduceLT, UInt8.reduceLE, UInt8.reduceToNat]
    refine ⟨_, rfl, ?_⟩
    rw [show decide (b <:+ a) = false by
      rw [decide_eq_false_iff_not]
      intro hd
      exact h hd.length_le]
    exact leave_pure rfl rfl
end Go.Ab

/-
  What small functions come to: beginnings and ends, the place of a bare 13 or 10, copies.
-/
namespace Go.Ab
set_option linter.unusedVariables false
set_option linter.unusedSimpArgs false
variable {st : St} {e : Env}

theorem HasPrefix_spec {x y : PV} {a b : List UInt8} (hx : x.by = some a) (hy : y.by = some b) : call prog (.fn 35 []) [x, y] st = some (.bool (decide (b <+: a)), st) := by
  refine call_of_W prog_35 ?_
  unfold F_bytes_HasPrefix; dsimp only
  by_cases h : b.length ≤ a.length
  · have hs : (x.takeB b.length).by = some (a.take b.length) := takeB_by hx
    simp (maxSteps := 1000000) (disch := omega) only [len_by hx, len_by hy, h, slc_hi hx, Equal_spec hs hy, W_seq, W_region, W_cond, W_block, W_skip, W_label, W_exit, W_goto, W_ret, WO_cons, WO_consG, WO_nil, wantedA_eq, wantB, evOp, ev_tmp, ev_const, ev_fn, WN_some, WN_none, updO_some, updO_none, upd_eq,
 ↓reduceIte, Nat.reduceEqDiff, List.nil_append, List.cons_append, List.append_nil, List.map_cons, List.map_nil, env0_zero, env0_succ, env0_nil, Option.map_some, Option.map_none, seqQ_normal, seqQ_ret, seqQ_exit, seqQ_goto, blockQ_normal, blockQ_ret, blockQ_exit, blockQ_goto, condW_bool, loopQ_ret, loopQ_exit, loopQ_goto, endQ_ret, endQ_normal,
 lss_i, leq_i, gtr_i, geq_i, eql_i, neq_i, eql_8, neq_8, lss_8, leq_8, gtr_8, geq_8, eql_s, neq_s, eql_b, neq_b, not_b, by_bys, by_nils, load_cp1, beq_true, beq_false, Bool.not_eq_true', decide_eq_true_eq, decide_eq_false_iff_not, decide_true, decide_false,
 Int.toNat_natCast, Int.ofNat_lt, Int.ofNat_le, Int.natCast_inj, Bool.false_eq_true, Bool.true_eq_false, extPV, List.getElem?_cons_zero, List.getElem?_cons_succ, nilckPV, Int.reduceToNat, Int.reduceLE, true_and, and_true, reduceCtorEq, or_false, false_or, or_true, Option.some.injEq, exists_eq_left', Bool.not_true, Bool.not_false, ne_eq, Int.reduceEq, not_true_eq_false, not_false_eq_true, Int.reduceLT, UInt8.reduceLT, UInt8.reduceLE, UInt8.reduceToNat]
    refine ⟨_, rfl, ?_⟩
    rw [show decide (a.take b.length = b) = decide (b <+: a) by
      rw [decide_eq_decide]
      exact ⟨fun hd => hd ▸ List.take_prefix _ _, fun hd => by
        obtain ⟨t, rfl⟩ := hd
        simp⟩]
    exact leave_pure rfl rfl
  · simp (maxSteps := 1000000) (disch := omega) only [len_by hx, len_by hy, h, W_seq, W_region, W_cond, W_block, W_skip, W_label, W_exit, W_goto, W_ret, WO_cons, WO_consG, WO_nil, wantedA_eq, wantB, evOp, ev_tmp, ev_const, ev_fn, WN_some, WN_none, updO_some, updO_none, upd_eq,
 ↓reduceIte, Nat.reduceEqDiff, List.nil_append, List.cons_append, List.append_nil, List.map_cons, List.map_nil, env0_zero, env0_succ, env0_nil, Option.map_some, Option.map_none, seqQ_normal, seqQ_ret, seqQ_exit, seqQ_goto, blockQ_normal, blockQ_ret, blockQ_exit, blockQ_goto, condW_bool, loopQ_ret, loopQ_exit, loopQ_goto, endQ_ret, endQ_normal,
 lss_i, leq_i, gtr_i, geq_i, eql_i, neq_i, eql_8, neq_8, lss_8, leq_8, gtr_8, geq_8, eql_s, neq_s, eql_b, neq_b, not_b, by_bys, by_nils, load_cp1, beq_true, beq_false, Bool.not_eq_true', decide_eq_true_eq, decide_eq_false_iff_not, decide_true, decide_false,
 Int.toNat_natCast, Int.ofNat_lt, Int.ofNat_le, Int.natCast_inj, Bool.false_eq_true, Bool.true_eq_false, extPV, List.getElem?_cons_zero, List.getElem?_cons_succ, nilckPV, Int.reduceToNat, Int.reduceLE, true_and, and_true, reduceCtorEq, or_false, false_or, or_true, Option.some.injEq, exists_eq_left', Bool.not_true, Bool.not_false, ne_eq, Int.reduceEq, not_true_eq_false, not_false_eq_true, Int.reduceLT, UInt8.reduceLT, UInt8.reduceLE, UInt8.reduceToNat]
    refine ⟨_, rfl, ?_⟩
    rw [show decide (b <+: a) = false by
      rw [decide_eq_false_iff_not]
      intro hd
      exact h hd.length_le]
    exact leave_pure rfl rfl

theorem CutSuffix_spec {x y : PV} {a b : List UInt8} (hx : x.by = some a) (hy : y.by = some b) (hl : a.length < 4611686018427387904) (ht : x.tokLt st.toks.length = true) :
    call prog (.fn 19 []) [x, y] st = some (if b <:+ a then .tup [x.takeB (a.length - b.length), .bool true] else .tup [x, .bool false], st) := by
  refine call_of_W prog_19 ?_
  unfold F_bytes_CutSuffix; dsimp only
  by_cases h : b <:+ a
  · have hle := h.length_le
    simp (maxSteps := 1000000) (disch := omega) only [HasSuffix_spec hx hy hl, len_by hx, len_by hy, h, sub_n, slc_hi hx, W_seq, W_region, W_cond, W_block, W_skip, W_label, W_exit, W_goto, W_ret, WO_cons, WO_consG, WO_nil, wantedA_eq, wantB, evOp, ev_tmp, ev_const, ev_fn, WN_some, WN_none, updO_some, updO_none, upd_eq,
 ↓reduceIte, Nat.reduceEqDiff, List.nil_append, List.cons_append, List.append_nil, List.map_cons, List.map_nil, env0_zero, env0_succ, env0_nil, Option.map_some, Option.map_none, seqQ_normal, seqQ_ret, seqQ_exit, seqQ_goto, blockQ_normal, blockQ_ret, blockQ_exit, blockQ_goto, condW_bool, loopQ_ret, loopQ_exit, loopQ_goto, endQ_ret, endQ_normal,
 lss_i, leq_i, gtr_i, geq_i, eql_i, neq_i, eql_8, neq_8, lss_8, leq_8, gtr_8, geq_8, eql_s, neq_s, eql_b, neq_b, not_b, by_bys, by_nils, load_cp1, beq_true, beq_false, Bool.not_eq_true', decide_eq_true_eq, decide_eq_false_iff_not, decide_true, decide_false,
 Int.toNat_natCast, Int.ofNat_lt, Int.ofNat_le, Int.natCast_inj, Bool.false_eq_true, Bool.true_eq_false, extPV, List.getElem?_cons_zero, List.getElem?_cons_succ, nilckPV, Int.reduceToNat, Int.reduceLE, true_and, and_true, reduceCtorEq, or_false, false_or, or_true, Option.some.injEq, exists_eq_left', Bool.not_true, Bool.not_false, ne_eq, Int.reduceEq, not_true_eq_false, not_false_eq_true, Int.reduceLT, UInt8.reduceLT, UInt8.reduceLE, UInt8.reduceToNat]
    have hz := takeB_by (i := a.length - b.length) hx
    exact end2 rfl rfl (Kp_by hz (takeB_tok ht)) Kp_bool
  · simp (maxSteps := 1000000) (disch := omega) only [HasSuffix_spec hx hy hl, len_by hx, len_by hy, h, W_seq, W_region, W_cond, W_block, W_skip, W_label, W_exit, W_goto, W_ret, WO_cons, WO_consG, WO_nil, wantedA_eq, wantB, evOp, ev_tmp, ev_const, ev_fn, WN_some, WN_none, updO_some, updO_none, upd_eq,
 ↓reduceIte, Nat.reduceEqDiff, List.nil_append, List.cons_append, List.append_nil, List.map_cons, List.map_nil, env0_zero, env0_succ, env0_nil, Option.map_some, Option.map_none, seqQ_normal, seqQ_ret, seqQ_exit, seqQ_goto, blockQ_normal, blockQ_ret, blockQ_exit, blockQ_goto, condW_bool, loopQ_ret, loopQ_exit, loopQ_goto, endQ_ret, endQ_normal,
 lss_i, leq_i, gtr_i, geq_i, eql_i, neq_i, eql_8, neq_8, lss_8, leq_8, gtr_8, geq_8, eql_s, neq_s, eql_b, neq_b, not_b, by_bys, by_nils, load_cp1, beq_true, beq_false, Bool.not_eq_true', decide_eq_true_eq, decide_eq_false_iff_not, decide_true, decide_false,
 Int.toNat_natCast, Int.ofNat_lt, Int.ofNat_le, Int.natCast_inj, Bool.false_eq_true, Bool.true_eq_false, extPV, List.getElem?_cons_zero, List.getElem?_cons_succ, nilckPV, Int.reduceToNat, Int.reduceLE, true_and, and_true, reduceCtorEq, or_false, false_or, or_true, Option.some.injEq, exists_eq_left', Bool.not_true, Bool.not_false, ne_eq, Int.reduceEq, not_true_eq_false, not_false_eq_true, Int.reduceLT, UInt8.reduceLT, UInt8.reduceLE, UInt8.reduceToNat]
    exact end2 rfl rfl (Kp_by hx ht) Kp_bool

theorem CutPrefix_spec {x y : PV} {a b : List UInt8} (hx : x.by = some a) (hy : y.by = some b) (ht : x.tokLt st.toks.length = true) :
    call prog (.fn 31 []) [x, y] st = some (if b <+: a then .tup [x.dropB b.length, .bool true] else .tup [x, .bool false], st) := by
  refine call_of_W prog_31 ?_
  unfold F_bytes_CutPrefix; dsimp only
  by_cases h : b <+: a
  · have hle := h.length_le
    simp (maxSteps := 1000000) (disch := omega) only [HasPrefix_spec hx hy, len_by hx, len_by hy, h, slc_lo hx, W_seq, W_region, W_cond, W_block, W_skip, W_label, W_exit, W_goto, W_ret, WO_cons, WO_consG, WO_nil, wantedA_eq, wantB, evOp, ev_tmp, ev_const, ev_fn, WN_some, WN_none, updO_some, updO_none, upd_eq,
 ↓reduceIte, Nat.reduceEqDiff, List.nil_append, List.cons_append, List.append_nil, List.map_cons, List.map_nil, env0_zero, env0_succ, env0_nil, Option.map_some, Option.map_none, seqQ_normal, seqQ_ret, seqQ_exit, seqQ_goto, blockQ_normal, blockQ_ret, blockQ_exit, blockQ_goto, condW_bool, loopQ_ret, loopQ_exit, loopQ_goto, endQ_ret, endQ_normal,
 lss_i, leq_i, gtr_i, geq_i, eql_i, neq_i, eql_8, neq_8, lss_8, leq_8, gtr_8, geq_8, eql_s, neq_s, eql_b, neq_b, not_b, by_bys, by_nils, load_cp1, beq_true, beq_false, Bool.not_eq_true', decide_eq_true_eq, decide_eq_false_iff_not, decide_true, decide_false,
 Int.toNat_natCast, Int.ofNat_lt, Int.ofNat_le, Int.natCast_inj, Bool.false_eq_true, Bool.true_eq_false, extPV, List.getElem?_cons_zero, List.getElem?_cons_succ, nilckPV, Int.reduceToNat, Int.reduceLE, true_and, and_true, reduceCtorEq, or_false, false_or, or_true, Option.some.injEq, exists_eq_left', Bool.not_true, Bool.not_false, ne_eq, Int.reduceEq, not_true_eq_false, not_false_eq_true, Int.reduceLT, UInt8.reduceLT, UInt8.reduceLE, UInt8.reduceToNat]
    have hz := dropB_by (i := b.length) hx
    exact end2 rfl rfl (Kp_by hz (dropB_tok ht)) Kp_bool
  · simp (maxSteps := 1000000) (disch := omega) only [HasPrefix_spec hx hy, len_by hx, len_by hy, h, W_seq, W_region, W_cond, W_block, W_skip, W_label, W_exit, W_goto, W_ret, WO_cons, WO_consG, WO_nil, wantedA_eq, wantB, evOp, ev_tmp, ev_const, ev_fn, WN_some, WN_none, updO_some, updO_none, upd_eq,
 ↓reduceIte, Nat.reduceEqDiff, List.nil_append, List.cons_append, List.append_nil, List.map_cons, List.map_nil, env0_zero, env0_succ, env0_nil, Option.map_some, Option.map_none, seqQ_normal, seqQ_ret, seqQ_exit, seqQ_goto, blockQ_normal, blockQ_ret, blockQ_exit, blockQ_goto, condW_bool, loopQ_ret, loopQ_exit, loopQ_goto, endQ_ret, endQ_normal,
 lss_i, leq_i, gtr_i, geq_i, eql_i, neq_i, eql_8, neq_8, lss_8, leq_8, gtr_8, geq_8, eql_s, neq_s, eql_b, neq_b, not_b, by_bys, by_nils, load_cp1, beq_true, beq_false, Bool.not_eq_true', decide_eq_true_eq, decide_eq_false_iff_not, decide_true, decide_false,
 Int.toNat_natCast, Int.ofNat_lt, Int.ofNat_le, Int.natCast_inj, Bool.false_eq_true, Bool.true_eq_false, extPV, List.getElem?_cons_zero, List.getElem?_cons_succ, nilckPV, Int.reduceToNat, Int.reduceLE, true_and, and_true, reduceCtorEq, or_false, false_or, or_true, Option.some.injEq, exists_eq_left', Bool.not_true, Bool.not_false, ne_eq, Int.reduceEq, not_true_eq_false, not_false_eq_true, Int.reduceLT, UInt8.reduceLT, UInt8.reduceLE, UInt8.reduceToNat]
    exact end2 rfl rfl (Kp_by hx ht) Kp_bool

def pairAt (l : List UInt8) (i : Nat) : Bool := decide (i + 1 < l.length ∧ l.getD i 0 = 13 ∧ l.getD (i + 1) 0 = 10)

theorem Pair_spec {x : PV} {l : List UInt8} {i : Nat} (hx : x.by = some l) (hl : i < 4611686018427387904) : call prog (.fn 22 []) [x, .int .i64 (i : Int)] st = some (.bool (pairAt l i), st) := by
  refine call_of_W prog_22 ?_
  unfold F_posthornref03_Pair; dsimp only
  by_cases h1 : i + 1 < l.length
  · by_cases h2 : l.getD i 0 = 13
    · simp (maxSteps := 1000000) (disch := omega) only [len_by hx, h1, h2, add_n, iaddr_by hx, W_seq, W_region, W_cond, W_block, W_skip, W_label, W_exit, W_goto, W_ret, WO_cons, WO_consG, WO_nil, wantedA_eq, wantB, evOp, ev_tmp, ev_const, ev_fn, WN_some, WN_none, updO_some, updO_none, upd_eq,
 ↓reduceIte, Nat.reduceEqDiff, List.nil_append, List.cons_append, List.append_nil, List.map_cons, List.map_nil, env0_zero, env0_succ, env0_nil, Option.map_some, Option.map_none, seqQ_normal, seqQ_ret, seqQ_exit, seqQ_goto, blockQ_normal, blockQ_ret, blockQ_exit, blockQ_goto, condW_bool, loopQ_ret, loopQ_exit, loopQ_goto, endQ_ret, endQ_normal,
 lss_i, leq_i, gtr_i, geq_i, eql_i, neq_i, eql_8, neq_8, lss_8, leq_8, gtr_8, geq_8, eql_s, neq_s, eql_b, neq_b, not_b, by_bys, by_nils, load_cp1, beq_true, beq_false, Bool.not_eq_true', decide_eq_true_eq, decide_eq_false_iff_not, decide_true, decide_false,
 Int.toNat_natCast, Int.ofNat_lt, Int.ofNat_le, Int.natCast_inj, Bool.false_eq_true, Bool.true_eq_false, extPV, List.getElem?_cons_zero, List.getElem?_cons_succ, nilckPV, Int.reduceToNat, Int.reduceLE, true_and, and_true, reduceCtorEq, or_false, false_or, or_true, Option.some.injEq, exists_eq_left', Bool.not_true, Bool.not_false, ne_eq, Int.reduceEq, not_true_eq_false, not_false_eq_true, Int.reduceLT, UInt8.reduceLT, UInt8.reduceLE, UInt8.reduceToNat]
      refine ⟨_, rfl, ?_⟩
      rw [show pairAt l i = decide (l.getD (i + 1) 0 = 10) by simp only [pairAt, h1, h2, true_and]]
      exact leave_pure rfl rfl
    · simp (maxSteps := 1000000) (disch := omega) only [len_by hx, h1, h2, add_n, iaddr_by hx, W_seq, W_region, W_cond, W_block, W_skip, W_label, W_exit, W_goto, W_ret, WO_cons, WO_consG, WO_nil, wantedA_eq, wantB, evOp, ev_tmp, ev_const, ev_fn, WN_some, WN_none, updO_some, updO_none, upd_eq,
 ↓reduceIte, Nat.reduceEqDiff, List.nil_append, List.cons_append, List.append_nil, List.map_cons, List.map_nil, env0_zero, env0_succ, env0_nil, Option.map_some, Option.map_none, seqQ_normal, seqQ_ret, seqQ_exit, seqQ_goto, blockQ_normal, blockQ_ret, blockQ_exit, blockQ_goto, condW_bool, loopQ_ret, loopQ_exit, loopQ_goto, endQ_ret, endQ_normal,
 lss_i, leq_i, gtr_i, geq_i, eql_i, neq_i, eql_8, neq_8, lss_8, leq_8, gtr_8, geq_8, eql_s, neq_s, eql_b, neq_b, not_b, by_bys, by_nils, load_cp1, beq_true, beq_false, Bool.not_eq_true', decide_eq_true_eq, decide_eq_false_iff_not, decide_true, decide_false,
 Int.toNat_natCast, Int.ofNat_lt, Int.ofNat_le, Int.natCast_inj, Bool.false_eq_true, Bool.true_eq_false, extPV, List.getElem?_cons_zero, List.getElem?_cons_succ, nilckPV, Int.reduceToNat, Int.reduceLE, true_and, and_true, reduceCtorEq, or_false, false_or, or_true, Option.some.injEq, exists_eq_left', Bool.not_true, Bool.not_false, ne_eq, Int.reduceEq, not_true_eq_false, not_false_eq_true, Int.reduceLT, UInt8.reduceLT, UInt8.reduceLE, UInt8.reduceToNat]
      refine ⟨_, rfl, ?_⟩
      rw [show pairAt l i = false by simp only [pairAt, h2, false_and, and_false, decide_false]]
      exact leave_pure rfl rfl
  · simp (maxSteps := 1000000) (disch := omega) only [len_by hx, h1, add_n, iaddr_by hx, W_seq, W_region, W_cond, W_block, W_skip, W_label, W_exit, W_goto, W_ret, WO_cons, WO_consG, WO_nil, wantedA_eq, wantB, evOp, ev_tmp, ev_const, ev_fn, WN_some, WN_none, updO_some, updO_none, upd_eq,
 ↓reduceIte, Nat.reduceEqDiff, List.nil_append, List.cons_append, List.append_nil, List.map_cons, List.map_nil, env0_zero, env0_succ, env0_nil, Option.map_some, Option.map_none, seqQ_normal, seqQ_ret, seqQ_exit, seqQ_goto, blockQ_normal, blockQ_ret, blockQ_exit, blockQ_goto, condW_bool, loopQ_ret, loopQ_exit, loopQ_goto, endQ_ret, endQ_normal,
 lss_i, leq_i, gtr_i, geq_i, eql_i, neq_i, eql_8, neq_8, lss_8, leq_8, gtr_8, geq_8, eql_s, neq_s, eql_b, neq_b, not_b, by_bys, by_nils, load_cp1, beq_true, beq_false, Bool.not_eq_true', decide_eq_true_eq, decide_eq_false_iff_not, decide_true, decide_false,
 Int.toNat_natCast, Int.ofNat_lt, Int.ofNat_le, Int.natCast_inj, Bool.false_eq_true, Bool.true_eq_false, extPV, List.getElem?_cons_zero, List.getElem?_cons_succ, nilckPV, Int.reduceToNat, Int.reduceLE, true_and, and_true, reduceCtorEq, or_false, false_or, or_true, Option.some.injEq, exists_eq_left', Bool.not_true, Bool.not_false, ne_eq, Int.reduceEq, not_true_eq_false, not_false_eq_true, Int.reduceLT, UInt8.reduceLT, UInt8.reduceLE, UInt8.reduceToNat]
    refine ⟨_, rfl, ?_⟩
    rw [show pairAt l i = false by simp only [pairAt, h1, false_and, decide_false]]
    exact leave_pure rfl rfl

def crlf (c : UInt8) : Bool := decide (c = 13 ∨ c = 10)
theorem dbare1_spec {c : UInt8} : call prog (.fn 30 []) [.b8 c] st = some (.bool (crlf c), st) := by
  refine call_of_W prog_30 ?_
  unfold F_dots_bare_c1; dsimp only
  by_cases h : c = 13
  · simp (maxSteps := 1000000) (disch := omega) only [h, W_seq, W_region, W_cond, W_block, W_skip, W_label, W_exit, W_goto, W_ret, WO_cons, WO_consG, WO_nil, wantedA_eq, wantB, evOp, ev_tmp, ev_const, ev_fn, WN_some, WN_none, updO_some, updO_none, upd_eq,
 ↓reduceIte, Nat.reduceEqDiff, List.nil_append, List.cons_append, List.append_nil, List.map_cons, List.map_nil, env0_zero, env0_succ, env0_nil, Option.map_some, Option.map_none, seqQ_normal, seqQ_ret, seqQ_exit, seqQ_goto, blockQ_normal, blockQ_ret, blockQ_exit, blockQ_goto, condW_bool, loopQ_ret, loopQ_exit, loopQ_goto, endQ_ret, endQ_normal,
 lss_i, leq_i, gtr_i, geq_i, eql_i, neq_i, eql_8, neq_8, lss_8, leq_8, gtr_8, geq_8, eql_s, neq_s, eql_b, neq_b, not_b, by_bys, by_nils, load_cp1, beq_true, beq_false, Bool.not_eq_true', decide_eq_true_eq, decide_eq_false_iff_not, decide_true, decide_false,
 Int.toNat_natCast, Int.ofNat_lt, Int.ofNat_le, Int.natCast_inj, Bool.false_eq_true, Bool.true_eq_false, extPV, List.getElem?_cons_zero, List.getElem?_cons_succ, nilckPV, Int.reduceToNat, Int.reduceLE, true_and, and_true, reduceCtorEq, or_false, false_or, or_true, Option.some.injEq, exists_eq_left', Bool.not_true, Bool.not_false, ne_eq, Int.reduceEq, not_true_eq_false, not_false_eq_true, Int.reduceLT, UInt8.reduceLT, UInt8.reduceLE, UInt8.reduceToNat]
    exact ⟨_, rfl, leave_pure rfl rfl⟩
  · simp (maxSteps := 1000000) (disch := omega) only [h, W_seq, W_region, W_cond, W_block, W_skip, W_label, W_exit, W_goto, W_ret, WO_cons, WO_consG, WO_nil, wantedA_eq, wantB, evOp, ev_tmp, ev_const, ev_fn, WN_some, WN_none, updO_some, updO_none, upd_eq,
 ↓reduceIte, Nat.reduceEqDiff, List.nil_append, List.cons_append, List.append_nil, List.map_cons, List.map_nil, env0_zero, env0_succ, env0_nil, Option.map_some, Option.map_none, seqQ_normal, seqQ_ret, seqQ_exit, seqQ_goto, blockQ_normal, blockQ_ret, blockQ_exit, blockQ_goto, condW_bool, loopQ_ret, loopQ_exit, loopQ_goto, endQ_ret, endQ_normal,
 lss_i, leq_i, gtr_i, geq_i, eql_i, neq_i, eql_8, neq_8, lss_8, leq_8, gtr_8, geq_8, eql_s, neq_s, eql_b, neq_b, not_b, by_bys, by_nils, load_cp1, beq_true, beq_false, Bool.not_eq_true', decide_eq_true_eq, decide_eq_false_iff_not, decide_true, decide_false,
 Int.toNat_natCast, Int.ofNat_lt, Int.ofNat_le, Int.natCast_inj, Bool.false_eq_true, Bool.true_eq_false, extPV, List.getElem?_cons_zero, List.getElem?_cons_succ, nilckPV, Int.reduceToNat, Int.reduceLE, true_and, and_true, reduceCtorEq, or_false, false_or, or_true, Option.some.injEq, exists_eq_left', Bool.not_true, Bool.not_false, ne_eq, Int.reduceEq, not_true_eq_false, not_false_eq_true, Int.reduceLT, UInt8.reduceLT, UInt8.reduceLE, UInt8.reduceToNat]
    refine ⟨_, rfl, ?_⟩
    rw [show crlf c = decide (c = 10) by simp only [crlf, h, false_or]]
    exact leave_pure rfl rfl
end Go.Ab

/-
  Loops over bytes: the place of a bare 13 or 10; copies.
-/
namespace Go.Ab
set_option linter.unusedVariables false
set_option linter.unusedSimpArgs false
variable {st : St} {e : Env}

theorem find_at {p : UInt8 → Bool} {l : List UInt8} {i : Nat} (hi : i < l.length) (hp : p (l.getD i 0) = true) (hn : ∀ j, j < i → p (l.getD j 0) = false) : l.findIdx? p = some i := by
  rw [List.findIdx?_eq_some_iff_getElem]
  refine ⟨hi, by simpa [List.getD, hi] using hp, fun j hj => ?_⟩
  have := hn j hj
  simpa [List.getD, show j < l.length by omega] using this
theorem find_none {p : UInt8 → Bool} {l : List UInt8} (hn : ∀ j, j < l.length → p (l.getD j 0) = false) : l.findIdx? p = none := by
  rw [List.findIdx?_eq_none_iff]
  intro x hx
  obtain ⟨j, hj, rfl⟩ := List.getElem_of_mem hx
  have := hn j hj
  simpa [List.getD, hj] using this

/-- The place of a bare 13 or 10; -1. -/
def bareAt (l : List UInt8) : Int := match l.findIdx? crlf with
  | some i => (i : Int)
  | none => -1

theorem IndexFunc_spec {x : PV} {l : List UInt8} (hx : x.by = some l) (hl : l.length < 4611686018427387904) : call prog (.fn 29 []) [x, .fn 30 []] st = some (.int .i64 (bareAt l), st) := by
  refine call_of_W prog_29 ?_
  unfold F_slices_IndexFunc_s_byte_byte; dsimp only
  simp (maxSteps := 1000000) (disch := omega) only [len_by hx, W_seq, W_region, W_cond, W_block, W_skip, W_label, W_exit, W_goto, W_ret, WO_cons, WO_consG, WO_nil, wantedA_eq, wantB, evOp, ev_tmp, ev_const, ev_fn, WN_some, WN_none, updO_some, updO_none, upd_eq,
 ↓reduceIte, Nat.reduceEqDiff, List.nil_append, List.cons_append, List.append_nil, List.map_cons, List.map_nil, env0_zero, env0_succ, env0_nil, Option.map_some, Option.map_none, seqQ_normal, seqQ_ret, seqQ_exit, seqQ_goto, blockQ_normal, blockQ_ret, blockQ_exit, blockQ_goto, condW_bool, loopQ_ret, loopQ_exit, loopQ_goto, endQ_ret, endQ_normal,
 lss_i, leq_i, gtr_i, geq_i, eql_i, neq_i, eql_8, neq_8, lss_8, leq_8, gtr_8, geq_8, eql_s, neq_s, eql_b, neq_b, not_b, by_bys, by_nils, load_cp1, beq_true, beq_false, Bool.not_eq_true', decide_eq_true_eq, decide_eq_false_iff_not, decide_true, decide_false,
 Int.toNat_natCast, Int.ofNat_lt, Int.ofNat_le, Int.natCast_inj, Bool.false_eq_true, Bool.true_eq_false, extPV, List.getElem?_cons_zero, List.getElem?_cons_succ, nilckPV, Int.reduceToNat, Int.reduceLE, true_and, and_true, reduceCtorEq, or_false, false_or, or_true, Option.some.injEq, exists_eq_left', Bool.not_true, Bool.not_false, ne_eq, Int.reduceEq, not_true_eq_false, not_false_eq_true, Int.reduceLT, UInt8.reduceLT, UInt8.reduceLE, UInt8.reduceToNat]
  obtain ⟨I, hI⟩ : ∃ I : Nat → Env → St → Prop, I = fun n e s => ∃ i : Nat, n = l.length - i ∧ i ≤ l.length ∧ (∀ j, j < i → crlf (l.getD j 0) = false) ∧ s = { boxes := st.boxes, toks := st.toks, loops := st.loops, low := st.boxes.length } ∧ e 0 = x ∧ e 1 = .fn 30 [] ∧ e 7 = .int .i64 (l.length : Int) ∧ e 8 = .int .i64 (i : Int) := ⟨_, rfl⟩
  refine W_loop I ?_ (n := l.length) (by rw [hI]; exact ⟨0, rfl, by omega, fun j hj => by omega, rfl, rfl, rfl, rfl, rfl⟩)
  intro n e s h
  rw [hI] at h
  obtain ⟨i, rfl, hi, hn, rfl, h0, h1, h7, h8⟩ := h
  by_cases hlt : i < l.length
  · by_cases hc : crlf (l.getD i 0) = true
    · simp (maxSteps := 1000000) (disch := omega) only [h0, h1, h7, h8, hlt, hc, iaddr_by hx, dbare1_spec, W_seq, W_region, W_cond, W_block, W_skip, W_label, W_exit, W_goto, W_ret, WO_cons, WO_consG, WO_nil, wantedA_eq, wantB, evOp, ev_tmp, ev_const, ev_fn, WN_some, WN_none, updO_some, updO_none, upd_eq,
 ↓reduceIte, Nat.reduceEqDiff, List.nil_append, List.cons_append, List.append_nil, List.map_cons, List.map_nil, env0_zero, env0_succ, env0_nil, Option.map_some, Option.map_none, seqQ_normal, seqQ_ret, seqQ_exit, seqQ_goto, blockQ_normal, blockQ_ret, blockQ_exit, blockQ_goto, condW_bool, loopQ_ret, loopQ_exit, loopQ_goto, endQ_ret, endQ_normal,
 lss_i, leq_i, gtr_i, geq_i, eql_i, neq_i, eql_8, neq_8, lss_8, leq_8, gtr_8, geq_8, eql_s, neq_s, eql_b, neq_b, not_b, by_bys, by_nils, load_cp1, beq_true, beq_false, Bool.not_eq_true', decide_eq_true_eq, decide_eq_false_iff_not, decide_true, decide_false,
 Int.toNat_natCast, Int.ofNat_lt, Int.ofNat_le, Int.natCast_inj, Bool.false_eq_true, Bool.true_eq_false, extPV, List.getElem?_cons_zero, List.getElem?_cons_succ, nilckPV, Int.reduceToNat, Int.reduceLE, true_and, and_true, reduceCtorEq, or_false, false_or, or_true, Option.some.injEq, exists_eq_left', Bool.not_true, Bool.not_false, ne_eq, Int.reduceEq, not_true_eq_false, not_false_eq_true, Int.reduceLT, UInt8.reduceLT, UInt8.reduceLE, UInt8.reduceToNat]
      rw [show bareAt l = i by simp only [bareAt, find_at hlt hc hn]]
      exact end1 rfl Kp_int
    · simp (maxSteps := 1000000) (disch := omega) only [h0, h1, h7, h8, hlt, hc, iaddr_by hx, dbare1_spec, add_n, W_seq, W_region, W_cond, W_block, W_skip, W_label, W_exit, W_goto, W_ret, WO_cons, WO_consG, WO_nil, wantedA_eq, wantB, evOp, ev_tmp, ev_const, ev_fn, WN_some, WN_none, updO_some, updO_none, upd_eq,
 ↓reduceIte, Nat.reduceEqDiff, List.nil_append, List.cons_append, List.append_nil, List.map_cons, List.map_nil, env0_zero, env0_succ, env0_nil, Option.map_some, Option.map_none, seqQ_normal, seqQ_ret, seqQ_exit, seqQ_goto, blockQ_normal, blockQ_ret, blockQ_exit, blockQ_goto, condW_bool, loopQ_ret, loopQ_exit, loopQ_goto, endQ_ret, endQ_normal,
 lss_i, leq_i, gtr_i, geq_i, eql_i, neq_i, eql_8, neq_8, lss_8, leq_8, gtr_8, geq_8, eql_s, neq_s, eql_b, neq_b, not_b, by_bys, by_nils, load_cp1, beq_true, beq_false, Bool.not_eq_true', decide_eq_true_eq, decide_eq_false_iff_not, decide_true, decide_false,
 Int.toNat_natCast, Int.ofNat_lt, Int.ofNat_le, Int.natCast_inj, Bool.false_eq_true, Bool.true_eq_false, extPV, List.getElem?_cons_zero, List.getElem?_cons_succ, nilckPV, Int.reduceToNat, Int.reduceLE, true_and, and_true, reduceCtorEq, or_false, false_or, or_true, Option.some.injEq, exists_eq_left', Bool.not_true, Bool.not_false, ne_eq, Int.reduceEq, not_true_eq_false, not_false_eq_true, Int.reduceLT, UInt8.reduceLT, UInt8.reduceLE, UInt8.reduceToNat]
      refine loopQ_intro (m := l.length - (i + 1)) (by omega) ?_
      rw [hI]
      refine ⟨i + 1, rfl, by omega, fun j hj => ?_, rfl, h0, h1, h7, rfl⟩
      by_cases hji : j = i
      · subst hji; simpa using hc
      · exact hn j (by omega)
  · simp (maxSteps := 1000000) (disch := omega) only [h0, h1, h7, h8, hlt, W_seq, W_region, W_cond, W_block, W_skip, W_label, W_exit, W_goto, W_ret, WO_cons, WO_consG, WO_nil, wantedA_eq, wantB, evOp, ev_tmp, ev_const, ev_fn, WN_some, WN_none, updO_some, updO_none, upd_eq,
 ↓reduceIte, Nat.reduceEqDiff, List.nil_append, List.cons_append, List.append_nil, List.map_cons, List.map_nil, env0_zero, env0_succ, env0_nil, Option.map_some, Option.map_none, seqQ_normal, seqQ_ret, seqQ_exit, seqQ_goto, blockQ_normal, blockQ_ret, blockQ_exit, blockQ_goto, condW_bool, loopQ_ret, loopQ_exit, loopQ_goto, endQ_ret, endQ_normal,
 lss_i, leq_i, gtr_i, geq_i, eql_i, neq_i, eql_8, neq_8, lss_8, leq_8, gtr_8, geq_8, eql_s, neq_s, eql_b, neq_b, not_b, by_bys, by_nils, load_cp1, beq_true, beq_false, Bool.not_eq_true', decide_eq_true_eq, decide_eq_false_iff_not, decide_true, decide_false,
 Int.toNat_natCast, Int.ofNat_lt, Int.ofNat_le, Int.natCast_inj, Bool.false_eq_true, Bool.true_eq_false, extPV, List.getElem?_cons_zero, List.getElem?_cons_succ, nilckPV, Int.reduceToNat, Int.reduceLE, true_and, and_true, reduceCtorEq, or_false, false_or, or_true, Option.some.injEq, exists_eq_left', Bool.not_true, Bool.not_false, ne_eq, Int.reduceEq, not_true_eq_false, not_false_eq_true, Int.reduceLT, UInt8.reduceLT, UInt8.reduceLE, UInt8.reduceToNat]
    rw [show bareAt l = -1 by simp only [bareAt, find_none (fun j hj => hn j (by omega))]]
    exact end1 rfl Kp_int

theorem dbare_spec {x : PV} {l : List UInt8} (hx : x.by = some l) (hl : l.length < 4611686018427387904) : call prog (.fn 20 []) [x] st = some (.int .i64 (bareAt l), st) := by
  refine call_of_W prog_20 ?_
  unfold F_dots_bare; dsimp only
  simp (maxSteps := 1000000) (disch := omega) only [IndexFunc_spec hx hl, W_seq, W_region, W_cond, W_block, W_skip, W_label, W_exit, W_goto, W_ret, WO_cons, WO_consG, WO_nil, wantedA_eq, wantB, evOp, ev_tmp, ev_const, ev_fn, WN_some, WN_none, updO_some, updO_none, upd_eq,
 ↓reduceIte, Nat.reduceEqDiff, List.nil_append, List.cons_append, List.append_nil, List.map_cons, List.map_nil, env0_zero, env0_succ, env0_nil, Option.map_some, Option.map_none, seqQ_normal, seqQ_ret, seqQ_exit, seqQ_goto, blockQ_normal, blockQ_ret, blockQ_exit, blockQ_goto, condW_bool, loopQ_ret, loopQ_exit, loopQ_goto, endQ_ret, endQ_normal,
 lss_i, leq_i, gtr_i, geq_i, eql_i, neq_i, eql_8, neq_8, lss_8, leq_8, gtr_8, geq_8, eql_s, neq_s, eql_b, neq_b, not_b, by_bys, by_nils, load_cp1, beq_true, beq_false, Bool.not_eq_true', decide_eq_true_eq, decide_eq_false_iff_not, decide_true, decide_false,
 Int.toNat_natCast, Int.ofNat_lt, Int.ofNat_le, Int.natCast_inj, Bool.false_eq_true, Bool.true_eq_false, extPV, List.getElem?_cons_zero, List.getElem?_cons_succ, nilckPV, Int.reduceToNat, Int.reduceLE, true_and, and_true, reduceCtorEq, or_false, false_or, or_true, Option.some.injEq, exists_eq_left', Bool.not_true, Bool.not_false, ne_eq, Int.reduceEq, not_true_eq_false, not_false_eq_true, Int.reduceLT, UInt8.reduceLT, UInt8.reduceLE, UInt8.reduceToNat]
  exact end1 rfl Kp_int

theorem rbare_spec {x : PV} {l : List UInt8} (hx : x.by = some l) (hl : l.length < 4611686018427387904) : call prog (.fn 21 []) [x] st = some (.int .i64 (bareAt l), st) := by
  refine call_of_W prog_21 ?_
  unfold F_posthornref05_bare; dsimp only
  simp (maxSteps := 1000000) (disch := omega) only [len_by hx, W_seq, W_region, W_cond, W_block, W_skip, W_label, W_exit, W_goto, W_ret, WO_cons, WO_consG, WO_nil, wantedA_eq, wantB, evOp, ev_tmp, ev_const, ev_fn, WN_some, WN_none, updO_some, updO_none, upd_eq,
 ↓reduceIte, Nat.reduceEqDiff, List.nil_append, List.cons_append, List.append_nil, List.map_cons, List.map_nil, env0_zero, env0_succ, env0_nil, Option.map_some, Option.map_none, seqQ_normal, seqQ_ret, seqQ_exit, seqQ_goto, blockQ_normal, blockQ_ret, blockQ_exit, blockQ_goto, condW_bool, loopQ_ret, loopQ_exit, loopQ_goto, endQ_ret, endQ_normal,
 lss_i, leq_i, gtr_i, geq_i, eql_i, neq_i, eql_8, neq_8, lss_8, leq_8, gtr_8, geq_8, eql_s, neq_s, eql_b, neq_b, not_b, by_bys, by_nils, load_cp1, beq_true, beq_false, Bool.not_eq_true', decide_eq_true_eq, decide_eq_false_iff_not, decide_true, decide_false,
 Int.toNat_natCast, Int.ofNat_lt, Int.ofNat_le, Int.natCast_inj, Bool.false_eq_true, Bool.true_eq_false, extPV, List.getElem?_cons_zero, List.getElem?_cons_succ, nilckPV, Int.reduceToNat, Int.reduceLE, true_and, and_true, reduceCtorEq, or_false, false_or, or_true, Option.some.injEq, exists_eq_left', Bool.not_true, Bool.not_false, ne_eq, Int.reduceEq, not_true_eq_false, not_false_eq_true, Int.reduceLT, UInt8.reduceLT, UInt8.reduceLE, UInt8.reduceToNat]
  obtain ⟨I, hI⟩ : ∃ I : Nat → Env → St → Prop, I = fun n e s => ∃ i : Nat, n = l.length - i ∧ i ≤ l.length ∧ (∀ j, j < i → crlf (l.getD j 0) = false) ∧ s = { boxes := st.boxes, toks := st.toks, loops := st.loops, low := st.boxes.length } ∧ e 0 = x ∧ e 3 = .int .i64 (i : Int) := ⟨_, rfl⟩
  refine W_loop I ?_ (n := l.length) (by rw [hI]; exact ⟨0, rfl, by omega, fun j hj => by omega, rfl, rfl, rfl⟩)
  intro n e s h
  rw [hI] at h
  obtain ⟨i, rfl, hi, hn, rfl, h0, h3⟩ := h
  have next : crlf (l.getD i 0) = false → ∀ j, j < i + 1 → crlf (l.getD j 0) = false := fun hc j hj => by
    by_cases hji : j = i
    · subst hji; exact hc
    · exact hn j (by omega)
  by_cases hlt : i < l.length
  · by_cases h13 : l.getD i 0 = 13
    · simp (maxSteps := 1000000) (disch := omega) only [h0, h3, hlt, h13, len_by hx, iaddr_by hx, W_seq, W_region, W_cond, W_block, W_skip, W_label, W_exit, W_goto, W_ret, WO_cons, WO_consG, WO_nil, wantedA_eq, wantB, evOp, ev_tmp, ev_const, ev_fn, WN_some, WN_none, updO_some, updO_none, upd_eq,
 ↓reduceIte, Nat.reduceEqDiff, List.nil_append, List.cons_append, List.append_nil, List.map_cons, List.map_nil, env0_zero, env0_succ, env0_nil, Option.map_some, Option.map_none, seqQ_normal, seqQ_ret, seqQ_exit, seqQ_goto, blockQ_normal, blockQ_ret, blockQ_exit, blockQ_goto, condW_bool, loopQ_ret, loopQ_exit, loopQ_goto, endQ_ret, endQ_normal,
 lss_i, leq_i, gtr_i, geq_i, eql_i, neq_i, eql_8, neq_8, lss_8, leq_8, gtr_8, geq_8, eql_s, neq_s, eql_b, neq_b, not_b, by_bys, by_nils, load_cp1, beq_true, beq_false, Bool.not_eq_true', decide_eq_true_eq, decide_eq_false_iff_not, decide_true, decide_false,
 Int.toNat_natCast, Int.ofNat_lt, Int.ofNat_le, Int.natCast_inj, Bool.false_eq_true, Bool.true_eq_false, extPV, List.getElem?_cons_zero, List.getElem?_cons_succ, nilckPV, Int.reduceToNat, Int.reduceLE, true_and, and_true, reduceCtorEq, or_false, false_or, or_true, Option.some.injEq, exists_eq_left', Bool.not_true, Bool.not_false, ne_eq, Int.reduceEq, not_true_eq_false, not_false_eq_true, Int.reduceLT, UInt8.reduceLT, UInt8.reduceLE, UInt8.reduceToNat]
      rw [show bareAt l = i by simp only [bareAt, find_at hlt (p := crlf) (by simp only [crlf, h13, true_or, decide_true]) hn]]
      exact end1 rfl Kp_int
    · by_cases h10 : l.getD i 0 = 10
      · simp (maxSteps := 1000000) (disch := omega) only [h0, h3, hlt, h13, eq_true h10, len_by hx, iaddr_by hx, W_seq, W_region, W_cond, W_block, W_skip, W_label, W_exit, W_goto, W_ret, WO_cons, WO_consG, WO_nil, wantedA_eq, wantB, evOp, ev_tmp, ev_const, ev_fn, WN_some, WN_none, updO_some, updO_none, upd_eq,
 ↓reduceIte, Nat.reduceEqDiff, List.nil_append, List.cons_append, List.append_nil, List.map_cons, List.map_nil, env0_zero, env0_succ, env0_nil, Option.map_some, Option.map_none, seqQ_normal, seqQ_ret, seqQ_exit, seqQ_goto, blockQ_normal, blockQ_ret, blockQ_exit, blockQ_goto, condW_bool, loopQ_ret, loopQ_exit, loopQ_goto, endQ_ret, endQ_normal,
 lss_i, leq_i, gtr_i, geq_i, eql_i, neq_i, eql_8, neq_8, lss_8, leq_8, gtr_8, geq_8, eql_s, neq_s, eql_b, neq_b, not_b, by_bys, by_nils, load_cp1, beq_true, beq_false, Bool.not_eq_true', decide_eq_true_eq, decide_eq_false_iff_not, decide_true, decide_false,
 Int.toNat_natCast, Int.ofNat_lt, Int.ofNat_le, Int.natCast_inj, Bool.false_eq_true, Bool.true_eq_false, extPV, List.getElem?_cons_zero, List.getElem?_cons_succ, nilckPV, Int.reduceToNat, Int.reduceLE, true_and, and_true, reduceCtorEq, or_false, false_or, or_true, Option.some.injEq, exists_eq_left', Bool.not_true, Bool.not_false, ne_eq, Int.reduceEq, not_true_eq_false, not_false_eq_true, Int.reduceLT, UInt8.reduceLT, UInt8.reduceLE, UInt8.reduceToNat]
        rw [show bareAt l = i by simp only [bareAt, find_at hlt (p := crlf) (by simp only [crlf, h10, or_true, decide_true]) hn]]
        exact end1 rfl Kp_int
      · simp (maxSteps := 1000000) (disch := omega) only [h0, h3, hlt, h13, h10, len_by hx, iaddr_by hx, add_n, W_seq, W_region, W_cond, W_block, W_skip, W_label, W_exit, W_goto, W_ret, WO_cons, WO_consG, WO_nil, wantedA_eq, wantB, evOp, ev_tmp, ev_const, ev_fn, WN_some, WN_none, updO_some, updO_none, upd_eq,
 ↓reduceIte, Nat.reduceEqDiff, List.nil_append, List.cons_append, List.append_nil, List.map_cons, List.map_nil, env0_zero, env0_succ, env0_nil, Option.map_some, Option.map_none, seqQ_normal, seqQ_ret, seqQ_exit, seqQ_goto, blockQ_normal, blockQ_ret, blockQ_exit, blockQ_goto, condW_bool, loopQ_ret, loopQ_exit, loopQ_goto, endQ_ret, endQ_normal,
 lss_i, leq_i, gtr_i, geq_i, eql_i, neq_i, eql_8, neq_8, lss_8, leq_8, gtr_8, geq_8, eql_s, neq_s, eql_b, neq_b, not_b, by_bys, by_nils, load_cp1, beq_true, beq_false, Bool.not_eq_true', decide_eq_true_eq, decide_eq_false_iff_not, decide_true, decide_false,
 Int.toNat_natCast, Int.ofNat_lt, Int.ofNat_le, Int.natCast_inj, Bool.false_eq_true, Bool.true_eq_false, extPV, List.getElem?_cons_zero, List.getElem?_cons_succ, nilckPV, Int.reduceToNat, Int.reduceLE, true_and, and_true, reduceCtorEq, or_false, false_or, or_true, Option.some.injEq, exists_eq_left', Bool.not_true, Bool.not_false, ne_eq, Int.reduceEq, not_true_eq_false, not_false_eq_true, Int.reduceLT, UInt8.reduceLT, UInt8.reduceLE, UInt8.reduceToNat]
        refine loopQ_intro (m := l.length - (i + 1)) (by omega) ?_
        rw [hI]
        exact ⟨i + 1, rfl, by omega, next (by simp only [crlf, h13, h10, or_self, decide_false]), rfl, h0, rfl⟩
  · simp (maxSteps := 1000000) (disch := omega) only [h0, h3, hlt, len_by hx, W_seq, W_region, W_cond, W_block, W_skip, W_label, W_exit, W_goto, W_ret, WO_cons, WO_consG, WO_nil, wantedA_eq, wantB, evOp, ev_tmp, ev_const, ev_fn, WN_some, WN_none, updO_some, updO_none, upd_eq,
 ↓reduceIte, Nat.reduceEqDiff, List.nil_append, List.cons_append, List.append_nil, List.map_cons, List.map_nil, env0_zero, env0_succ, env0_nil, Option.map_some, Option.map_none, seqQ_normal, seqQ_ret, seqQ_exit, seqQ_goto, blockQ_normal, blockQ_ret, blockQ_exit, blockQ_goto, condW_bool, loopQ_ret, loopQ_exit, loopQ_goto, endQ_ret, endQ_normal,
 lss_i, leq_i, gtr_i, geq_i, eql_i, neq_i, eql_8, neq_8, lss_8, leq_8, gtr_8, geq_8, eql_s, neq_s, eql_b, neq_b, not_b, by_bys, by_nils, load_cp1, beq_true, beq_false, Bool.not_eq_true', decide_eq_true_eq, decide_eq_false_iff_not, decide_true, decide_false,
 Int.toNat_natCast, Int.ofNat_lt, Int.ofNat_le, Int.natCast_inj, Bool.false_eq_true, Bool.true_eq_false, extPV, List.getElem?_cons_zero, List.getElem?_cons_succ, nilckPV, Int.reduceToNat, Int.reduceLE, true_and, and_true, reduceCtorEq, or_false, false_or, or_true, Option.some.injEq, exists_eq_left', Bool.not_true, Bool.not_false, ne_eq, Int.reduceEq, not_true_eq_false, not_false_eq_true, Int.reduceLT, UInt8.reduceLT, UInt8.reduceLE, UInt8.reduceToNat]
    rw [show bareAt l = -1 by simp only [bareAt, find_none (fun j hj => hn j (by omega))]]
    exact end1 rfl Kp_int
/-! ### Copies: a new slice that owns its room -/
theorem app8_nils {x : PV} {l : List UInt8} (hx : x.by = some l) (h : l.length ≤ room) : app8 st .nils x = if l = [] then some (.nils, st) else some (.bys (.own st.toks.length) l, { st with toks := st.toks ++ [true] }) := by
  simp only [app8, src8_by hx, freshT, h, if_true]

/-- A copy: nothing of nothing. -/
def copyV (st : St) (l : List UInt8) : PV := if l = [] then .nils else .bys (.own st.toks.length) l
def copyS (st : St) (l : List UInt8) : St := if l = [] then st else { st with toks := st.toks ++ [true] }
theorem copyV_by {l : List UInt8} : (copyV st l).by = some l := by
  unfold copyV; split
  · rename_i h; rw [h]; rfl
  · rfl

/-- A new slice is handed back. -/
theorem leave_new {l : List UInt8} : leave st { boxes := st.boxes, toks := st.toks ++ [true], loops := st.loops, low := st.boxes.length } (.bys (.own st.toks.length) l) = (.bys (.own st.toks.length) l, { st with toks := st.toks ++ [true] }) := by
  simp [leave, PV.inB, keepRes, keepVal, keepLeaf, keepTok]

theorem Copy_spec {x : PV} {l : List UInt8} (hx : x.by = some l) (hl : l.length ≤ room) : call prog (.fn 14 []) [x] st = some (copyV st l, copyS st l) := by
  refine call_of_W prog_14 ?_
  unfold F_posthornref01_Copy; dsimp only
  by_cases h : l = []
  · simp (maxSteps := 1000000) (disch := omega) only [app8_nils hx hl, h, W_seq, W_region, W_cond, W_block, W_skip, W_label, W_exit, W_goto, W_ret, WO_cons, WO_consG, WO_nil, wantedA_eq, wantB, evOp, ev_tmp, ev_const, ev_fn, WN_some, WN_none, updO_some, updO_none, upd_eq,
 ↓reduceIte, Nat.reduceEqDiff, List.nil_append, List.cons_append, List.append_nil, List.map_cons, List.map_nil, env0_zero, env0_succ, env0_nil, Option.map_some, Option.map_none, seqQ_normal, seqQ_ret, seqQ_exit, seqQ_goto, blockQ_normal, blockQ_ret, blockQ_exit, blockQ_goto, condW_bool, loopQ_ret, loopQ_exit, loopQ_goto, endQ_ret, endQ_normal,
 lss_i, leq_i, gtr_i, geq_i, eql_i, neq_i, eql_8, neq_8, lss_8, leq_8, gtr_8, geq_8, eql_s, neq_s, eql_b, neq_b, not_b, by_bys, by_nils, load_cp1, beq_true, beq_false, Bool.not_eq_true', decide_eq_true_eq, decide_eq_false_iff_not, decide_true, decide_false,
 Int.toNat_natCast, Int.ofNat_lt, Int.ofNat_le, Int.natCast_inj, Bool.false_eq_true, Bool.true_eq_false, extPV, List.getElem?_cons_zero, List.getElem?_cons_succ, nilckPV, Int.reduceToNat, Int.reduceLE, true_and, and_true, reduceCtorEq, or_false, false_or, or_true, Option.some.injEq, exists_eq_left', Bool.not_true, Bool.not_false, ne_eq, Int.reduceEq, not_true_eq_false, not_false_eq_true, Int.reduceLT, UInt8.reduceLT, UInt8.reduceLE, UInt8.reduceToNat]
    simp only [copyV, copyS, if_true]
    exact end1 rfl Kp_nils
  · simp (maxSteps := 1000000) (disch := omega) only [app8_nils hx hl, h, W_seq, W_region, W_cond, W_block, W_skip, W_label, W_exit, W_goto, W_ret, WO_cons, WO_consG, WO_nil, wantedA_eq, wantB, evOp, ev_tmp, ev_const, ev_fn, WN_some, WN_none, updO_some, updO_none, upd_eq,
 ↓reduceIte, Nat.reduceEqDiff, List.nil_append, List.cons_append, List.append_nil, List.map_cons, List.map_nil, env0_zero, env0_succ, env0_nil, Option.map_some, Option.map_none, seqQ_normal, seqQ_ret, seqQ_exit, seqQ_goto, blockQ_normal, blockQ_ret, blockQ_exit, blockQ_goto, condW_bool, loopQ_ret, loopQ_exit, loopQ_goto, endQ_ret, endQ_normal,
 lss_i, leq_i, gtr_i, geq_i, eql_i, neq_i, eql_8, neq_8, lss_8, leq_8, gtr_8, geq_8, eql_s, neq_s, eql_b, neq_b, not_b, by_bys, by_nils, load_cp1, beq_true, beq_false, Bool.not_eq_true', decide_eq_true_eq, decide_eq_false_iff_not, decide_true, decide_false,
 Int.toNat_natCast, Int.ofNat_lt, Int.ofNat_le, Int.natCast_inj, Bool.false_eq_true, Bool.true_eq_false, extPV, List.getElem?_cons_zero, List.getElem?_cons_succ, nilckPV, Int.reduceToNat, Int.reduceLE, true_and, and_true, reduceCtorEq, or_false, false_or, or_true, Option.some.injEq, exists_eq_left', Bool.not_true, Bool.not_false, ne_eq, Int.reduceEq, not_true_eq_false, not_false_eq_true, Int.reduceLT, UInt8.reduceLT, UInt8.reduceLE, UInt8.reduceToNat]
    simp only [copyV, copyS, h, if_false]
    exact ⟨_, rfl, leave_new⟩
end Go.Ab

/-
  The document's lines.
-/
namespace Go.Ab
set_option linter.unusedVariables false
set_option linter.unusedSimpArgs false
variable {st : St} {e : Env}

/-- The lines of bytes, with whether each is ended; ahead of them stands what has been read of the first one. -/
def segs : List UInt8 → List UInt8 → List (List UInt8 × Bool)
  | [], acc => if acc = [] then [] else [(acc, false)]
  | [c], acc => [(acc ++ [c], false)]
  | c :: d :: r, acc => if c = 13 ∧ d = 10 then (acc, true) :: segs r [] else segs (d :: r) (acc ++ [c])

/-- Their places. -/
def place : Nat → List (List UInt8 × Bool) → List (Nat × List UInt8 × Bool)
  | _, [] => []
  | a, (b, w) :: r => (a, b, w) :: place (a + b.length + 2) r

def refLines (l : List UInt8) : List (Nat × List UInt8 × Bool) := place 0 (segs l [])

def lnV (q : Nat × List UInt8 × Bool) : PV := .agg [.int .i64 (q.1 : Int), .bys .no q.2.1, .bool q.2.2]

theorem segs_pair {l acc : List UInt8} {i : Nat} (h : pairAt l i = true) : segs (l.drop i) acc = (acc, true) :: segs (l.drop (i + 2)) [] := by
  simp only [pairAt, decide_eq_true_eq] at h
  obtain ⟨h1, h2, h3⟩ := h
  rw [List.drop_eq_getElem_cons (show i < l.length by omega), List.drop_eq_getElem_cons (show i + 1 < l.length by omega)]
  simp only [List.getD_eq_getElem?_getD, List.getElem?_eq_getElem (show i < l.length by omega), List.getElem?_eq_getElem (show i + 1 < l.length by omega), Option.getD_some] at h2 h3
  simp [segs, h2, h3]
theorem segs_step {l acc : List UInt8} {i : Nat} (h : pairAt l i = false) (hi : i < l.length) : segs (l.drop i) acc = segs (l.drop (i + 1)) (acc ++ [l.getD i 0]) := by
  simp only [pairAt, decide_eq_false_iff_not] at h
  rw [List.drop_eq_getElem_cons hi]
  have hg : l.getD i 0 = l[i] := by simp [List.getD, hi]
  rw [hg]
  by_cases h1 : i + 1 < l.length
  · rw [List.drop_eq_getElem_cons h1]
    have hg1 : l.getD (i + 1) 0 = l[i + 1] := by simp [List.getD, h1]
    rw [hg, hg1] at h
    simp only [segs]
    rw [if_neg (fun hc => h ⟨h1, hc⟩)]
  · rw [List.drop_of_length_le (show l.length ≤ i + 1 by omega)]
    simp [segs]
theorem segs_end {l acc : List UInt8} {i : Nat} (hi : l.length ≤ i) : segs (l.drop i) acc = if acc = [] then [] else [(acc, false)] := by
  rw [List.drop_of_length_le hi]; rfl

theorem take_drop_snoc {l : List UInt8} {a i : Nat} (ha : a ≤ i) (hi : i < l.length) : (l.take i).drop a ++ [l.getD i 0] = (l.take (i + 1)).drop a := by
  rw [List.take_succ_eq_append_getElem hi, List.drop_append_of_le_length (by simp; omega)]
  simp [List.getD, hi]

theorem Lines_big {x : PV} {l : List UInt8} (hx : x.by = some l) (hl : l.length ≤ 100000000) : call prog (.fn 8 []) [x] st = some (newSl st 3 ((refLines l).map lnV), newS st ((refLines l).map lnV).isEmpty) := by
  refine call_of_W prog_8 ?_
  unfold F_posthornref05_Lines; dsimp only
  simp (maxSteps := 1000000) (disch := omega) only [len_by hx, W_seq, W_region, W_cond, W_block, W_skip, W_label, W_exit, W_goto, W_ret, WO_cons, WO_consG, WO_nil, wantedA_eq, wantB, evOp, ev_tmp, ev_const, ev_fn, WN_some, WN_none, updO_some, updO_none, upd_eq,
 ↓reduceIte, Nat.reduceEqDiff, List.nil_append, List.cons_append, List.append_nil, List.map_cons, List.map_nil, env0_zero, env0_succ, env0_nil, Option.map_some, Option.map_none, seqQ_normal, seqQ_ret, seqQ_exit, seqQ_goto, blockQ_normal, blockQ_ret, blockQ_exit, blockQ_goto, condW_bool, loopQ_ret, loopQ_exit, loopQ_goto, endQ_ret, endQ_normal,
 lss_i, leq_i, gtr_i, geq_i, eql_i, neq_i, eql_8, neq_8, lss_8, leq_8, gtr_8, geq_8, eql_s, neq_s, eql_b, neq_b, not_b, by_bys, by_nils, load_cp1, beq_true, beq_false, Bool.not_eq_true', decide_eq_true_eq, decide_eq_false_iff_not, decide_true, decide_false,
 Int.toNat_natCast, Int.ofNat_lt, Int.ofNat_le, Int.natCast_inj, Bool.false_eq_true, Bool.true_eq_false, extPV, List.getElem?_cons_zero, List.getElem?_cons_succ, nilckPV, Int.reduceToNat, Int.reduceLE, true_and, and_true, reduceCtorEq, or_false, false_or, or_true, Option.some.injEq, exists_eq_left', Bool.not_true, Bool.not_false, ne_eq, Int.reduceEq, not_true_eq_false, not_false_eq_true, Int.reduceLT, UInt8.reduceLT, UInt8.reduceLE, UInt8.reduceToNat]
  obtain ⟨I, hI⟩ : ∃ I : Nat → Env → St → Prop, I = fun n e s => ∃ (i a : Nat) (out : List (Nat × List UInt8 × Bool)) (v : PV), n = l.length - i ∧ a ≤ i ∧ i ≤ l.length ∧ out.length ≤ i ∧ refLines l = out ++ place a (segs (l.drop i) ((l.take i).drop a)) ∧
      Grew st s ∧ Own st s 3 v (out.map lnV) ∧ (out.map lnV = [] → v = .nils) ∧ e 0 = x ∧ e 3 = v ∧ e 4 = .int .i64 (a : Int) ∧ e 5 = .int .i64 (i : Int) := ⟨_, rfl⟩
  refine W_loop I ?_ (n := l.length) (by rw [hI]; exact ⟨0, 0, [], .nils, rfl, by omega, by omega, by simp, by simp [refLines], Grew.start, .inl ⟨rfl, rfl⟩, fun _ => rfl, rfl, rfl, rfl, rfl⟩)
  intro n e s h
  rw [hI] at h
  obtain ⟨i, a, out, v, rfl, hai, hil, hol, hr, hg, hown, hnil, h0, h3, h4, h5⟩ := h
  by_cases hlt : i < l.length
  · cases hp : pairAt l i with
    | true =>
      have hmid := midB_by (i := a) (j := i) hx
      have hxs : ∃ t, x = .bys t l := by
        rcases by_cases' hx with ⟨rfl, rfl⟩ | h
        · simp at hlt
        · exact h
      obtain ⟨t, rfl⟩ := hxs
      have hp2 : i + 1 < l.length := by simp only [pairAt, decide_eq_true_eq] at hp; exact hp.1
      have happ := appV_own (u := lnV (a, (l.take i).drop a, true)) (t := .own s.toks.length) hown.tok1 (by simp [room]; omega)
      obtain ⟨hg2, hown2⟩ := Own.app (ys := out.map lnV ++ [lnV (a, (l.take i).drop a, true)]) hg.tok1 hown.tok1
      have hlit : ∀ z, litFill 3 (List.replicate 1 z) [(0, .agg [.int .i64 (a : Int), (PV.bys t l).midB a i, .bool true])] = some [lnV (a, (l.take i).drop a, true)] := fun z => lit1 rfl rfl
      simp (maxSteps := 1000000) (disch := omega) only [h0, h3, h4, h5, hlt, hp, len_by hx, Pair_spec hx, slc_lohi hx, add_n, build3 Leaf_int (Leaf_by hmid) Leaf_bool, hlit, freshT_eq, happ, W_seq, W_region, W_cond, W_block, W_skip, W_label, W_exit, W_goto, W_ret, WO_cons, WO_consG, WO_nil, wantedA_eq, wantB, evOp, ev_tmp, ev_const, ev_fn, WN_some, WN_none, updO_some, updO_none, upd_eq,
 ↓reduceIte, Nat.reduceEqDiff, List.nil_append, List.cons_append, List.append_nil, List.map_cons, List.map_nil, env0_zero, env0_succ, env0_nil, Option.map_some, Option.map_none, seqQ_normal, seqQ_ret, seqQ_exit, seqQ_goto, blockQ_normal, blockQ_ret, blockQ_exit, blockQ_goto, condW_bool, loopQ_ret, loopQ_exit, loopQ_goto, endQ_ret, endQ_normal,
 lss_i, leq_i, gtr_i, geq_i, eql_i, neq_i, eql_8, neq_8, lss_8, leq_8, gtr_8, geq_8, eql_s, neq_s, eql_b, neq_b, not_b, by_bys, by_nils, load_cp1, beq_true, beq_false, Bool.not_eq_true', decide_eq_true_eq, decide_eq_false_iff_not, decide_true, decide_false,
 Int.toNat_natCast, Int.ofNat_lt, Int.ofNat_le, Int.natCast_inj, Bool.false_eq_true, Bool.true_eq_false, extPV, List.getElem?_cons_zero, List.getElem?_cons_succ, nilckPV, Int.reduceToNat, Int.reduceLE, true_and, and_true, reduceCtorEq, or_false, false_or, or_true, Option.some.injEq, exists_eq_left', Bool.not_true, Bool.not_false, ne_eq, Int.reduceEq, not_true_eq_false, not_false_eq_true, Int.reduceLT, UInt8.reduceLT, UInt8.reduceLE, UInt8.reduceToNat]
      refine loopQ_intro (m := l.length - (i + 2)) (by omega) ?_
      rw [hI]
      refine ⟨i + 2, i + 2, out ++ [(a, (l.take i).drop a, true)], _, rfl, by omega, by omega, by simp; omega, ?_, hg2, by rw [List.map_append]; exact hown2, fun hm => by simp at hm, h0, rfl, ?_, ?_⟩
      · rw [hr, segs_pair hp]
        simp only [place, List.append_assoc, List.cons_append, List.nil_append]
        rw [show a + ((l.take i).drop a).length + 2 = i + 2 by simp; omega, List.drop_take_self]
      · rfl
      · rfl
    | false =>
      simp (maxSteps := 1000000) (disch := omega) only [h0, h3, h4, h5, hlt, hp, len_by hx, Pair_spec hx, add_n, W_seq, W_region, W_cond, W_block, W_skip, W_label, W_exit, W_goto, W_ret, WO_cons, WO_consG, WO_nil, wantedA_eq, wantB, evOp, ev_tmp, ev_const, ev_fn, WN_some, WN_none, updO_some, updO_none, upd_eq,
 ↓reduceIte, Nat.reduceEqDiff, List.nil_append, List.cons_append, List.append_nil, List.map_cons, List.map_nil, env0_zero, env0_succ, env0_nil, Option.map_some, Option.map_none, seqQ_normal, seqQ_ret, seqQ_exit, seqQ_goto, blockQ_normal, blockQ_ret, blockQ_exit, blockQ_goto, condW_bool, loopQ_ret, loopQ_exit, loopQ_goto, endQ_ret, endQ_normal,
 lss_i, leq_i, gtr_i, geq_i, eql_i, neq_i, eql_8, neq_8, lss_8, leq_8, gtr_8, geq_8, eql_s, neq_s, eql_b, neq_b, not_b, by_bys, by_nils, load_cp1, beq_true, beq_false, Bool.not_eq_true', decide_eq_true_eq, decide_eq_false_iff_not, decide_true, decide_false,
 Int.toNat_natCast, Int.ofNat_lt, Int.ofNat_le, Int.natCast_inj, Bool.false_eq_true, Bool.true_eq_false, extPV, List.getElem?_cons_zero, List.getElem?_cons_succ, nilckPV, Int.reduceToNat, Int.reduceLE, true_and, and_true, reduceCtorEq, or_false, false_or, or_true, Option.some.injEq, exists_eq_left', Bool.not_true, Bool.not_false, ne_eq, Int.reduceEq, not_true_eq_false, not_false_eq_true, Int.reduceLT, UInt8.reduceLT, UInt8.reduceLE, UInt8.reduceToNat]
      refine loopQ_intro (m := l.length - (i + 1)) (by omega) ?_
      rw [hI]
      exact ⟨i + 1, a, out, v, rfl, by omega, by omega, by omega, by rw [hr, segs_step hp hlt, take_drop_snoc hai hlt], hg, hown, hnil, h0, h3, h4, rfl⟩
  · obtain rfl : i = l.length := by omega
    rw [segs_end (Nat.le_refl _), List.take_length] at hr
    by_cases hal : a < l.length
    · have hmid := dropB_by (i := a) hx
      have hxs : ∃ t, x = .bys t l := by
        rcases by_cases' hx with ⟨rfl, rfl⟩ | h
        · simp at hal
        · exact h
      obtain ⟨t, rfl⟩ := hxs
      have happ := appV_own (u := lnV (a, l.drop a, false)) (t := .own s.toks.length) hown.tok1 (by simp [room]; omega)
      obtain ⟨hg2, hown2⟩ := Own.app (ys := out.map lnV ++ [lnV (a, l.drop a, false)]) hg.tok1 hown.tok1
      have hlit : ∀ z, litFill 3 (List.replicate 1 z) [(0, .agg [.int .i64 (a : Int), (PV.bys t l).dropB a, .bool false])] = some [lnV (a, l.drop a, false)] := fun z => lit1 rfl rfl
      simp (maxSteps := 1000000) (disch := omega) only [h0, h3, h4, h5, hal, hlt, len_by hx, slc_lo hx, build3 Leaf_int (Leaf_by hmid) Leaf_bool, hlit, freshT_eq, happ, W_seq, W_region, W_cond, W_block, W_skip, W_label, W_exit, W_goto, W_ret, WO_cons, WO_consG, WO_nil, wantedA_eq, wantB, evOp, ev_tmp, ev_const, ev_fn, WN_some, WN_none, updO_some, updO_none, upd_eq,
 ↓reduceIte, Nat.reduceEqDiff, List.nil_append, List.cons_append, List.append_nil, List.map_cons, List.map_nil, env0_zero, env0_succ, env0_nil, Option.map_some, Option.map_none, seqQ_normal, seqQ_ret, seqQ_exit, seqQ_goto, blockQ_normal, blockQ_ret, blockQ_exit, blockQ_goto, condW_bool, loopQ_ret, loopQ_exit, loopQ_goto, endQ_ret, endQ_normal,
 lss_i, leq_i, gtr_i, geq_i, eql_i, neq_i, eql_8, neq_8, lss_8, leq_8, gtr_8, geq_8, eql_s, neq_s, eql_b, neq_b, not_b, by_bys, by_nils, load_cp1, beq_true, beq_false, Bool.not_eq_true', decide_eq_true_eq, decide_eq_false_iff_not, decide_true, decide_false,
 Int.toNat_natCast, Int.ofNat_lt, Int.ofNat_le, Int.natCast_inj, Bool.false_eq_true, Bool.true_eq_false, extPV, List.getElem?_cons_zero, List.getElem?_cons_succ, nilckPV, Int.reduceToNat, Int.reduceLE, true_and, and_true, reduceCtorEq, or_false, false_or, or_true, Option.some.injEq, exists_eq_left', Bool.not_true, Bool.not_false, ne_eq, Int.reduceEq, not_true_eq_false, not_false_eq_true, Int.reduceLT, UInt8.reduceLT, UInt8.reduceLE, UInt8.reduceToNat]
      have hne : l.drop a ≠ [] := fun h => by
        have := congrArg List.length h
        simp at this; omega
      rw [if_neg hne] at hr
      simp only [place] at hr
      rw [hr, List.map_append]
      exact ⟨_, rfl, leave_own hg2 hown2 (fun hm => by simp at hm)⟩
    · simp (maxSteps := 1000000) (disch := omega) only [h0, h3, h4, h5, hal, hlt, len_by hx, W_seq, W_region, W_cond, W_block, W_skip, W_label, W_exit, W_goto, W_ret, WO_cons, WO_consG, WO_nil, wantedA_eq, wantB, evOp, ev_tmp, ev_const, ev_fn, WN_some, WN_none, updO_some, updO_none, upd_eq,
 ↓reduceIte, Nat.reduceEqDiff, List.nil_append, List.cons_append, List.append_nil, List.map_cons, List.map_nil, env0_zero, env0_succ, env0_nil, Option.map_some, Option.map_none, seqQ_normal, seqQ_ret, seqQ_exit, seqQ_goto, blockQ_normal, blockQ_ret, blockQ_exit, blockQ_goto, condW_bool, loopQ_ret, loopQ_exit, loopQ_goto, endQ_ret, endQ_normal,
 lss_i, leq_i, gtr_i, geq_i, eql_i, neq_i, eql_8, neq_8, lss_8, leq_8, gtr_8, geq_8, eql_s, neq_s, eql_b, neq_b, not_b, by_bys, by_nils, load_cp1, beq_true, beq_false, Bool.not_eq_true', decide_eq_true_eq, decide_eq_false_iff_not, decide_true, decide_false,
 Int.toNat_natCast, Int.ofNat_lt, Int.ofNat_le, Int.natCast_inj, Bool.false_eq_true, Bool.true_eq_false, extPV, List.getElem?_cons_zero, List.getElem?_cons_succ, nilckPV, Int.reduceToNat, Int.reduceLE, true_and, and_true, reduceCtorEq, or_false, false_or, or_true, Option.some.injEq, exists_eq_left', Bool.not_true, Bool.not_false, ne_eq, Int.reduceEq, not_true_eq_false, not_false_eq_true, Int.reduceLT, UInt8.reduceLT, UInt8.reduceLE, UInt8.reduceToNat]
      rw [List.drop_of_length_le (by omega)] at hr
      simp only [if_true, place, List.append_nil] at hr
      rw [hr]
      exact ⟨v, by rcases hown with ⟨rfl, _⟩ | ⟨i, rfl, _⟩ <;> rfl, leave_own hg hown hnil⟩
theorem Lines_spec {x : PV} {l : List UInt8} (hx : x.by = some l) (hl : l.length ≤ 1000000) : call prog (.fn 8 []) [x] st = some (newSl st 3 ((refLines l).map lnV), newS st ((refLines l).map lnV).isEmpty) := Lines_big hx (by omega)
end Go.Ab

/-
  Lines of a written header: the plain law.
-/
namespace Go.Ab
set_option linter.unusedVariables false
set_option linter.unusedSimpArgs false
variable {st s : St} {e : Env}

theorem segs_clean : ∀ (y rest acc : List UInt8), (∀ c ∈ y, c ≠ 13) → segs (y ++ 13 :: 10 :: rest) acc = (acc ++ y, true) :: segs rest [] := by
  intro y
  induction y with
  | nil => intro rest acc _; simp [segs]
  | cons c r ih =>
    intro rest acc h
    have hc : c ≠ 13 := h c (by simp)
    have h2 := ih rest (acc ++ [c]) (fun d hd => h d (by simp [hd]))
    cases r with
    | nil => 
      simp only [List.nil_append, List.cons_append] at h2 ⊢
      simp only [segs, hc, false_and, if_false]
      simp [segs]
    | cons d r =>
      simp only [List.cons_append] at h2 ⊢
      rw [segs, if_neg (by simp [hc]), h2]
      simp

theorem segs_all : ∀ (ps : List (List UInt8)), (∀ p ∈ ps, ∀ c ∈ p, c ≠ 13) → segs (ps.flatMap crl2 ++ [13, 10]) [] = ps.map (fun p => (p, true)) ++ [([], true)] := by
  intro ps
  induction ps with
  | nil => intro _; simp [segs]
  | cons p r ih =>
    intro h
    have := segs_clean p (r.flatMap crl2 ++ [13, 10]) [] (h p (by simp))
    simp only [List.flatMap_cons, crl2, List.append_assoc, List.cons_append, List.nil_append, List.map_cons] at this ih ⊢
    rw [this]
    rw [ih (fun q hq => h q (by simp [hq]))]

theorem plc_none {l : List UInt8} {f : Nat} : ∀ m, plc l f m = -1 → ∀ k, k < m → f ≤ k → l.getD k 0 ≠ 32 := by
  intro m
  induction m with
  | zero => intro _ k hk; omega
  | succ m ih =>
    intro h k hk hf hb
    rw [plc_succ] at h
    have hb1 := plc_le (l := l) (f := f) m
    split at h
    · omega
    · rename_i hn
      by_cases hkm : k = m
      · subst hkm
        exact hn ⟨hf, hb, .inr (by omega)⟩
      · exact ih h k (by omega) hf hb
theorem plc_blank {l : List UInt8} {f : Nat} : ∀ m, 0 ≤ plc l f m → l.getD (plc l f m).toNat 0 = 32 := by
  intro m
  induction m with
  | zero => intro h; simp [plc] at h
  | succ m ih =>
    intro h
    rw [plc_succ] at h ⊢
    split
    · rename_i hc; simp only [Int.toNat_natCast]; exact hc.2.1
    · rename_i hc; rw [if_neg hc] at h; exact ih h

def noBlank (p : List UInt8) (f : Nat) : Prop := ∀ k, f ≤ k → k ≤ 76 → p.getD k 0 ≠ 32
theorem getD_take {l : List UInt8} {n k : Nat} (h : k < n) : (l.take n).getD k 0 = l.getD k 0 := by simp [List.getD, List.getElem?_take, h]

theorem foldF_good : ∀ (n : Nat) (l : List UInt8) (f : Nat), l.length ≤ n → 1 ≤ f → f ≤ 77 → ∀ p ∈ foldF n l f, 76 < p.length → (p <+: l ∧ noBlank p f) ∨ (p.getD 0 0 = 32 ∧ noBlank p 1) := by
  intro n
  induction n with
  | zero =>
    intro l f hn _ _ p hp h76
    simp only [foldF, List.mem_singleton] at hp
    subst hp; omega
  | succ n ih =>
    intro l f hn hf1 hf2 p hp h76
    simp only [foldF] at hp
    by_cases hl : 76 < l.length
    · rw [if_pos hl] at hp
      have hple := plc_le (l := l) (f := f) l.length
      by_cases hneg : plc l f l.length < 0
      · rw [if_pos hneg] at hp
        simp only [List.mem_singleton] at hp
        rw [hp]
        exact .inl ⟨List.prefix_rfl, fun k h1 h2 => plc_none l.length (by omega) k (by omega) h1⟩
      · rw [if_neg hneg] at hp
        obtain ⟨pn, hpn⟩ : ∃ pn : Nat, plc l f l.length = (pn : Int) := ⟨(plc l f l.length).toNat, by omega⟩
        have hbk := plc_blank (l := l) (f := f) l.length (by omega)
        rw [hpn, Int.toNat_natCast] at hp hbk
        rw [hpn] at hple
        have hfp : f ≤ pn := by have := hple.2.2 (by omega); omega
        rcases List.mem_cons.1 hp with rfl | hp
        · refine .inl ⟨List.take_prefix _ _, fun k h1 h2 => ?_⟩
          have hlen : (l.take pn).length = pn := by simp; omega
          rw [hlen] at h76
          rw [getD_take (by omega)]
          have h77 : plc l f 77 = -1 := by
            have hb := plc_le (l := l) (f := f) 77
            by_cases h0 : 0 ≤ plc l f 77
            · have := plc_stay h0 (l.length - 77)
              rw [show 77 + (l.length - 77) = l.length by omega, hpn] at this
              omega
            · omega
          exact plc_none 77 h77 k (by omega) h1
        · rcases ih (l.drop pn) 1 (by simp; omega) (by omega) (by omega) p hp h76 with ⟨h1, h2⟩ | h1
          · refine .inr ⟨?_, h2⟩
            obtain ⟨r, hr⟩ := h1
            have : (l.drop pn).getD 0 0 = p.getD 0 0 := by
              rw [← hr]
              simp only [List.getD]
              rw [List.getElem?_append_left (by omega)]
            rw [← this, getD_drop0]; exact hbk
          · exact .inr h1
    · rw [if_neg hl] at hp
      simp only [List.mem_singleton] at hp
      subst hp; omega

/-- A line that is too long has no place to be folded at. -/
def goodP (p : List UInt8) : Prop := 76 < p.length → (p.getD 0 0 = 32 ∧ noBlank p 1) ∨ (p.getD 0 0 ≠ 32 ∧ ∃ n, n < p.length ∧ n ≤ 64 ∧ p.getD n 0 = 58 ∧ (∀ j, j < n → p.getD j 0 ≠ 58) ∧ noBlank p (n + 3))

theorem nameC_ne {c : UInt8} (h : nameC c = true) : c ≠ 32 ∧ c ≠ 58 ∧ c ≠ 13 := by
  simp only [nameC, Bool.and_eq_true, Bool.not_eq_true', decide_eq_false_iff_not] at h
  refine ⟨?_, h.2, ?_⟩
  · rintro rfl; exact h.1.1 (by decide)
  · rintro rfl; exact h.1.1 (by decide)
theorem valC_ne {c : UInt8} (h : valC c = true) : c ≠ 13 := by
  rintro rfl; revert h; decide

theorem line_clean {f : Fld} (h : okFd f = true) : ∀ c ∈ lineOf f, c ≠ 13 := by
  intro c hc
  simp only [okFd, nameB, valB, Bool.and_eq_true, List.all_eq_true] at h
  simp only [lineOf, List.mem_append, List.mem_singleton] at hc
  rcases hc with (hc | rfl) | hc
  · exact (nameC_ne (h.1.2 c hc)).2.2
  · decide
  · split at hc
    · cases hc
    · rcases List.mem_cons.1 hc with rfl | hc
      · decide
      · exact valC_ne (h.2.1.1 c hc)
theorem piece_clean {f : Fld} (h : okFd f = true) : ∀ p ∈ piecesOf f, ∀ c ∈ p, c ≠ 13 := by
  intro p hp c hc
  have hfl := foldF_flat (lineOf f).length (lineOf f) (f.1.length + 3)
  refine line_clean h c ?_
  rw [← hfl]
  exact List.mem_flatten.2 ⟨p, hp, hc⟩

theorem pieces_good {f : Fld} (h : okFd f = true) : ∀ p ∈ piecesOf f, goodP p := by
  intro p hp h76
  have hn := h
  simp only [okFd, nameB, Bool.and_eq_true, decide_eq_true_eq, List.all_eq_true] at hn
  obtain ⟨⟨⟨hn1, hn2⟩, hn3⟩, -⟩ := hn
  rcases foldF_good _ _ _ (Nat.le_refl _) (by omega) (by omega) p hp h76 with ⟨h1, h2⟩ | h1
  · obtain ⟨r, hr⟩ := h1
    have hg : ∀ k, k < p.length → p.getD k 0 = (lineOf f).getD k 0 := fun k hk => by
      rw [← hr]; simp only [List.getD]; rw [List.getElem?_append_left hk]
    have hnm : ∀ k, k < f.1.length → nameC (p.getD k 0) = true := fun k hk => by
      rw [hg k (by omega)]
      have : (lineOf f).getD k 0 = f.1.getD k 0 := by
        unfold lineOf
        simp only [List.getD, List.append_assoc]
        rw [List.getElem?_append_left hk]
      rw [this]
      exact hn3 _ (by simp [List.getD, hk])
    refine .inr ⟨(nameC_ne (hnm 0 (by omega))).1, f.1.length, by omega, hn2, ?_, fun j hj => (nameC_ne (hnm j hj)).2.1, h2⟩
    rw [hg _ (by omega)]
    unfold lineOf
    simp only [List.getD, List.append_assoc]
    rw [List.getElem?_append_right (Nat.le_refl _)]; simp
  · exact .inl h1

/-- The lines of a written header. -/
def allPieces (fs : List Fld) : List (List UInt8) := fs.flatMap piecesOf
theorem flat_pieces : ∀ (fs : List Fld), fs.flatMap fieldBytes = (allPieces fs).flatMap crl2 := by
  intro fs
  induction fs with
  | nil => rfl
  | cons f r ih => simp only [allPieces, List.flatMap_cons, List.flatMap_append] at ih ⊢; rw [ih]; rfl
theorem place_map3 : ∀ (q : List (List UInt8 × Bool)) (a : Nat), (place a q).map (fun z => z.2) = q := by
  intro q
  induction q with
  | nil => intro a; rfl
  | cons x r ih => intro a; obtain ⟨b, w⟩ := x; simp [place, ih]
theorem written_lines {fs : List Fld} (h : fs.all okFd = true) : (refLines (fs.flatMap fieldBytes ++ [13, 10])).map (fun z => z.2) = (allPieces fs).map (fun p => (p, true)) ++ [([], true)] := by
  unfold refLines
  rw [place_map3, flat_pieces, segs_all]
  intro p hp
  obtain ⟨f, hf, hp⟩ := List.mem_flatMap.1 hp
  exact piece_clean (List.all_eq_true.1 h f hf) p hp
theorem lines_good {fs : List Fld} (h : fs.all okFd = true) : ∀ z ∈ refLines (fs.flatMap fieldBytes ++ [13, 10]), goodP z.2.1 := by
  intro z hz
  have hm : z.2 ∈ (refLines (fs.flatMap fieldBytes ++ [13, 10])).map (fun z => z.2) := List.mem_map.2 ⟨z, hz, rfl⟩
  rw [written_lines h] at hm
  rcases List.mem_append.1 hm with hm | hm
  · obtain ⟨p, hp, he⟩ := List.mem_map.1 hm
    obtain ⟨f, hf, hp⟩ := List.mem_flatMap.1 hp
    rw [← he]
    exact pieces_good (List.all_eq_true.1 h f hf) p hp
  · simp only [List.mem_singleton] at hm
    rw [hm]; intro h76; simp at h76
end Go.Ab

/-
  The law FieldsFolds.
-/
namespace Go.Ab
set_option linter.unusedVariables false
set_option linter.unusedSimpArgs false
variable {st s : St} {e : Env}

theorem iaddr_ln {x : PV} {L : List (Nat × List UInt8 × Bool)} {k : IntKind} {c : Int} (h : x.vs 3 = some (L.map lnV)) (h1 : 0 ≤ c) (h2 : c.toNat < L.length) : iaddrPV 3 x (.int k c) = some (.cp [.int .i64 ((L.getD c.toNat (0, [], false)).1 : Int), .bys .no (L.getD c.toNat (0, [], false)).2.1, .bool (L.getD c.toNat (0, [], false)).2.2]) := by
  rw [iaddr_vs h h1 (by simpa using h2)]
  simp [List.getD, h2, lnV, PV.cells]

set_option maxHeartbeats 1000000 in
theorem law_FieldsFolds {x : PV} {fs : List Fld} (hx : x.vs 2 = some (fs.map fV)) (hm : ∀ f ∈ fs, f.1.length ≤ maxLen ∧ f.2.length ≤ maxLen) (hl : fs.length ≤ maxLen) :
    ∃ s', call prog (.fn 154 []) [x] ⟨[], [], [], 0⟩ = some (.bool true, s') := by
  have hML : maxLen ≤ 9223372036854775807 := by decide
  refine law_of_W prog_154 rfl ?_
  unfold F_posthornlaw06_FieldsFolds; dsimp only
  obtain ⟨g, hg, hgb⟩ := Great_spec (st := ⟨[], [], [], 0⟩) hx (fun f hf => ⟨by have := (hm f hf).1; omega, by have := (hm f hf).2; omega⟩) (by omega)
  cases g with
  | true =>
    simp (maxSteps := 1000000) (disch := omega) only [List.length_nil, hg, al06_e, W_seq, W_region, W_cond, W_block, W_skip, W_label, W_exit, W_goto, W_ret, WO_cons, WO_consG, WO_nil, wantedA_eq, wantB, evOp, ev_tmp, ev_const, ev_fn, WN_some, WN_none, updO_some, updO_none, upd_eq,
 ↓reduceIte, Nat.reduceEqDiff, List.nil_append, List.cons_append, List.append_nil, List.map_cons, List.map_nil, env0_zero, env0_succ, env0_nil, Option.map_some, Option.map_none, seqQ_normal, seqQ_ret, seqQ_exit, seqQ_goto, blockQ_normal, blockQ_ret, blockQ_exit, blockQ_goto, condW_bool, loopQ_ret, loopQ_exit, loopQ_goto, endQ_ret, endQ_normal,
 lss_i, leq_i, gtr_i, geq_i, eql_i, neq_i, eql_8, neq_8, lss_8, leq_8, gtr_8, geq_8, eql_s, neq_s, eql_b, neq_b, not_b, by_bys, by_nils, load_cp1, beq_true, beq_false, Bool.not_eq_true', decide_eq_true_eq, decide_eq_false_iff_not, decide_true, decide_false,
 Int.toNat_natCast, Int.ofNat_lt, Int.ofNat_le, Int.natCast_inj, Bool.false_eq_true, Bool.true_eq_false, extPV, List.getElem?_cons_zero, List.getElem?_cons_succ, nilckPV, Int.reduceToNat, Int.reduceLE, true_and, and_true, reduceCtorEq, or_false, false_or, or_true, Option.some.injEq, exists_eq_left', Bool.not_true, Bool.not_false, ne_eq, Int.reduceEq, not_true_eq_false, not_false_eq_true, Int.reduceLT, UInt8.reduceLT, UInt8.reduceLE, UInt8.reduceToNat]
  | false =>
  obtain ⟨hl2, hf⟩ := hgb rfl
  have hW := Write_spec (st := ⟨[], [], [], 0⟩) hx hf (by omega)
  by_cases hz : (writeOf fs).1 = 0
  · obtain ⟨h128, hall, hbs⟩ : fs.length ≤ 128 ∧ fs.all okFd = true ∧ writeOf fs = (0, fs.flatMap fieldBytes ++ [13, 10]) := by
      unfold writeOf at hz ⊢
      split at hz
      · simp at hz
      · rename_i h1
        split at hz
        · rename_i h2
          split at hz
          · simp at hz
          · rename_i h3
            exact ⟨by omega, h2, by rw [if_neg h1, if_pos h2, if_neg h3]⟩
        · simp at hz
    have hgood := lines_good hall
    have hbl := bytes_len hf
    have hbl2 : (fs.flatMap fieldBytes ++ [13, 10]).length ≤ 100000000 := by
      have h3 : fs.length * 30000 ≤ 128 * 30000 := Nat.mul_le_mul_right _ h128
      have h4 : 128 * 30000 = 3840000 := by decide
      rw [List.length_append]; simp only [List.length_cons, List.length_nil]; omega
    obtain ⟨B, hB⟩ : ∃ B, B = fs.flatMap fieldBytes ++ [13, 10] := ⟨_, rfl⟩
    rw [← hB] at hbs hgood hbl2
    rw [hbs] at hW
    simp only [outV, if_true, List.length_nil, St.tok1, List.nil_append] at hW
    have hLn := Lines_big (st := ⟨[], [true], [], 0⟩) (x := .bys (.own 0) B) (l := B) rfl hbl2
    have hne : ((refLines B).map lnV).isEmpty = false := by
      have := congrArg List.length (written_lines hall)
      rw [← hB] at this
      simp at this
      cases hq : refLines B with
      | nil => rw [hq] at this; simp at this
      | cons a r => rfl
    obtain ⟨L, hL⟩ : ∃ L, L = refLines B := ⟨_, rfl⟩
    rw [← hL] at hLn hne hgood
    have hLl : L.length ≤ 100000000 := by
      have h1 := congrArg List.length (written_lines hall)
      rw [← hB, ← hL] at h1
      simp only [List.length_map, List.length_append, List.length_cons, List.length_nil] at h1
      have h2 := crl2_len (allPieces fs)
      rw [← flat_pieces] at h2
      rw [hB, List.length_append] at hbl2
      simp only [List.length_cons, List.length_nil] at hbl2
      omega
    have hvs : (newSl ⟨[], [true], [], 0⟩ 3 (L.map lnV)).vs 3 = some (L.map lnV) := newSl_vs
    obtain ⟨lv, hlv⟩ : ∃ lv, lv = newSl ⟨[], [true], [], 0⟩ 3 (L.map lnV) := ⟨_, rfl⟩
    rw [← hlv] at hLn hvs
    rw [hne] at hLn
    simp only [newS, Bool.false_eq_true, if_false, St.tok1, List.cons_append, List.nil_append] at hLn
    have hlen := len_vs hvs
    rw [List.length_map] at hlen
    simp (maxSteps := 1000000) (disch := omega) only [List.length_nil, hg, hW, hLn, W_seq, W_region, W_cond, W_block, W_skip, W_label, W_exit, W_goto, W_ret, WO_cons, WO_consG, WO_nil, wantedA_eq, wantB, evOp, ev_tmp, ev_const, ev_fn, WN_some, WN_none, updO_some, updO_none, upd_eq,
 ↓reduceIte, Nat.reduceEqDiff, List.nil_append, List.cons_append, List.append_nil, List.map_cons, List.map_nil, env0_zero, env0_succ, env0_nil, Option.map_some, Option.map_none, seqQ_normal, seqQ_ret, seqQ_exit, seqQ_goto, blockQ_normal, blockQ_ret, blockQ_exit, blockQ_goto, condW_bool, loopQ_ret, loopQ_exit, loopQ_goto, endQ_ret, endQ_normal,
 lss_i, leq_i, gtr_i, geq_i, eql_i, neq_i, eql_8, neq_8, lss_8, leq_8, gtr_8, geq_8, eql_s, neq_s, eql_b, neq_b, not_b, by_bys, by_nils, load_cp1, beq_true, beq_false, Bool.not_eq_true', decide_eq_true_eq, decide_eq_false_iff_not, decide_true, decide_false,
 Int.toNat_natCast, Int.ofNat_lt, Int.ofNat_le, Int.natCast_inj, Bool.false_eq_true, Bool.true_eq_false, extPV, List.getElem?_cons_zero, List.getElem?_cons_succ, nilckPV, Int.reduceToNat, Int.reduceLE, true_and, and_true, reduceCtorEq, or_false, false_or, or_true, Option.some.injEq, exists_eq_left', Bool.not_true, Bool.not_false, ne_eq, Int.reduceEq, not_true_eq_false, not_false_eq_true, Int.reduceLT, UInt8.reduceLT, UInt8.reduceLE, UInt8.reduceToNat]
    obtain ⟨I, hI⟩ : ∃ I : Nat → Env → St → Prop, I = fun k e s' => ∃ (i : Nat), k = L.length - i ∧ i ≤ L.length ∧ s' = ⟨[], [true, true], [], 0⟩ ∧ e 5 = lv ∧ e 6 = .int .i64 (i : Int) := ⟨_, rfl⟩
    refine W_loop I ?_ (n := L.length) (by
      rw [hI]
      exact ⟨0, rfl, by omega, rfl, rfl, rfl⟩)
    intro k e s' hh
    rw [hI] at hh
    obtain ⟨i, rfl, hi, rfl, h5, h6⟩ := hh
    by_cases hlt : i < L.length
    · obtain ⟨p, hp⟩ : ∃ p, p = (L.getD i (0, [], false)).2.1 := ⟨_, rfl⟩
      have hpg : goodP p := by
        rw [hp]; exact hgood _ (by simp [List.getD, hlt])
      have hia : iaddrPV 3 lv (.int .i64 (i : Int)) = some (.cp [.int .i64 ((L.getD i (0, [], false)).1 : Int), .bys .no p, .bool (L.getD i (0, [], false)).2.2]) := by
        rw [hp]; exact iaddr_ln hvs (by omega) (by simpa using hlt)
      have hnext : ∀ (E : Env), E 5 = lv → E 6 = .int .i64 ((i + 1 : Nat) : Int) → I (L.length - (i + 1)) E ⟨[], [true, true], [], 0⟩ := by
        intro E k5 k6
        rw [hI]; exact ⟨i + 1, rfl, by omega, rfl, k5, k6⟩
      by_cases h76 : p.length ≤ 76
      · have e1 : (p.length : Int) ≤ 76 := by omega
        simp (maxSteps := 1000000) (disch := omega) only [h5, h6, hlen, hlt, hia, fa_cp, load_cp1', len_by by_bys, e1, add_n, W_seq, W_region, W_cond, W_block, W_skip, W_label, W_exit, W_goto, W_ret, WO_cons, WO_consG, WO_nil, wantedA_eq, wantB, evOp, ev_tmp, ev_const, ev_fn, WN_some, WN_none, updO_some, updO_none, upd_eq,
 ↓reduceIte, Nat.reduceEqDiff, List.nil_append, List.cons_append, List.append_nil, List.map_cons, List.map_nil, env0_zero, env0_succ, env0_nil, Option.map_some, Option.map_none, seqQ_normal, seqQ_ret, seqQ_exit, seqQ_goto, blockQ_normal, blockQ_ret, blockQ_exit, blockQ_goto, condW_bool, loopQ_ret, loopQ_exit, loopQ_goto, endQ_ret, endQ_normal,
 lss_i, leq_i, gtr_i, geq_i, eql_i, neq_i, eql_8, neq_8, lss_8, leq_8, gtr_8, geq_8, eql_s, neq_s, eql_b, neq_b, not_b, by_bys, by_nils, load_cp1, beq_true, beq_false, Bool.not_eq_true', decide_eq_true_eq, decide_eq_false_iff_not, decide_true, decide_false,
 Int.toNat_natCast, Int.ofNat_lt, Int.ofNat_le, Int.natCast_inj, Bool.false_eq_true, Bool.true_eq_false, extPV, List.getElem?_cons_zero, List.getElem?_cons_succ, nilckPV, Int.reduceToNat, Int.reduceLE, true_and, and_true, reduceCtorEq, or_false, false_or, or_true, Option.some.injEq, exists_eq_left', Bool.not_true, Bool.not_false, ne_eq, Int.reduceEq, not_true_eq_false, not_false_eq_true, Int.reduceLT, UInt8.reduceLT, UInt8.reduceLE, UInt8.reduceToNat]
        exact loopQ_intro (m := L.length - (i + 1)) (by omega) (hnext _ h5 rfl)
      · have e1 : ¬ (p.length : Int) ≤ 76 := by omega
        refine W_cut (fun E S => S = ⟨[], [true, true], [], 0⟩ ∧ E 5 = lv ∧ E 6 = .int .i64 (i : Int)) ?_ ?_
        · simp (maxSteps := 1000000) (disch := omega) only [h5, h6, hlen, hlt, W_seq, W_region, W_cond, W_block, W_skip, W_label, W_exit, W_goto, W_ret, WO_cons, WO_consG, WO_nil, wantedA_eq, wantB, evOp, ev_tmp, ev_const, ev_fn, WN_some, WN_none, updO_some, updO_none, upd_eq,
 ↓reduceIte, Nat.reduceEqDiff, List.nil_append, List.cons_append, List.append_nil, List.map_cons, List.map_nil, env0_zero, env0_succ, env0_nil, Option.map_some, Option.map_none, seqQ_normal, seqQ_ret, seqQ_exit, seqQ_goto, blockQ_normal, blockQ_ret, blockQ_exit, blockQ_goto, condW_bool, loopQ_ret, loopQ_exit, loopQ_goto, endQ_ret, endQ_normal,
 lss_i, leq_i, gtr_i, geq_i, eql_i, neq_i, eql_8, neq_8, lss_8, leq_8, gtr_8, geq_8, eql_s, neq_s, eql_b, neq_b, not_b, by_bys, by_nils, load_cp1, beq_true, beq_false, Bool.not_eq_true', decide_eq_true_eq, decide_eq_false_iff_not, decide_true, decide_false,
 Int.toNat_natCast, Int.ofNat_lt, Int.ofNat_le, Int.natCast_inj, Bool.false_eq_true, Bool.true_eq_false, extPV, List.getElem?_cons_zero, List.getElem?_cons_succ, nilckPV, Int.reduceToNat, Int.reduceLE, true_and, and_true, reduceCtorEq, or_false, false_or, or_true, Option.some.injEq, exists_eq_left', Bool.not_true, Bool.not_false, ne_eq, Int.reduceEq, not_true_eq_false, not_false_eq_true, Int.reduceLT, UInt8.reduceLT, UInt8.reduceLE, UInt8.reduceToNat]
        clear h5 h6
        rintro e S ⟨rfl, h5, h6⟩
        rw [W_seq, W_block]
        refine W_cut (fun E S => S = ⟨[], [true, true], [], 0⟩ ∧ E 5 = lv ∧ E 6 = .int .i64 (i : Int) ∧ E 7 = .bys .no p) ?_ ?_
        · simp (maxSteps := 1000000) (disch := omega) only [h5, h6, hia, fa_cp, load_cp1', W_seq, W_region, W_cond, W_block, W_skip, W_label, W_exit, W_goto, W_ret, WO_cons, WO_consG, WO_nil, wantedA_eq, wantB, evOp, ev_tmp, ev_const, ev_fn, WN_some, WN_none, updO_some, updO_none, upd_eq,
 ↓reduceIte, Nat.reduceEqDiff, List.nil_append, List.cons_append, List.append_nil, List.map_cons, List.map_nil, env0_zero, env0_succ, env0_nil, Option.map_some, Option.map_none, seqQ_normal, seqQ_ret, seqQ_exit, seqQ_goto, blockQ_normal, blockQ_ret, blockQ_exit, blockQ_goto, condW_bool, loopQ_ret, loopQ_exit, loopQ_goto, endQ_ret, endQ_normal,
 lss_i, leq_i, gtr_i, geq_i, eql_i, neq_i, eql_8, neq_8, lss_8, leq_8, gtr_8, geq_8, eql_s, neq_s, eql_b, neq_b, not_b, by_bys, by_nils, load_cp1, beq_true, beq_false, Bool.not_eq_true', decide_eq_true_eq, decide_eq_false_iff_not, decide_true, decide_false,
 Int.toNat_natCast, Int.ofNat_lt, Int.ofNat_le, Int.natCast_inj, Bool.false_eq_true, Bool.true_eq_false, extPV, List.getElem?_cons_zero, List.getElem?_cons_succ, nilckPV, Int.reduceToNat, Int.reduceLE, true_and, and_true, reduceCtorEq, or_false, false_or, or_true, Option.some.injEq, exists_eq_left', Bool.not_true, Bool.not_false, ne_eq, Int.reduceEq, not_true_eq_false, not_false_eq_true, Int.reduceLT, UInt8.reduceLT, UInt8.reduceLE, UInt8.reduceToNat]
        clear h5 h6
        rintro e S ⟨rfl, h5, h6, h7⟩
        refine W_cut (fun E S => S = ⟨[], [true, true], [], 0⟩ ∧ E 5 = lv ∧ E 6 = .int .i64 (i : Int) ∧ E 7 = .bys .no p) ?_ ?_
        · simp (maxSteps := 1000000) (disch := omega) only [h5, h6, h7, len_by by_bys, e1, W_seq, W_region, W_cond, W_block, W_skip, W_label, W_exit, W_goto, W_ret, WO_cons, WO_consG, WO_nil, wantedA_eq, wantB, evOp, ev_tmp, ev_const, ev_fn, WN_some, WN_none, updO_some, updO_none, upd_eq,
 ↓reduceIte, Nat.reduceEqDiff, List.nil_append, List.cons_append, List.append_nil, List.map_cons, List.map_nil, env0_zero, env0_succ, env0_nil, Option.map_some, Option.map_none, seqQ_normal, seqQ_ret, seqQ_exit, seqQ_goto, blockQ_normal, blockQ_ret, blockQ_exit, blockQ_goto, condW_bool, loopQ_ret, loopQ_exit, loopQ_goto, endQ_ret, endQ_normal,
 lss_i, leq_i, gtr_i, geq_i, eql_i, neq_i, eql_8, neq_8, lss_8, leq_8, gtr_8, geq_8, eql_s, neq_s, eql_b, neq_b, not_b, by_bys, by_nils, load_cp1, beq_true, beq_false, Bool.not_eq_true', decide_eq_true_eq, decide_eq_false_iff_not, decide_true, decide_false,
 Int.toNat_natCast, Int.ofNat_lt, Int.ofNat_le, Int.natCast_inj, Bool.false_eq_true, Bool.true_eq_false, extPV, List.getElem?_cons_zero, List.getElem?_cons_succ, nilckPV, Int.reduceToNat, Int.reduceLE, true_and, and_true, reduceCtorEq, or_false, false_or, or_true, Option.some.injEq, exists_eq_left', Bool.not_true, Bool.not_false, ne_eq, Int.reduceEq, not_true_eq_false, not_false_eq_true, Int.reduceLT, UInt8.reduceLT, UInt8.reduceLE, UInt8.reduceToNat]
        clear h5 h6 h7
        rintro e S ⟨rfl, h5, h6, h7⟩
        refine W_cut (fun E S => S = ⟨[], [true, true], [], 0⟩ ∧ E 5 = lv ∧ E 6 = .int .i64 (i : Int) ∧ E 7 = .bys .no p ∧ E 8 = .int .i64 ((1 : Nat) : Int)) ?_ ?_
        · simp (maxSteps := 1000000) (disch := omega) only [h5, h6, h7, W_seq, W_region, W_cond, W_block, W_skip, W_label, W_exit, W_goto, W_ret, WO_cons, WO_consG, WO_nil, wantedA_eq, wantB, evOp, ev_tmp, ev_const, ev_fn, WN_some, WN_none, updO_some, updO_none, upd_eq,
 ↓reduceIte, Nat.reduceEqDiff, List.nil_append, List.cons_append, List.append_nil, List.map_cons, List.map_nil, env0_zero, env0_succ, env0_nil, Option.map_some, Option.map_none, seqQ_normal, seqQ_ret, seqQ_exit, seqQ_goto, blockQ_normal, blockQ_ret, blockQ_exit, blockQ_goto, condW_bool, loopQ_ret, loopQ_exit, loopQ_goto, endQ_ret, endQ_normal,
 lss_i, leq_i, gtr_i, geq_i, eql_i, neq_i, eql_8, neq_8, lss_8, leq_8, gtr_8, geq_8, eql_s, neq_s, eql_b, neq_b, not_b, by_bys, by_nils, load_cp1, beq_true, beq_false, Bool.not_eq_true', decide_eq_true_eq, decide_eq_false_iff_not, decide_true, decide_false,
 Int.toNat_natCast, Int.ofNat_lt, Int.ofNat_le, Int.natCast_inj, Bool.false_eq_true, Bool.true_eq_false, extPV, List.getElem?_cons_zero, List.getElem?_cons_succ, nilckPV, Int.reduceToNat, Int.reduceLE, true_and, and_true, reduceCtorEq, or_false, false_or, or_true, Option.some.injEq, exists_eq_left', Bool.not_true, Bool.not_false, ne_eq, Int.reduceEq, not_true_eq_false, not_false_eq_true, Int.reduceLT, UInt8.reduceLT, UInt8.reduceLE, UInt8.reduceToNat]
          rfl
        clear h5 h6 h7
        rintro e S ⟨rfl, h5, h6, h7, h8⟩
        obtain ⟨J, hJ⟩ : ∃ J : Env → St → Prop, J = fun E S => S = ⟨[], [true, true], [], 0⟩ ∧ E 5 = lv ∧ E 6 = .int .i64 (i : Int) ∧ E 7 = .bys .no p ∧ ∃ f0 : Nat, f0 ≤ 77 ∧ noBlank p f0 ∧ E 8 = .int .i64 (f0 : Int) := ⟨_, rfl⟩
        have hi0 : iaddrPV 1 (.bys .no p) (.int .i64 0) = some (.cp [.b8 (p.getD 0 0)]) := iaddr_by by_bys (by omega) (by simp; omega)
        refine W_cut J ?_ ?_
        · rcases hpg (by omega) with ⟨g1, g2⟩ | ⟨g1, n, g2, g3, g4, g5, g6⟩
          · simp (maxSteps := 1000000) (disch := omega) only [h5, h6, h7, h8, hi0, load_cp1, eq_true g1, hJ, W_seq, W_region, W_cond, W_block, W_skip, W_label, W_exit, W_goto, W_ret, WO_cons, WO_consG, WO_nil, wantedA_eq, wantB, evOp, ev_tmp, ev_const, ev_fn, WN_some, WN_none, updO_some, updO_none, upd_eq,
 ↓reduceIte, Nat.reduceEqDiff, List.nil_append, List.cons_append, List.append_nil, List.map_cons, List.map_nil, env0_zero, env0_succ, env0_nil, Option.map_some, Option.map_none, seqQ_normal, seqQ_ret, seqQ_exit, seqQ_goto, blockQ_normal, blockQ_ret, blockQ_exit, blockQ_goto, condW_bool, loopQ_ret, loopQ_exit, loopQ_goto, endQ_ret, endQ_normal,
 lss_i, leq_i, gtr_i, geq_i, eql_i, neq_i, eql_8, neq_8, lss_8, leq_8, gtr_8, geq_8, eql_s, neq_s, eql_b, neq_b, not_b, by_bys, by_nils, load_cp1, beq_true, beq_false, Bool.not_eq_true', decide_eq_true_eq, decide_eq_false_iff_not, decide_true, decide_false,
 Int.toNat_natCast, Int.ofNat_lt, Int.ofNat_le, Int.natCast_inj, Bool.false_eq_true, Bool.true_eq_false, extPV, List.getElem?_cons_zero, List.getElem?_cons_succ, nilckPV, Int.reduceToNat, Int.reduceLE, true_and, and_true, reduceCtorEq, or_false, false_or, or_true, Option.some.injEq, exists_eq_left', Bool.not_true, Bool.not_false, ne_eq, Int.reduceEq, not_true_eq_false, not_false_eq_true, Int.reduceLT, UInt8.reduceLT, UInt8.reduceLE, UInt8.reduceToNat]
            exact ⟨1, by omega, g2, rfl⟩
          · simp (maxSteps := 1000000) (disch := omega) only [h5, h6, h7, h8, hi0, load_cp1, g1, W_seq, W_region, W_cond, W_block, W_skip, W_label, W_exit, W_goto, W_ret, WO_cons, WO_consG, WO_nil, wantedA_eq, wantB, evOp, ev_tmp, ev_const, ev_fn, WN_some, WN_none, updO_some, updO_none, upd_eq,
 ↓reduceIte, Nat.reduceEqDiff, List.nil_append, List.cons_append, List.append_nil, List.map_cons, List.map_nil, env0_zero, env0_succ, env0_nil, Option.map_some, Option.map_none, seqQ_normal, seqQ_ret, seqQ_exit, seqQ_goto, blockQ_normal, blockQ_ret, blockQ_exit, blockQ_goto, condW_bool, loopQ_ret, loopQ_exit, loopQ_goto, endQ_ret, endQ_normal,
 lss_i, leq_i, gtr_i, geq_i, eql_i, neq_i, eql_8, neq_8, lss_8, leq_8, gtr_8, geq_8, eql_s, neq_s, eql_b, neq_b, not_b, by_bys, by_nils, load_cp1, beq_true, beq_false, Bool.not_eq_true', decide_eq_true_eq, decide_eq_false_iff_not, decide_true, decide_false,
 Int.toNat_natCast, Int.ofNat_lt, Int.ofNat_le, Int.natCast_inj, Bool.false_eq_true, Bool.true_eq_false, extPV, List.getElem?_cons_zero, List.getElem?_cons_succ, nilckPV, Int.reduceToNat, Int.reduceLE, true_and, and_true, reduceCtorEq, or_false, false_or, or_true, Option.some.injEq, exists_eq_left', Bool.not_true, Bool.not_false, ne_eq, Int.reduceEq, not_true_eq_false, not_false_eq_true, Int.reduceLT, UInt8.reduceLT, UInt8.reduceLE, UInt8.reduceToNat]
            obtain ⟨II, hII⟩ : ∃ II : Nat → Env → St → Prop, II = fun k E S => ∃ f0 : Nat, k = n + 1 - f0 ∧ 1 ≤ f0 ∧ f0 ≤ n + 1 ∧ S = ⟨[], [true, true], [], 0⟩ ∧ E 5 = lv ∧ E 6 = .int .i64 (i : Int) ∧ E 7 = .bys .no p ∧ E 8 = .int .i64 (f0 : Int) := ⟨_, rfl⟩
            refine W_loop II ?_ (n := n) (by
              rw [hII]
              exact ⟨1, by omega, by omega, by omega, rfl, h5, h6, h7, h8⟩)
            clear h5 h6 h7 h8
            intro k e S hh
            rw [hII] at hh
            obtain ⟨f0, rfl, q1, q2, rfl, h5, h6, h7, h8⟩ := hh
            have hlt3 : f0 < p.length := by omega
            have hif : iaddrPV 1 (.bys .no p) (.int .i64 ((f0 - 1 : Nat) : Int)) = some (.cp [.b8 (p.getD (f0 - 1) 0)]) := by
              have := iaddr_by (k := .i64) (c := ((f0 - 1 : Nat) : Int)) (by_bys (t := .no) (l := p)) (by omega) (by simp; omega)
              simpa using this
            by_cases qn : f0 = n + 1
            · have g4' : p.getD (f0 - 1) 0 = 58 := by rw [qn]; exact g4
              simp (maxSteps := 1000000) (disch := omega) only [h5, h6, h7, h8, len_by by_bys, hlt3, sub_n, Int.reduceToNat, hif, load_cp1, eq_true g4', add_n, hJ, W_seq, W_region, W_cond, W_block, W_skip, W_label, W_exit, W_goto, W_ret, WO_cons, WO_consG, WO_nil, wantedA_eq, wantB, evOp, ev_tmp, ev_const, ev_fn, WN_some, WN_none, updO_some, updO_none, upd_eq,
 ↓reduceIte, Nat.reduceEqDiff, List.nil_append, List.cons_append, List.append_nil, List.map_cons, List.map_nil, env0_zero, env0_succ, env0_nil, Option.map_some, Option.map_none, seqQ_normal, seqQ_ret, seqQ_exit, seqQ_goto, blockQ_normal, blockQ_ret, blockQ_exit, blockQ_goto, condW_bool, loopQ_ret, loopQ_exit, loopQ_goto, endQ_ret, endQ_normal,
 lss_i, leq_i, gtr_i, geq_i, eql_i, neq_i, eql_8, neq_8, lss_8, leq_8, gtr_8, geq_8, eql_s, neq_s, eql_b, neq_b, not_b, by_bys, by_nils, load_cp1, beq_true, beq_false, Bool.not_eq_true', decide_eq_true_eq, decide_eq_false_iff_not, decide_true, decide_false,
 Int.toNat_natCast, Int.ofNat_lt, Int.ofNat_le, Int.natCast_inj, Bool.false_eq_true, Bool.true_eq_false, extPV, List.getElem?_cons_zero, List.getElem?_cons_succ, nilckPV, Int.reduceToNat, Int.reduceLE, true_and, and_true, reduceCtorEq, or_false, false_or, or_true, Option.some.injEq, exists_eq_left', Bool.not_true, Bool.not_false, ne_eq, Int.reduceEq, not_true_eq_false, not_false_eq_true, Int.reduceLT, UInt8.reduceLT, UInt8.reduceLE, UInt8.reduceToNat]
              exact ⟨f0 + 2, by omega, by rw [qn]; exact g6, rfl⟩
            · have g4' : ¬ p.getD (f0 - 1) 0 = 58 := g5 (f0 - 1) (by omega)
              simp (maxSteps := 1000000) (disch := omega) only [h5, h6, h7, h8, len_by by_bys, hlt3, sub_n, Int.reduceToNat, hif, load_cp1, g4', add_n, W_seq, W_region, W_cond, W_block, W_skip, W_label, W_exit, W_goto, W_ret, WO_cons, WO_consG, WO_nil, wantedA_eq, wantB, evOp, ev_tmp, ev_const, ev_fn, WN_some, WN_none, updO_some, updO_none, upd_eq,
 ↓reduceIte, Nat.reduceEqDiff, List.nil_append, List.cons_append, List.append_nil, List.map_cons, List.map_nil, env0_zero, env0_succ, env0_nil, Option.map_some, Option.map_none, seqQ_normal, seqQ_ret, seqQ_exit, seqQ_goto, blockQ_normal, blockQ_ret, blockQ_exit, blockQ_goto, condW_bool, loopQ_ret, loopQ_exit, loopQ_goto, endQ_ret, endQ_normal,
 lss_i, leq_i, gtr_i, geq_i, eql_i, neq_i, eql_8, neq_8, lss_8, leq_8, gtr_8, geq_8, eql_s, neq_s, eql_b, neq_b, not_b, by_bys, by_nils, load_cp1, beq_true, beq_false, Bool.not_eq_true', decide_eq_true_eq, decide_eq_false_iff_not, decide_true, decide_false,
 Int.toNat_natCast, Int.ofNat_lt, Int.ofNat_le, Int.natCast_inj, Bool.false_eq_true, Bool.true_eq_false, extPV, List.getElem?_cons_zero, List.getElem?_cons_succ, nilckPV, Int.reduceToNat, Int.reduceLE, true_and, and_true, reduceCtorEq, or_false, false_or, or_true, Option.some.injEq, exists_eq_left', Bool.not_true, Bool.not_false, ne_eq, Int.reduceEq, not_true_eq_false, not_false_eq_true, Int.reduceLT, UInt8.reduceLT, UInt8.reduceLE, UInt8.reduceToNat]
              refine loopQ_intro (m := n + 1 - (f0 + 1)) (by omega) ?_
              rw [hII]
              exact ⟨f0 + 1, rfl, by omega, by omega, rfl, h5, h6, h7, rfl⟩
        clear h5 h6 h7 h8
        intro e S hj
        rw [hJ] at hj
        obtain ⟨rfl, h5, h6, h7, f0, q1, q2, h8⟩ := hj
        simp (maxSteps := 1000000) (disch := omega) only [h5, h6, h7, h8, W_seq, W_region, W_cond, W_block, W_skip, W_label, W_exit, W_goto, W_ret, WO_cons, WO_consG, WO_nil, wantedA_eq, wantB, evOp, ev_tmp, ev_const, ev_fn, WN_some, WN_none, updO_some, updO_none, upd_eq,
 ↓reduceIte, Nat.reduceEqDiff, List.nil_append, List.cons_append, List.append_nil, List.map_cons, List.map_nil, env0_zero, env0_succ, env0_nil, Option.map_some, Option.map_none, seqQ_normal, seqQ_ret, seqQ_exit, seqQ_goto, blockQ_normal, blockQ_ret, blockQ_exit, blockQ_goto, condW_bool, loopQ_ret, loopQ_exit, loopQ_goto, endQ_ret, endQ_normal,
 lss_i, leq_i, gtr_i, geq_i, eql_i, neq_i, eql_8, neq_8, lss_8, leq_8, gtr_8, geq_8, eql_s, neq_s, eql_b, neq_b, not_b, by_bys, by_nils, load_cp1, beq_true, beq_false, Bool.not_eq_true', decide_eq_true_eq, decide_eq_false_iff_not, decide_true, decide_false,
 Int.toNat_natCast, Int.ofNat_lt, Int.ofNat_le, Int.natCast_inj, Bool.false_eq_true, Bool.true_eq_false, extPV, List.getElem?_cons_zero, List.getElem?_cons_succ, nilckPV, Int.reduceToNat, Int.reduceLE, true_and, and_true, reduceCtorEq, or_false, false_or, or_true, Option.some.injEq, exists_eq_left', Bool.not_true, Bool.not_false, ne_eq, Int.reduceEq, not_true_eq_false, not_false_eq_true, Int.reduceLT, UInt8.reduceLT, UInt8.reduceLE, UInt8.reduceToNat]
        obtain ⟨II, hII⟩ : ∃ II : Nat → Env → St → Prop, II = fun k E S => ∃ q : Nat, k = 77 - q ∧ f0 ≤ q ∧ q ≤ 77 ∧ S = ⟨[], [true, true], [], 0⟩ ∧ E 5 = lv ∧ E 6 = .int .i64 (i : Int) ∧ E 7 = .bys .no p ∧ E 9 = .int .i64 (q : Int) := ⟨_, rfl⟩
        refine W_loop II ?_ (n := 77 - f0) (by
          rw [hII]
          exact ⟨f0, by omega, by omega, by omega, rfl, h5, h6, h7, rfl⟩)
        clear h5 h6 h7 h8
        intro k e S hh
        rw [hII] at hh
        obtain ⟨q, rfl, hfq, hq77, rfl, h5, h6, h7, h9⟩ := hh
        by_cases hq : q ≤ 76
        · have e2 : (q : Int) ≤ 76 := by omega
          have hb := q2 q hfq hq
          have hiq : iaddrPV 1 (.bys .no p) (.int .i64 (q : Int)) = some (.cp [.b8 (p.getD q 0)]) := by
            have := iaddr_by (k := .i64) (c := ((q : Nat) : Int)) (by_bys (t := .no) (l := p)) (by omega) (by simp; omega)
            simpa using this
          simp (maxSteps := 1000000) (disch := omega) only [h5, h6, h7, h9, e2, hiq, load_cp1, hb, add_n, W_seq, W_region, W_cond, W_block, W_skip, W_label, W_exit, W_goto, W_ret, WO_cons, WO_consG, WO_nil, wantedA_eq, wantB, evOp, ev_tmp, ev_const, ev_fn, WN_some, WN_none, updO_some, updO_none, upd_eq,
 ↓reduceIte, Nat.reduceEqDiff, List.nil_append, List.cons_append, List.append_nil, List.map_cons, List.map_nil, env0_zero, env0_succ, env0_nil, Option.map_some, Option.map_none, seqQ_normal, seqQ_ret, seqQ_exit, seqQ_goto, blockQ_normal, blockQ_ret, blockQ_exit, blockQ_goto, condW_bool, loopQ_ret, loopQ_exit, loopQ_goto, endQ_ret, endQ_normal,
 lss_i, leq_i, gtr_i, geq_i, eql_i, neq_i, eql_8, neq_8, lss_8, leq_8, gtr_8, geq_8, eql_s, neq_s, eql_b, neq_b, not_b, by_bys, by_nils, load_cp1, beq_true, beq_false, Bool.not_eq_true', decide_eq_true_eq, decide_eq_false_iff_not, decide_true, decide_false,
 Int.toNat_natCast, Int.ofNat_lt, Int.ofNat_le, Int.natCast_inj, Bool.false_eq_true, Bool.true_eq_false, extPV, List.getElem?_cons_zero, List.getElem?_cons_succ, nilckPV, Int.reduceToNat, Int.reduceLE, true_and, and_true, reduceCtorEq, or_false, false_or, or_true, Option.some.injEq, exists_eq_left', Bool.not_true, Bool.not_false, ne_eq, Int.reduceEq, not_true_eq_false, not_false_eq_true, Int.reduceLT, UInt8.reduceLT, UInt8.reduceLE, UInt8.reduceToNat]
          refine loopQ_intro (m := 77 - (q + 1)) (by omega) ?_
          rw [hII]
          exact ⟨q + 1, rfl, by omega, by omega, rfl, h5, h6, h7, rfl⟩
        · have e2 : ¬ (q : Int) ≤ 76 := by omega
          simp (maxSteps := 1000000) (disch := omega) only [h5, h6, h7, h9, e2, add_n, W_seq, W_region, W_cond, W_block, W_skip, W_label, W_exit, W_goto, W_ret, WO_cons, WO_consG, WO_nil, wantedA_eq, wantB, evOp, ev_tmp, ev_const, ev_fn, WN_some, WN_none, updO_some, updO_none, upd_eq,
 ↓reduceIte, Nat.reduceEqDiff, List.nil_append, List.cons_append, List.append_nil, List.map_cons, List.map_nil, env0_zero, env0_succ, env0_nil, Option.map_some, Option.map_none, seqQ_normal, seqQ_ret, seqQ_exit, seqQ_goto, blockQ_normal, blockQ_ret, blockQ_exit, blockQ_goto, condW_bool, loopQ_ret, loopQ_exit, loopQ_goto, endQ_ret, endQ_normal,
 lss_i, leq_i, gtr_i, geq_i, eql_i, neq_i, eql_8, neq_8, lss_8, leq_8, gtr_8, geq_8, eql_s, neq_s, eql_b, neq_b, not_b, by_bys, by_nils, load_cp1, beq_true, beq_false, Bool.not_eq_true', decide_eq_true_eq, decide_eq_false_iff_not, decide_true, decide_false,
 Int.toNat_natCast, Int.ofNat_lt, Int.ofNat_le, Int.natCast_inj, Bool.false_eq_true, Bool.true_eq_false, extPV, List.getElem?_cons_zero, List.getElem?_cons_succ, nilckPV, Int.reduceToNat, Int.reduceLE, true_and, and_true, reduceCtorEq, or_false, false_or, or_true, Option.some.injEq, exists_eq_left', Bool.not_true, Bool.not_false, ne_eq, Int.reduceEq, not_true_eq_false, not_false_eq_true, Int.reduceLT, UInt8.reduceLT, UInt8.reduceLE, UInt8.reduceToNat]
          exact loopQ_intro (m := L.length - (i + 1)) (by omega) (hnext _ h5 rfl)
    · obtain rfl : i = L.length := by omega
      simp (maxSteps := 1000000) (disch := omega) only [h5, h6, hlen, hlt, al06_e2, W_seq, W_region, W_cond, W_block, W_skip, W_label, W_exit, W_goto, W_ret, WO_cons, WO_consG, WO_nil, wantedA_eq, wantB, evOp, ev_tmp, ev_const, ev_fn, WN_some, WN_none, updO_some, updO_none, upd_eq,
 ↓reduceIte, Nat.reduceEqDiff, List.nil_append, List.cons_append, List.append_nil, List.map_cons, List.map_nil, env0_zero, env0_succ, env0_nil, Option.map_some, Option.map_none, seqQ_normal, seqQ_ret, seqQ_exit, seqQ_goto, blockQ_normal, blockQ_ret, blockQ_exit, blockQ_goto, condW_bool, loopQ_ret, loopQ_exit, loopQ_goto, endQ_ret, endQ_normal,
 lss_i, leq_i, gtr_i, geq_i, eql_i, neq_i, eql_8, neq_8, lss_8, leq_8, gtr_8, geq_8, eql_s, neq_s, eql_b, neq_b, not_b, by_bys, by_nils, load_cp1, beq_true, beq_false, Bool.not_eq_true', decide_eq_true_eq, decide_eq_false_iff_not, decide_true, decide_false,
 Int.toNat_natCast, Int.ofNat_lt, Int.ofNat_le, Int.natCast_inj, Bool.false_eq_true, Bool.true_eq_false, extPV, List.getElem?_cons_zero, List.getElem?_cons_succ, nilckPV, Int.reduceToNat, Int.reduceLE, true_and, and_true, reduceCtorEq, or_false, false_or, or_true, Option.some.injEq, exists_eq_left', Bool.not_true, Bool.not_false, ne_eq, Int.reduceEq, not_true_eq_false, not_false_eq_true, Int.reduceLT, UInt8.reduceLT, UInt8.reduceLE, UInt8.reduceToNat]
  · simp only [outV, hz, if_false] at hW
    simp (maxSteps := 1000000) (disch := omega) only [List.length_nil, hg, hW, hz, al06_e, W_seq, W_region, W_cond, W_block, W_skip, W_label, W_exit, W_goto, W_ret, WO_cons, WO_consG, WO_nil, wantedA_eq, wantB, evOp, ev_tmp, ev_const, ev_fn, WN_some, WN_none, updO_some, updO_none, upd_eq,
 ↓reduceIte, Nat.reduceEqDiff, List.nil_append, List.cons_append, List.append_nil, List.map_cons, List.map_nil, env0_zero, env0_succ, env0_nil, Option.map_some, Option.map_none, seqQ_normal, seqQ_ret, seqQ_exit, seqQ_goto, blockQ_normal, blockQ_ret, blockQ_exit, blockQ_goto, condW_bool, loopQ_ret, loopQ_exit, loopQ_goto, endQ_ret, endQ_normal,
 lss_i, leq_i, gtr_i, geq_i, eql_i, neq_i, eql_8, neq_8, lss_8, leq_8, gtr_8, geq_8, eql_s, neq_s, eql_b, neq_b, not_b, by_bys, by_nils, load_cp1, beq_true, beq_false, Bool.not_eq_true', decide_eq_true_eq, decide_eq_false_iff_not, decide_true, decide_false,
 Int.toNat_natCast, Int.ofNat_lt, Int.ofNat_le, Int.natCast_inj, Bool.false_eq_true, Bool.true_eq_false, extPV, List.getElem?_cons_zero, List.getElem?_cons_succ, nilckPV, Int.reduceToNat, Int.reduceLE, true_and, and_true, reduceCtorEq, or_false, false_or, or_true, Option.some.injEq, exists_eq_left', Bool.not_true, Bool.not_false, ne_eq, Int.reduceEq, not_true_eq_false, not_false_eq_true, Int.reduceLT, UInt8.reduceLT, UInt8.reduceLE, UInt8.reduceToNat]
end Go.Ab

/-
  The program's lines: an iterator.
-/
namespace Go.Ab
set_option linter.unusedVariables false
set_option linter.unusedSimpArgs false
variable {st : St} {e : Env}

theorem segs_index : ∀ (m acc : List UInt8), (Lib.index m [13, 10] = -1 ∧ segs m acc = if acc ++ m = [] then [] else [(acc ++ m, false)]) ∨
    (∃ n : Nat, Lib.index m [13, 10] = n ∧ n + 2 ≤ m.length ∧ segs m acc = (acc ++ m.take n, true) :: segs (m.drop (n + 2)) []) := by
  intro m
  induction m with
  | nil => intro acc; left; simp [Lib.index, segs]
  | cons c m ih =>
    intro acc
    cases m with
    | nil =>
      left
      simp [Lib.index, segs, List.isPrefixOf]
    | cons d r =>
      by_cases h : c = 13 ∧ d = 10
      · right
        obtain ⟨rfl, rfl⟩ := h
        exact ⟨0, by simp [Lib.index, List.isPrefixOf], by simp, by simp [segs]⟩
      · have hp : ([13, 10] : List UInt8).isPrefixOf (c :: d :: r) = false := by
          simp only [List.isPrefixOf, Bool.and_true]
          rw [Bool.eq_false_iff]
          intro hh
          simp only [Bool.and_eq_true, beq_iff_eq] at hh
          exact h ⟨hh.1.symm, hh.2.symm⟩
        have hi : Lib.index (c :: d :: r) [13, 10] = if Lib.index (d :: r) [13, 10] == -1 then -1 else Lib.index (d :: r) [13, 10] + 1 := by
          rw [Lib.index, hp]; simp
        have hs : segs (c :: d :: r) acc = segs (d :: r) (acc ++ [c]) := by simp only [segs]; rw [if_neg h]
        rcases ih (acc ++ [c]) with ⟨h1, h2⟩ | ⟨n, h1, h2, h3⟩
        · left
          refine ⟨by rw [hi, h1]; rfl, ?_⟩
          rw [hs, h2]; simp
        · right
          refine ⟨n + 1, ?_, by simp at h2 ⊢; omega, ?_⟩
          · rw [hi, h1]
            rw [if_neg (by simp <;> omega)]; rfl
          · rw [hs, h3]; simp

/-- What is yielded of a line: its end too. -/
def full (q : Nat × List UInt8 × Bool) : List UInt8 := q.2.1 ++ (if q.2.2 then [13, 10] else [])

theorem segs_take {m : List UInt8} {n : Nat} (h : Lib.index m [13, 10] = n) : m.take (n + 2) = m.take n ++ [13, 10] := by
  induction m generalizing n with
  | nil => simp [Lib.index] at h
  | cons c m ih =>
    rw [Lib.index] at h
    split at h
    · rename_i hp
      obtain rfl : n = 0 := by omega
      match m, hp with
      | [], hp => simp [List.isPrefixOf] at hp
      | d :: r, hp =>
        simp [List.isPrefixOf] at hp
        obtain ⟨rfl, rfl⟩ := hp
        simp
    · split at h
      · omega
      · obtain ⟨k, rfl⟩ : ∃ k, n = k + 1 := ⟨n - 1, by rename_i h1 h2; have := Lib.index_ge m [13, 10]; simp at h2; omega⟩
        have := ih (n := k) (by omega)
        rw [show k + 1 + 2 = (k + 2) + 1 by omega, List.take_succ_cons, this, List.take_succ_cons]; rfl

theorem dlines_spec {x : PV} {l : List UInt8} (hx : x.by = some l) : call prog (.fn 18 []) [x] st = some (.fn 27 [.ptr st.boxes.length 0], { boxes := st.boxes ++ [[x]], toks := st.toks, loops := st.loops, low := min st.low st.boxes.length }) := by
  refine call_of_W prog_18 ?_
  unfold F_dots_lines; dsimp only
  have hc := Leaf_by hx
  have hb : (x.inB st.boxes.length = true ∧ x.cells.all leafOk = true) := ⟨by_inB hx, by rw [hc.1]; simp [hc.2]⟩
  simp (maxSteps := 1000000) (disch := omega) only [by_inB hx, and_self, allocPV, hc.1, hc.2, capOk, List.all_cons, List.all_nil, Bool.and_true, W_seq, W_region, W_cond, W_block, W_skip, W_label, W_exit, W_goto, W_ret, WO_cons, WO_consG, WO_nil, wantedA_eq, wantB, evOp, ev_tmp, ev_const, ev_fn, WN_some, WN_none, updO_some, updO_none, upd_eq,
 ↓reduceIte, Nat.reduceEqDiff, List.nil_append, List.cons_append, List.append_nil, List.map_cons, List.map_nil, env0_zero, env0_succ, env0_nil, Option.map_some, Option.map_none, seqQ_normal, seqQ_ret, seqQ_exit, seqQ_goto, blockQ_normal, blockQ_ret, blockQ_exit, blockQ_goto, condW_bool, loopQ_ret, loopQ_exit, loopQ_goto, endQ_ret, endQ_normal,
 lss_i, leq_i, gtr_i, geq_i, eql_i, neq_i, eql_8, neq_8, lss_8, leq_8, gtr_8, geq_8, eql_s, neq_s, eql_b, neq_b, not_b, by_bys, by_nils, load_cp1, beq_true, beq_false, Bool.not_eq_true', decide_eq_true_eq, decide_eq_false_iff_not, decide_true, decide_false,
 Int.toNat_natCast, Int.ofNat_lt, Int.ofNat_le, Int.natCast_inj, Bool.false_eq_true, Bool.true_eq_false, extPV, List.getElem?_cons_zero, List.getElem?_cons_succ, nilckPV, Int.reduceToNat, Int.reduceLE, true_and, and_true, reduceCtorEq, or_false, false_or, or_true, Option.some.injEq, exists_eq_left', Bool.not_true, Bool.not_false, ne_eq, Int.reduceEq, not_true_eq_false, not_false_eq_true, Int.reduceLT, UInt8.reduceLT, UInt8.reduceLE, UInt8.reduceToNat]
  exact ⟨.fn 27 [.ptr st.boxes.length 0], rfl, by simp [leave, PV.inB, PV.inB.inBAll]⟩

/-- **The iterator**: what holds ahead of all lines, and is handed on by each yield, holds at the end. -/
theorem lines_iter {x : PV} {l : List UInt8} (hx : x.by = some l) (hl : l.length ≤ 1000000) {b k N : Nat} (hN : x.tokLt N = true) {P : List (Nat × List UInt8 × Bool) → St → Prop} {D : St → Prop}
    (hbox : ∀ r s, P r s → s.boxes[b]? = some [x]) (htok : ∀ r s, P r s → P r s.tok1) (hend : ∀ s, P [] s → D s)
    (hY : ∀ q r s v, P (q :: r) s → v.by = some (full q) → v.tokLt N = true → (∃ s', call prog (.yld k) [.int .i64 (q.1 : Int), v] s = some (.bool true, s') ∧ P r s') ∨ (∃ s', call prog (.yld k) [.int .i64 (q.1 : Int), v] s = some (.bool false, s') ∧ D s'))
    (h0 : P (refLines l) { st with low := st.boxes.length }) : ∃ s1, D s1 ∧ call prog (.fn 27 [.ptr b 0]) [.yld k] st = some (leave st s1 (.tup [])) := by
  have key : W prog F_dots_lines_c1.body (env0 ([.yld k] ++ [.ptr b 0])) { st with low := st.boxes.length } (fun xx e1 s1 => (xx = .normal ∨ xx = .ret) ∧ D s1) := by
    obtain ⟨QQ, hQQ⟩ : ∃ QQ : Ex → Env → St → Prop, QQ = fun xx e1 s1 => (xx = .normal ∨ xx = .ret) ∧ D s1 := ⟨_, rfl⟩
    rw [← hQQ]
    unfold F_dots_lines_c1; dsimp only
    simp (maxSteps := 1000000) (disch := omega) only [W_seq, W_region, W_cond, W_block, W_skip, W_label, W_exit, W_goto, W_ret, WO_cons, WO_consG, WO_nil, wantedA_eq, wantB, evOp, ev_tmp, ev_const, ev_fn, WN_some, WN_none, updO_some, updO_none, upd_eq,
 ↓reduceIte, Nat.reduceEqDiff, List.nil_append, List.cons_append, List.append_nil, List.map_cons, List.map_nil, env0_zero, env0_succ, env0_nil, Option.map_some, Option.map_none, seqQ_normal, seqQ_ret, seqQ_exit, seqQ_goto, blockQ_normal, blockQ_ret, blockQ_exit, blockQ_goto, condW_bool, loopQ_ret, loopQ_exit, loopQ_goto, endQ_ret, endQ_normal,
 lss_i, leq_i, gtr_i, geq_i, eql_i, neq_i, eql_8, neq_8, lss_8, leq_8, gtr_8, geq_8, eql_s, neq_s, eql_b, neq_b, not_b, by_bys, by_nils, load_cp1, beq_true, beq_false, Bool.not_eq_true', decide_eq_true_eq, decide_eq_false_iff_not, decide_true, decide_false,
 Int.toNat_natCast, Int.ofNat_lt, Int.ofNat_le, Int.natCast_inj, Bool.false_eq_true, Bool.true_eq_false, extPV, List.getElem?_cons_zero, List.getElem?_cons_succ, nilckPV, Int.reduceToNat, Int.reduceLE, true_and, and_true, reduceCtorEq, or_false, false_or, or_true, Option.some.injEq, exists_eq_left', Bool.not_true, Bool.not_false, ne_eq, Int.reduceEq, not_true_eq_false, not_false_eq_true, Int.reduceLT, UInt8.reduceLT, UInt8.reduceLE, UInt8.reduceToNat]
    obtain ⟨I, hI⟩ : ∃ I : Nat → Env → St → Prop, I = fun n e s => ∃ (a : Nat), n = l.length - a ∧ a ≤ l.length ∧ P (place a (segs (l.drop a) [])) s ∧ e 0 = .yld k ∧ e 1 = .ptr b 0 ∧ e 3 = .int .i64 (a : Int) := ⟨_, rfl⟩
    refine W_loop I ?_ (n := l.length) (by rw [hI]; exact ⟨0, rfl, by omega, h0, rfl, rfl, rfl⟩)
    intro n e s h
    rw [hI] at h
    obtain ⟨a, rfl, ha, hP, e0, e1, e3⟩ := h
    have hb := hbox _ _ hP
    have hld : loadPV s false 1 (.ptr b 0) = some x := by simp [loadPV, hb, readCells]
    by_cases hlt : a < l.length
    · have hd := dropB_by (i := a) hx
      have hlit : lit8Fill (List.replicate 2 0) [(0, .b8 13), (1, .b8 10)] = some [13, 10] := rfl
      have hP1 := htok _ _ hP
      have hb1 := hbox _ _ hP1
      have hld1 : loadPV s.tok1 false 1 (.ptr b 0) = some x := by simp [loadPV, hb1, readCells]
      have htk : s.tok1.toks[s.toks.length]? = some true := by simp [St.tok1]
      have hidx : call prog (.fn 32 []) [x.dropB a, .bys (.own s.toks.length) [13, 10]] s.tok1 = some (.int .i64 (Lib.index (l.drop a) [13, 10]), s.tok1) := by
        rw [call_prim prog_32]
        simp only [List.append_nil, pBytesIndex, hd, by_bys]
        rw [if_pos ⟨by simp; omega, by simp⟩]; rfl
      rcases segs_index (l.drop a) [] with ⟨i1, i2⟩ | ⟨n, i1, i2, i3⟩
      · have hne : ([] : List UInt8) ++ l.drop a ≠ [] := fun h => by
          have := congrArg List.length h
          simp at this; omega
        rw [if_neg hne] at i2
        rw [i2] at hP1
        simp only [place, List.nil_append] at hP1
        simp (maxSteps := 1000000) (disch := omega) only [e0, e1, e3, hld, len_by hx, hlt, slc_lo hx, hlit, freshT_eq, htk, hidx, hld1, i1, Int.reduceNeg, Int.reduceLT, W_seq, W_region, W_cond, W_block, W_skip, W_label, W_exit, W_goto, W_ret, WO_cons, WO_consG, WO_nil, wantedA_eq, wantB, evOp, ev_tmp, ev_const, ev_fn, WN_some, WN_none, updO_some, updO_none, upd_eq,
 ↓reduceIte, Nat.reduceEqDiff, List.nil_append, List.cons_append, List.append_nil, List.map_cons, List.map_nil, env0_zero, env0_succ, env0_nil, Option.map_some, Option.map_none, seqQ_normal, seqQ_ret, seqQ_exit, seqQ_goto, blockQ_normal, blockQ_ret, blockQ_exit, blockQ_goto, condW_bool, loopQ_ret, loopQ_exit, loopQ_goto, endQ_ret, endQ_normal,
 lss_i, leq_i, gtr_i, geq_i, eql_i, neq_i, eql_8, neq_8, lss_8, leq_8, gtr_8, geq_8, eql_s, neq_s, eql_b, neq_b, not_b, by_bys, by_nils, load_cp1, beq_true, beq_false, Bool.not_eq_true', decide_eq_true_eq, decide_eq_false_iff_not, decide_true, decide_false,
 Int.toNat_natCast, Int.ofNat_lt, Int.ofNat_le, Int.natCast_inj, Bool.false_eq_true, Bool.true_eq_false, extPV, List.getElem?_cons_zero, List.getElem?_cons_succ, nilckPV, Int.reduceToNat, Int.reduceLE, true_and, and_true, reduceCtorEq, or_false, false_or, or_true, Option.some.injEq, exists_eq_left', Bool.not_true, Bool.not_false, ne_eq, Int.reduceEq, not_true_eq_false, not_false_eq_true, Int.reduceLT, UInt8.reduceLT, UInt8.reduceLE, UInt8.reduceToNat]
        rcases hY (a, l.drop a, false) [] s.tok1 (x.dropB a) hP1 (by simpa [full] using hd) (dropB_tok hN) with ⟨s', c1, c2⟩ | ⟨s', c1, c2⟩
        · simp (maxSteps := 1000000) (disch := omega) only [c1, W_seq, W_region, W_cond, W_block, W_skip, W_label, W_exit, W_goto, W_ret, WO_cons, WO_consG, WO_nil, wantedA_eq, wantB, evOp, ev_tmp, ev_const, ev_fn, WN_some, WN_none, updO_some, updO_none, upd_eq,
 ↓reduceIte, Nat.reduceEqDiff, List.nil_append, List.cons_append, List.append_nil, List.map_cons, List.map_nil, env0_zero, env0_succ, env0_nil, Option.map_some, Option.map_none, seqQ_normal, seqQ_ret, seqQ_exit, seqQ_goto, blockQ_normal, blockQ_ret, blockQ_exit, blockQ_goto, condW_bool, loopQ_ret, loopQ_exit, loopQ_goto, endQ_ret, endQ_normal,
 lss_i, leq_i, gtr_i, geq_i, eql_i, neq_i, eql_8, neq_8, lss_8, leq_8, gtr_8, geq_8, eql_s, neq_s, eql_b, neq_b, not_b, by_bys, by_nils, load_cp1, beq_true, beq_false, Bool.not_eq_true', decide_eq_true_eq, decide_eq_false_iff_not, decide_true, decide_false,
 Int.toNat_natCast, Int.ofNat_lt, Int.ofNat_le, Int.natCast_inj, Bool.false_eq_true, Bool.true_eq_false, extPV, List.getElem?_cons_zero, List.getElem?_cons_succ, nilckPV, Int.reduceToNat, Int.reduceLE, true_and, and_true, reduceCtorEq, or_false, false_or, or_true, Option.some.injEq, exists_eq_left', Bool.not_true, Bool.not_false, ne_eq, Int.reduceEq, not_true_eq_false, not_false_eq_true, Int.reduceLT, UInt8.reduceLT, UInt8.reduceLE, UInt8.reduceToNat]
          rw [hQQ]; exact ⟨.inr rfl, hend _ c2⟩
        · simp (maxSteps := 1000000) (disch := omega) only [c1, W_seq, W_region, W_cond, W_block, W_skip, W_label, W_exit, W_goto, W_ret, WO_cons, WO_consG, WO_nil, wantedA_eq, wantB, evOp, ev_tmp, ev_const, ev_fn, WN_some, WN_none, updO_some, updO_none, upd_eq,
 ↓reduceIte, Nat.reduceEqDiff, List.nil_append, List.cons_append, List.append_nil, List.map_cons, List.map_nil, env0_zero, env0_succ, env0_nil, Option.map_some, Option.map_none, seqQ_normal, seqQ_ret, seqQ_exit, seqQ_goto, blockQ_normal, blockQ_ret, blockQ_exit, blockQ_goto, condW_bool, loopQ_ret, loopQ_exit, loopQ_goto, endQ_ret, endQ_normal,
 lss_i, leq_i, gtr_i, geq_i, eql_i, neq_i, eql_8, neq_8, lss_8, leq_8, gtr_8, geq_8, eql_s, neq_s, eql_b, neq_b, not_b, by_bys, by_nils, load_cp1, beq_true, beq_false, Bool.not_eq_true', decide_eq_true_eq, decide_eq_false_iff_not, decide_true, decide_false,
 Int.toNat_natCast, Int.ofNat_lt, Int.ofNat_le, Int.natCast_inj, Bool.false_eq_true, Bool.true_eq_false, extPV, List.getElem?_cons_zero, List.getElem?_cons_succ, nilckPV, Int.reduceToNat, Int.reduceLE, true_and, and_true, reduceCtorEq, or_false, false_or, or_true, Option.some.injEq, exists_eq_left', Bool.not_true, Bool.not_false, ne_eq, Int.reduceEq, not_true_eq_false, not_false_eq_true, Int.reduceLT, UInt8.reduceLT, UInt8.reduceLE, UInt8.reduceToNat]
          rw [hQQ]; exact ⟨.inr rfl, c2⟩
      · simp only [List.length_drop] at i2
        have hm := midB_by (i := a) (j := a + n + 2) hx
        have hfull : (l.take (a + n + 2)).drop a = full (a, (l.drop a).take n, true) := by
          simp only [full, if_true]
          rw [List.drop_take, show a + n + 2 - a = n + 2 by omega, segs_take i1]
        rw [i3] at hP1
        simp only [place, List.nil_append] at hP1
        have hlen : ((l.drop a).take n).length = n := by simp; omega
        rw [hlen, List.drop_drop, show a + (n + 2) = a + n + 2 by omega] at hP1
        have hn0 : ¬ ((n : Int) < 0) := by omega
        simp (maxSteps := 1000000) (disch := omega) only [e0, e1, e3, hld, len_by hx, hlt, slc_lo hx, hlit, freshT_eq, htk, hidx, hld1, i1, hn0, add_n, slc_lohi hx, W_seq, W_region, W_cond, W_block, W_skip, W_label, W_exit, W_goto, W_ret, WO_cons, WO_consG, WO_nil, wantedA_eq, wantB, evOp, ev_tmp, ev_const, ev_fn, WN_some, WN_none, updO_some, updO_none, upd_eq,
 ↓reduceIte, Nat.reduceEqDiff, List.nil_append, List.cons_append, List.append_nil, List.map_cons, List.map_nil, env0_zero, env0_succ, env0_nil, Option.map_some, Option.map_none, seqQ_normal, seqQ_ret, seqQ_exit, seqQ_goto, blockQ_normal, blockQ_ret, blockQ_exit, blockQ_goto, condW_bool, loopQ_ret, loopQ_exit, loopQ_goto, endQ_ret, endQ_normal,
 lss_i, leq_i, gtr_i, geq_i, eql_i, neq_i, eql_8, neq_8, lss_8, leq_8, gtr_8, geq_8, eql_s, neq_s, eql_b, neq_b, not_b, by_bys, by_nils, load_cp1, beq_true, beq_false, Bool.not_eq_true', decide_eq_true_eq, decide_eq_false_iff_not, decide_true, decide_false,
 Int.toNat_natCast, Int.ofNat_lt, Int.ofNat_le, Int.natCast_inj, Bool.false_eq_true, Bool.true_eq_false, extPV, List.getElem?_cons_zero, List.getElem?_cons_succ, nilckPV, Int.reduceToNat, Int.reduceLE, true_and, and_true, reduceCtorEq, or_false, false_or, or_true, Option.some.injEq, exists_eq_left', Bool.not_true, Bool.not_false, ne_eq, Int.reduceEq, not_true_eq_false, not_false_eq_true, Int.reduceLT, UInt8.reduceLT, UInt8.reduceLE, UInt8.reduceToNat]
        rcases hY (a, (l.drop a).take n, true) _ s.tok1 (x.midB a (a + n + 2)) hP1 (by rw [hm, hfull]) (midB_tok hN) with ⟨s', c1, c2⟩ | ⟨s', c1, c2⟩
        · simp (maxSteps := 1000000) (disch := omega) only [c1, e3, add_n, W_seq, W_region, W_cond, W_block, W_skip, W_label, W_exit, W_goto, W_ret, WO_cons, WO_consG, WO_nil, wantedA_eq, wantB, evOp, ev_tmp, ev_const, ev_fn, WN_some, WN_none, updO_some, updO_none, upd_eq,
 ↓reduceIte, Nat.reduceEqDiff, List.nil_append, List.cons_append, List.append_nil, List.map_cons, List.map_nil, env0_zero, env0_succ, env0_nil, Option.map_some, Option.map_none, seqQ_normal, seqQ_ret, seqQ_exit, seqQ_goto, blockQ_normal, blockQ_ret, blockQ_exit, blockQ_goto, condW_bool, loopQ_ret, loopQ_exit, loopQ_goto, endQ_ret, endQ_normal,
 lss_i, leq_i, gtr_i, geq_i, eql_i, neq_i, eql_8, neq_8, lss_8, leq_8, gtr_8, geq_8, eql_s, neq_s, eql_b, neq_b, not_b, by_bys, by_nils, load_cp1, beq_true, beq_false, Bool.not_eq_true', decide_eq_true_eq, decide_eq_false_iff_not, decide_true, decide_false,
 Int.toNat_natCast, Int.ofNat_lt, Int.ofNat_le, Int.natCast_inj, Bool.false_eq_true, Bool.true_eq_false, extPV, List.getElem?_cons_zero, List.getElem?_cons_succ, nilckPV, Int.reduceToNat, Int.reduceLE, true_and, and_true, reduceCtorEq, or_false, false_or, or_true, Option.some.injEq, exists_eq_left', Bool.not_true, Bool.not_false, ne_eq, Int.reduceEq, not_true_eq_false, not_false_eq_true, Int.reduceLT, UInt8.reduceLT, UInt8.reduceLE, UInt8.reduceToNat]
          refine loopQ_intro (m := l.length - (a + (n + 2))) (by omega) ?_
          rw [hI]
          exact ⟨a + (n + 2), rfl, by omega, by rw [show a + (n + 2) = a + n + 2 by omega]; exact c2, e0, e1, rfl⟩
        · simp (maxSteps := 1000000) (disch := omega) only [c1, W_seq, W_region, W_cond, W_block, W_skip, W_label, W_exit, W_goto, W_ret, WO_cons, WO_consG, WO_nil, wantedA_eq, wantB, evOp, ev_tmp, ev_const, ev_fn, WN_some, WN_none, updO_some, updO_none, upd_eq,
 ↓reduceIte, Nat.reduceEqDiff, List.nil_append, List.cons_append, List.append_nil, List.map_cons, List.map_nil, env0_zero, env0_succ, env0_nil, Option.map_some, Option.map_none, seqQ_normal, seqQ_ret, seqQ_exit, seqQ_goto, blockQ_normal, blockQ_ret, blockQ_exit, blockQ_goto, condW_bool, loopQ_ret, loopQ_exit, loopQ_goto, endQ_ret, endQ_normal,
 lss_i, leq_i, gtr_i, geq_i, eql_i, neq_i, eql_8, neq_8, lss_8, leq_8, gtr_8, geq_8, eql_s, neq_s, eql_b, neq_b, not_b, by_bys, by_nils, load_cp1, beq_true, beq_false, Bool.not_eq_true', decide_eq_true_eq, decide_eq_false_iff_not, decide_true, decide_false,
 Int.toNat_natCast, Int.ofNat_lt, Int.ofNat_le, Int.natCast_inj, Bool.false_eq_true, Bool.true_eq_false, extPV, List.getElem?_cons_zero, List.getElem?_cons_succ, nilckPV, Int.reduceToNat, Int.reduceLE, true_and, and_true, reduceCtorEq, or_false, false_or, or_true, Option.some.injEq, exists_eq_left', Bool.not_true, Bool.not_false, ne_eq, Int.reduceEq, not_true_eq_false, not_false_eq_true, Int.reduceLT, UInt8.reduceLT, UInt8.reduceLE, UInt8.reduceToNat]
          rw [hQQ]; exact ⟨.inr rfl, c2⟩
    · simp (maxSteps := 1000000) (disch := omega) only [e0, e1, e3, hld, len_by hx, hlt, W_seq, W_region, W_cond, W_block, W_skip, W_label, W_exit, W_goto, W_ret, WO_cons, WO_consG, WO_nil, wantedA_eq, wantB, evOp, ev_tmp, ev_const, ev_fn, WN_some, WN_none, updO_some, updO_none, upd_eq,
 ↓reduceIte, Nat.reduceEqDiff, List.nil_append, List.cons_append, List.append_nil, List.map_cons, List.map_nil, env0_zero, env0_succ, env0_nil, Option.map_some, Option.map_none, seqQ_normal, seqQ_ret, seqQ_exit, seqQ_goto, blockQ_normal, blockQ_ret, blockQ_exit, blockQ_goto, condW_bool, loopQ_ret, loopQ_exit, loopQ_goto, endQ_ret, endQ_normal,
 lss_i, leq_i, gtr_i, geq_i, eql_i, neq_i, eql_8, neq_8, lss_8, leq_8, gtr_8, geq_8, eql_s, neq_s, eql_b, neq_b, not_b, by_bys, by_nils, load_cp1, beq_true, beq_false, Bool.not_eq_true', decide_eq_true_eq, decide_eq_false_iff_not, decide_true, decide_false,
 Int.toNat_natCast, Int.ofNat_lt, Int.ofNat_le, Int.natCast_inj, Bool.false_eq_true, Bool.true_eq_false, extPV, List.getElem?_cons_zero, List.getElem?_cons_succ, nilckPV, Int.reduceToNat, Int.reduceLE, true_and, and_true, reduceCtorEq, or_false, false_or, or_true, Option.some.injEq, exists_eq_left', Bool.not_true, Bool.not_false, ne_eq, Int.reduceEq, not_true_eq_false, not_false_eq_true, Int.reduceLT, UInt8.reduceLT, UInt8.reduceLE, UInt8.reduceToNat]
      obtain rfl : a = l.length := by omega
      rw [hQQ]
      refine ⟨.inl rfl, hend _ ?_⟩
      rw [List.drop_of_length_le (Nat.le_refl _)] at hP
      simpa [segs, place] using hP
  obtain ⟨⟨xx, e1, s1⟩, h1, h2, h3⟩ := key
  refine ⟨s1, h3, ?_⟩
  rw [call_fn prog_27, h1]
  have hr : resOf e1 s1 F_dots_lines_c1.results = some (.tup []) := rfl
  rcases h2 with rfl | rfl <;> simp [finish, hr]
end Go.Ab

/-
  Reading of a header: plain.
-/
namespace Go.Ab
set_option linter.unusedVariables false
set_option linter.unusedSimpArgs false

/-- What is read so far: fields; the one that is read, and where it began; is one read? -/
structure PS where
  done : List Fld
  fld : Fld
  pos : Nat
  op : Bool

def shutP (p : PS) : Option PS :=
  if p.op = true then (if valB (trimOf p.fld.2) = true ∧ p.done.length < 128 then some ⟨p.done ++ [(p.fld.1, trimOf p.fld.2)], (p.fld.1, trimOf p.fld.2), p.pos, false⟩ else none) else some p

/-- A line is taken; else: where what is wrong is. -/
def lineP (p : PS) (a : Nat) (s : List UInt8) : Except Nat PS :=
  if blankC (s.getD 0 0) = true then (if p.op = true then .ok ⟨p.done, (p.fld.1, p.fld.2 ++ s), p.pos, true⟩ else .error a)
  else match shutP p with
    | none => .error p.pos
    | some p' => if 0 ≤ Lib.index s [58] ∧ nameB (s.take (Lib.index s [58]).toNat) = true then .ok ⟨p'.done, (s.take (Lib.index s [58]).toNat, s.drop ((Lib.index s [58]).toNat + 1)), a, true⟩ else .error a

abbrev PRes := List Fld × Nat × (Int × Int)
def parseGo (n : Nat) : List (Nat × List UInt8 × Bool) → PS → PRes
  | [], _ => ([], 0, ((n : Int), 42))
  | q :: r, p =>
    if q.2.2 = false then ([], 0, ((q.1 : Int), 42))
    else if q.2.1 = [] then (match shutP p with | none => ([], 0, ((p.pos : Int), 50)) | some p' => (p'.done, q.1 + 2, (0, 0)))
    else if 998 < q.2.1.length then ([], 0, ((q.1 : Int), 40))
    else match lineP p q.1 q.2.1 with
      | .error a => ([], 0, ((a : Int), 50))
      | .ok p' => parseGo n r p'
def ps0 : PS := ⟨[], ([], []), 0, false⟩
def parseOf (l : List UInt8) : PRes := parseGo l.length (refLines l) ps0

/-! ### What is read -/
structure PInv (n : Nat) (p : PS) : Prop where
  dn : p.done.all okFd = true
  ln : p.done.length ≤ 128
  nm : p.op = true → nameB p.fld.1 = true
  ps : p.pos ≤ n

theorem shutP_inv {n : Nat} {p p' : PS} (h : PInv n p) (hs : shutP p = some p') : PInv n p' ∧ p'.op = false := by
  unfold shutP at hs
  split at hs
  · rename_i ho
    split at hs
    · rename_i hc
      simp only [Option.some.injEq] at hs
      subst hs
      refine ⟨⟨?_, ?_, fun h => (by cases h), h.ps⟩, rfl⟩
      · simp only [List.all_append, h.dn, List.all_cons, List.all_nil, Bool.and_true, Bool.true_and, okFd, h.nm ho, hc.1, Bool.and_self]
      · simp; omega
    · cases hs
  · rename_i ho
    simp only [Option.some.injEq] at hs
    subst hs
    exact ⟨h, by simpa using ho⟩
theorem lineP_inv {n : Nat} {p p' : PS} {a : Nat} {s : List UInt8} (h : PInv n p) (ha : a ≤ n) (hs : lineP p a s = .ok p') : PInv n p' := by
  unfold lineP at hs
  split at hs
  · split at hs
    · rename_i ho
      cases hs
      exact ⟨h.dn, h.ln, fun _ => h.nm ho, h.ps⟩
    · cases hs
  · split at hs
    · cases hs
    · rename_i p1 h1
      have h2 := (shutP_inv h h1).1
      split at hs
      · rename_i hc
        cases hs
        exact ⟨h2.dn, h2.ln, fun _ => hc.2, ha⟩
      · cases hs
theorem lineP_err {n : Nat} {p : PS} {a b : Nat} {s : List UInt8} (h : PInv n p) (ha : a ≤ n) (hs : lineP p a s = .error b) : b ≤ n := by
  unfold lineP at hs
  split at hs
  · split at hs
    · cases hs
    · cases hs; exact ha
  · split at hs
    · cases hs; exact h.ps
    · split at hs
      · cases hs
      · cases hs; exact ha

/-- What an answer says: fields that may be, or a place that is there. -/
def PGood (n : Nat) (r : PRes) : Prop := (r.2.2.2 = 0 ∧ r.2.2.1 = 0 ∧ r.1.all okFd = true ∧ r.1.length ≤ 128 ∧ 2 ≤ r.2.1 ∧ r.2.1 ≤ n + 2) ∨ (r.2.2.2 ≠ 0 ∧ r.1 = [] ∧ r.2.1 = 0 ∧ 0 ≤ r.2.2.1 ∧ r.2.2.1 ≤ (n : Int))
theorem parseGo_good {n : Nat} : ∀ (r : List (Nat × List UInt8 × Bool)) (p : PS), PInv n p → (∀ q ∈ r, q.1 ≤ n) → PGood n (parseGo n r p) := by
  intro r
  induction r with
  | nil => intro p _ _; exact .inr ⟨by simp [parseGo], rfl, rfl, by simp [parseGo], by simp [parseGo]⟩
  | cons q r ih =>
    intro p hp hq
    have hq1 := hq q (by simp)
    simp only [parseGo]
    split
    · exact .inr ⟨by simp, rfl, rfl, by simp, by simp; omega⟩
    · split
      · split
        · exact .inr ⟨by simp, rfl, rfl, by simp, by have := hp.ps; simp; omega⟩
        · rename_i p' h'
          have h2 := (shutP_inv hp h').1
          exact .inl ⟨rfl, rfl, h2.dn, h2.ln, by simp, by simp; omega⟩
      · split
        · exact .inr ⟨by simp, rfl, rfl, by simp, by simp; omega⟩
        · split
          · rename_i a h'
            have := lineP_err hp hq1 h'
            exact .inr ⟨by simp, rfl, rfl, by simp, by simp; omega⟩
          · rename_i p' h'
            exact ih p' (lineP_inv hp hq1 h') (fun q' hq' => hq q' (by simp [hq']))
theorem place_le (l : List UInt8) : ∀ (n a : Nat), l.length - a = n → a ≤ l.length → ∀ q ∈ place a (segs (l.drop a) []), q.1 + q.2.1.length ≤ l.length := by
  intro n
  induction n using Nat.strongRecOn with
  | _ n ih =>
    intro a hn ha q hq
    rcases segs_index (l.drop a) [] with ⟨i1, i2⟩ | ⟨m, i1, i2, i3⟩
    · rw [i2] at hq
      split at hq
      · simp [place] at hq
      · simp [place] at hq
        subst hq
        simp; omega
    · rw [i3] at hq
      simp only [List.length_drop] at i2
      simp only [place, List.nil_append, List.mem_cons] at hq
      rcases hq with rfl | hq
      · simp; omega
      · have hlen : ((l.drop a).take m).length = m := by simp; omega
        rw [hlen, List.drop_drop, show a + (m + 2) = a + m + 2 by omega] at hq
        exact ih (l.length - (a + m + 2)) (by omega) (a + m + 2) rfl (by omega) q hq
theorem refLines_le {l : List UInt8} : ∀ q ∈ refLines l, q.1 + q.2.1.length ≤ l.length := fun q hq => place_le l l.length 0 rfl (by omega) q (by simpa [refLines] using hq)
theorem parseOf_good {l : List UInt8} : PGood l.length (parseOf l) := by
  refine parseGo_good _ _ ⟨rfl, by simp [ps0], fun h => (by cases h), by simp [ps0]⟩ (fun q hq => ?_)
  have := refLines_le q hq
  omega

/-! ### What is written is read -/
theorem foldF_shape : ∀ (n : Nat) (l : List UInt8) (f : Nat), l.length ≤ n → 1 ≤ f → ∃ p0 rest, foldF n l f = p0 :: rest ∧ p0 <+: l ∧ (p0 = l ∨ f ≤ p0.length) ∧ ∀ x ∈ rest, ∃ y, x = 32 :: y := by
  intro n
  induction n with
  | zero => intro l f _ _; exact ⟨l, [], rfl, List.prefix_rfl, .inl rfl, fun x h => (by cases h)⟩
  | succ n ih =>
    intro l f hn hf
    simp only [foldF]
    by_cases h76 : 76 < l.length
    · rw [if_pos h76]
      have hple := plc_le (l := l) (f := f) l.length
      by_cases hneg : plc l f l.length < 0
      · rw [if_pos hneg]
        exact ⟨l, [], rfl, List.prefix_rfl, .inl rfl, fun x h => (by cases h)⟩
      · rw [if_neg hneg]
        obtain ⟨pn, hpn⟩ : ∃ pn : Nat, plc l f l.length = (pn : Int) := ⟨(plc l f l.length).toNat, by omega⟩
        have hbk := plc_blank (l := l) (f := f) l.length (by omega)
        rw [hpn, Int.toNat_natCast] at hbk ⊢
        rw [hpn] at hple
        have hfp : f ≤ pn := by have := hple.2.2 (by omega); omega
        have hpl : pn < l.length := by omega
        refine ⟨l.take pn, foldF n (l.drop pn) 1, rfl, List.take_prefix _ _, .inr (by simp; omega), ?_⟩
        obtain ⟨q0, r0, e1, e2, e3, e4⟩ := ih (l.drop pn) 1 (by simp; omega) (by omega)
        rw [e1]
        intro x hx
        rcases List.mem_cons.1 hx with rfl | hx
        · have hd := drop_getD hpl
          rw [hbk] at hd
          rcases e3 with e3 | e3
          · exact ⟨_, e3.trans hd⟩
          · rw [hd] at e2
            cases x with
            | nil => simp at e3
            | cons c y =>
              rw [List.cons_prefix_cons] at e2
              exact ⟨y, by rw [e2.1]⟩
        · exact e4 x hx
    · rw [if_neg h76]
      exact ⟨l, [], rfl, List.prefix_rfl, .inl rfl, fun x h => (by cases h)⟩

/-- What stands behind a field's colon. -/
def tailOf (f : Fld) : List UInt8 := if f.2 = [] then [] else 32 :: f.2
theorem pieces_shape {f : Fld} : ∃ r0 rest, piecesOf f = (f.1 ++ 58 :: r0) :: rest ∧ r0 ++ rest.flatten = tailOf f ∧ ∀ x ∈ rest, ∃ y, x = 32 :: y := by
  obtain ⟨p0, rest, e1, e2, e3, e4⟩ := foldF_shape (lineOf f).length (lineOf f) (f.1.length + 3) (Nat.le_refl _) (by omega)
  have hl : lineOf f = f.1 ++ 58 :: tailOf f := by simp [lineOf, tailOf]
  have hfl := foldF_flat (lineOf f).length (lineOf f) (f.1.length + 3)
  obtain ⟨r0, h0⟩ : ∃ r0, p0 = f.1 ++ 58 :: r0 := by
    rcases e3 with e3 | e3
    · exact ⟨tailOf f, e3.trans hl⟩
    · obtain ⟨k, hk⟩ : ∃ k, p0.length = f.1.length + 1 + k := ⟨p0.length - f.1.length - 1, by omega⟩
      refine ⟨(tailOf f).take k, ?_⟩
      have := List.prefix_iff_eq_take.1 e2
      rw [this, hk, hl, List.take_append]
      rw [List.take_of_length_le (by omega), show f.1.length + 1 + k - f.1.length = k + 1 by omega, List.take_succ_cons]
  refine ⟨r0, rest, by unfold piecesOf; rw [e1, h0], ?_, e4⟩
  rw [e1, h0, hl] at hfl
  simpa using hfl

theorem blank_name {c : UInt8} (h : nameC c = true) : blankC c = false := by
  have := nameC_ne h
  simp only [blankC, Bool.or_eq_false_iff, decide_eq_false_iff_not]
  refine ⟨this.1, ?_⟩
  rintro rfl; revert h; decide
theorem index_at : ∀ (n r : List UInt8), (∀ c ∈ n, c ≠ 58) → Lib.index (n ++ 58 :: r) [58] = n.length := by
  intro n
  induction n with
  | nil => intro r _; simp [Lib.index, List.isPrefixOf]
  | cons c n ih =>
    intro r h
    have hc : c ≠ 58 := h c (by simp)
    have := ih r (fun d hd => h d (by simp [hd]))
    rw [List.cons_append, Lib.index]
    have hp : ([58] : List UInt8).isPrefixOf (c :: (n ++ 58 :: r)) = false := by
      simp [List.isPrefixOf]; exact fun h => hc h.symm
    rw [hp, this]
    simp <;> omega
theorem ltrim_blanks {s : List UInt8} : ltrim (32 :: s) = ltrim s := by simp [ltrim, blankC]
theorem trim_tail {f : Fld} (h : valB f.2 = true) : trimOf (tailOf f) = f.2 := by
  have ht : trimOf f.2 = f.2 := by
    simp only [valB, Bool.and_eq_true, decide_eq_true_eq] at h; exact h.2
  unfold tailOf
  split
  · rename_i h0; rw [h0]; rfl
  · unfold trimOf at ht ⊢
    rw [ltrim_blanks]; exact ht

theorem go_rest {n : Nat} {tail : List (List UInt8 × Bool)} : ∀ (rest : List (List UInt8)) (a : Nat) (p : PS), (∀ x ∈ rest, ∃ y, x = 32 :: y) → (∀ x ∈ rest, x.length ≤ 998) → p.op = true →
    parseGo n (place a (rest.map (fun x => (x, true)) ++ tail)) p = parseGo n (place (a + (rest.flatMap crl2).length) tail) ⟨p.done, (p.fld.1, p.fld.2 ++ rest.flatten), p.pos, true⟩ := by
  intro rest
  induction rest with
  | nil => intro a p _ _ ho; obtain ⟨d, ⟨f1, f2⟩, q, o⟩ := p; simp only at ho; subst ho; simp
  | cons x r ih =>
    intro a p h1 h2 ho
    obtain ⟨y, rfl⟩ := h1 x (by simp)
    have hx := h2 (32 :: y) (by simp)
    have hlp : lineP p a (32 :: y) = .ok ⟨p.done, (p.fld.1, p.fld.2 ++ 32 :: y), p.pos, true⟩ := by
      simp [lineP, blankC, ho]
    simp only [List.map_cons, List.cons_append, place, parseGo]
    rw [if_neg (by simp), if_neg (by simp), if_neg (by omega), hlp]
    simp only
    rw [ih _ _ (fun z hz => h1 z (by simp [hz])) (fun z hz => h2 z (by simp [hz])) rfl]
    simp only [List.flatMap_cons, crl2, List.length_append, List.flatten_cons, List.append_assoc, List.length_cons, List.length_nil, List.cons_append]
    congr 2
    omega

theorem go_field {n : Nat} {tail : List (List UInt8 × Bool)} {f : Fld} {a : Nat} {p p' : PS} (hf : okFd f = true) (hlg : longF f = false) (hs : shutP p = some p') :
    parseGo n (place a ((piecesOf f).map (fun x => (x, true)) ++ tail)) p = parseGo n (place (a + (fieldBytes f).length) tail) ⟨p'.done, (f.1, tailOf f), a, true⟩ := by
  obtain ⟨r0, rest, e1, e2, e3⟩ := pieces_shape (f := f)
  have hlen : ∀ x ∈ piecesOf f, x.length ≤ 998 := by
    intro x hx
    simp only [longF, List.any_eq_false] at hlg
    have := hlg x hx
    simp only [longX, decide_eq_true_eq] at this
    omega
  simp only [okFd, Bool.and_eq_true] at hf
  have hn := hf.1
  simp only [nameB, Bool.and_eq_true, decide_eq_true_eq, List.all_eq_true] at hn
  have hidx := index_at f.1 r0 (fun c hc => (nameC_ne (hn.2 c hc)).2.1)
  have hb : blankC ((f.1 ++ 58 :: r0).getD 0 0) = false := by
    cases hq : f.1 with
    | nil => rw [hq] at hn; simp at hn
    | cons c m => 
      have := blank_name (hn.2 c (by rw [hq]; simp))
      simpa using this
  have hlp : lineP p a (f.1 ++ 58 :: r0) = .ok ⟨p'.done, (f.1, r0), a, true⟩ := by
    unfold lineP
    rw [hb, hs, hidx]
    simp only [Bool.false_eq_true, if_false, Int.toNat_natCast]
    rw [List.take_left, if_pos ⟨by omega, hf.1⟩]
    have : (f.1 ++ 58 :: r0).drop (f.1.length + 1) = r0 := by
      rw [← List.drop_drop, List.drop_left]; rfl
    rw [this]
  rw [e1] at hlen
  unfold fieldBytes
  rw [e1]
  simp only [List.map_cons, List.cons_append, place, parseGo]
  have h1 := hlen (f.1 ++ 58 :: r0) (by simp)
  rw [if_neg (by simp), if_neg (by simp), if_neg (by omega), hlp]
  simp only
  rw [go_rest rest _ _ e3 (fun x hx => hlen x (by simp [hx])) rfl]
  simp only [List.flatMap_cons, crl2, List.length_append, List.length_cons, List.length_nil, e2]
  congr 2
  omega

theorem go_all {n : Nat} {tail : List (List UInt8 × Bool)} : ∀ (fs : List Fld) (a : Nat) (p p' : PS), fs.all okFd = true → fs.any longF = false → shutP p = some p' → p'.done.length + fs.length ≤ 128 →
    parseGo n (place a ((allPieces fs).map (fun x => (x, true)) ++ ([], true) :: tail)) p = (p'.done ++ fs, a + (fs.flatMap fieldBytes).length + 2, (0, 0)) := by
  intro fs
  induction fs with
  | nil =>
    intro a p p' _ _ hs _
    simp only [allPieces, List.flatMap_nil, List.map_nil, List.nil_append, place, parseGo]
    rw [if_neg (by simp), if_pos trivial, hs]
    simp
  | cons f r ih =>
    intro a p p' h1 h2 hs hl
    simp only [List.all_cons, Bool.and_eq_true] at h1
    simp only [List.any_cons, Bool.or_eq_false_iff] at h2
    simp only [List.length_cons] at hl
    have hv : valB f.2 = true := by
      have := h1.1; simp only [okFd, Bool.and_eq_true] at this; exact this.2
    have hg := go_field (n := n) (tail := (allPieces r).map (fun x => (x, true)) ++ ([], true) :: tail) (a := a) h1.1 h2.1 hs
    simp only [allPieces, List.flatMap_cons, List.map_append, List.append_assoc] at hg ih ⊢
    rw [hg]
    have hsh : shutP ⟨p'.done, (f.1, tailOf f), a, true⟩ = some ⟨p'.done ++ [f], (f.1, f.2), a, false⟩ := by
      unfold shutP
      simp only [trim_tail hv, if_true]
      rw [if_pos ⟨hv, by omega⟩]
    rw [ih _ _ _ h1.2 h2.2 hsh (by simp; omega)]
    simp only [List.append_assoc, List.cons_append, List.nil_append, List.length_append]
    congr 2
    omega

theorem segs_more : ∀ (ps : List (List UInt8)) (more : List UInt8), (∀ p ∈ ps, ∀ c ∈ p, c ≠ 13) → segs (ps.flatMap crl2 ++ 13 :: 10 :: more) [] = ps.map (fun p => (p, true)) ++ ([], true) :: segs more [] := by
  intro ps
  induction ps with
  | nil => intro more _; simp [segs]
  | cons p r ih =>
    intro more h
    have := segs_clean p (r.flatMap crl2 ++ 13 :: 10 :: more) [] (h p (by simp))
    simp only [List.flatMap_cons, crl2, List.append_assoc, List.cons_append, List.nil_append, List.map_cons] at this ih ⊢
    rw [this, ih more (fun q hq => h q (by simp [hq]))]

/-- **What is written is read**, whatever stands behind it. -/
theorem parse_written {fs : List Fld} {more : List UInt8} (h1 : fs.all okFd = true) (h2 : fs.any longF = false) (h3 : fs.length ≤ 128) :
    parseOf (fs.flatMap fieldBytes ++ [13, 10] ++ more) = (fs, (fs.flatMap fieldBytes ++ [13, 10]).length, (0, 0)) := by
  have hcl : ∀ p ∈ allPieces fs, ∀ c ∈ p, c ≠ 13 := by
    intro p hp
    obtain ⟨f, hf, hp⟩ := List.mem_flatMap.1 hp
    exact piece_clean (List.all_eq_true.1 h1 f hf) p hp
  have hs := segs_more (allPieces fs) more hcl
  rw [← flat_pieces] at hs
  unfold parseOf refLines
  have hap : fs.flatMap fieldBytes ++ [13, 10] ++ more = fs.flatMap fieldBytes ++ 13 :: 10 :: more := by simp
  rw [hap, hs, go_all fs 0 ps0 ps0 h1 h2 rfl (by simp [ps0]; omega)]
  simp [ps0]

/-- A writer's answer to fields that may be. -/
theorem write_cases {fs : List Fld} : ((writeOf fs).1 ≠ 0 ∧ (writeOf fs).2 = []) ∨ (fs.length ≤ 128 ∧ fs.all okFd = true ∧ fs.any longF = false ∧ writeOf fs = (0, fs.flatMap fieldBytes ++ [13, 10])) := by
  unfold writeOf
  split
  · exact .inl ⟨by simp, rfl⟩
  · split
    · split
      · exact .inl ⟨by simp, rfl⟩
      · rename_i h1 h2 h3
        exact .inr ⟨by omega, h2, by simpa using h3, rfl⟩
    · exact .inl ⟨by simp, rfl⟩
theorem write_again {fs : List Fld} (h : fs.all okFd = true) (hl : fs.length ≤ 128) : writeOf fs = (40, []) ∨ (fs.any longF = false ∧ writeOf fs = (0, fs.flatMap fieldBytes ++ [13, 10])) := by
  unfold writeOf
  rw [if_neg (by omega), if_pos h]
  split
  · exact .inl rfl
  · rename_i h3
    exact .inr ⟨by simpa using h3, rfl⟩
end Go.Ab

/-
  A field is shut; a line is taken.
-/
namespace Go.Ab
set_option linter.unusedVariables false
set_option linter.unusedSimpArgs false
variable {st st0 S : St} {e : Env} {b : Nat} {d : PV}

def flV (f : Int × Int) : PV := .agg [.int .i64 f.1, .int .i64 f.2]

theorem index_room' : ∀ (a b : List UInt8), 0 ≤ Lib.index a b → Lib.index a b + b.length ≤ a.length := by
  intro a b
  induction a with
  | nil =>
    intro h
    cases b with
    | nil => simp [Lib.index]
    | cons c r => simp [Lib.index] at h
  | cons c r ih =>
    intro h
    by_cases hp : b.isPrefixOf (c :: r) = true
    · have := (List.isPrefixOf_iff_prefix.1 hp).length_le
      rw [Lib.index, if_pos hp]; omega
    · have hp2 : b.isPrefixOf (c :: r) = false := Bool.eq_false_iff.2 hp
      rw [Lib.index, hp2] at h ⊢
      by_cases hq : (Lib.index r b == -1) = true
      · rw [hq] at h; simp at h
      · have hq2 : (Lib.index r b == -1) = false := by simpa using hq
        rw [hq2] at h ⊢
        simp only [Bool.false_eq_true, if_false] at h ⊢
        have hge := Lib.index_ge r b
        have hne : Lib.index r b ≠ -1 := by simpa using hq2
        have := ih (by omega)
        simp only [List.length_cons]; omega
/-- strings.Cut. -/
def cutAt (a b : List UInt8) : PV := if 0 ≤ Lib.index a b then .tup [.str (a.take (Lib.index a b).toNat), .str (a.drop ((Lib.index a b).toNat + b.length)), .bool true] else .tup [.str a, .str [], .bool false]
theorem sCut_spec {a b : List UInt8} (h : a.length < 4294967281) (hb : b.length < 4294967281) : call prog (.fn 135 []) [.str a, .str b] st = some (cutAt a b, st) := by
  refine call_of_W prog_135 ?_
  unfold F_internal_stringslite_Cut; dsimp only
  have hroom := index_room' a b
  by_cases h0 : 0 ≤ Lib.index a b
  · have hr := hroom h0
    obtain ⟨k, hk⟩ : ∃ k : Nat, Lib.index a b = (k : Int) := ⟨(Lib.index a b).toNat, by omega⟩
    rw [hk] at hr
    have hadd : ∀ ek, binPV .add ek (.int .i64 (k : Int)) (.int .i64 (b.length : Int)) = some (.int .i64 ((k + b.length : Nat) : Int)) := fun ek => by
      rw [add_i (by omega) (by omega)]; simp
    have e1 : (0 : Int) ≤ (k : Int) := by omega
    simp (maxSteps := 1000000) (disch := omega) only [strIndex_spec h, hk, e1, len_s, hadd, slc_s_lo, slc_s_hi, W_seq, W_region, W_cond, W_block, W_skip, W_label, W_exit, W_goto, W_ret, WO_cons, WO_consG, WO_nil, wantedA_eq, wantB, evOp, ev_tmp, ev_const, ev_fn, WN_some, WN_none, updO_some, updO_none, upd_eq,
 ↓reduceIte, Nat.reduceEqDiff, List.nil_append, List.cons_append, List.append_nil, List.map_cons, List.map_nil, env0_zero, env0_succ, env0_nil, Option.map_some, Option.map_none, seqQ_normal, seqQ_ret, seqQ_exit, seqQ_goto, blockQ_normal, blockQ_ret, blockQ_exit, blockQ_goto, condW_bool, loopQ_ret, loopQ_exit, loopQ_goto, endQ_ret, endQ_normal,
 lss_i, leq_i, gtr_i, geq_i, eql_i, neq_i, eql_8, neq_8, lss_8, leq_8, gtr_8, geq_8, eql_s, neq_s, eql_b, neq_b, not_b, by_bys, by_nils, load_cp1, beq_true, beq_false, Bool.not_eq_true', decide_eq_true_eq, decide_eq_false_iff_not, decide_true, decide_false,
 Int.toNat_natCast, Int.ofNat_lt, Int.ofNat_le, Int.natCast_inj, Bool.false_eq_true, Bool.true_eq_false, extPV, List.getElem?_cons_zero, List.getElem?_cons_succ, nilckPV, Int.reduceToNat, Int.reduceLE, true_and, and_true, reduceCtorEq, or_false, false_or, or_true, Option.some.injEq, exists_eq_left', Bool.not_true, Bool.not_false, ne_eq, Int.reduceEq, not_true_eq_false, not_false_eq_true, Int.reduceLT, UInt8.reduceLT, UInt8.reduceLE, UInt8.reduceToNat]
    rw [show cutAt a b = .tup [.str (a.take k), .str (a.drop (k + b.length)), .bool true] by simp [cutAt, hk]]
    exact end3 rfl rfl rfl Kp_str Kp_str Kp_bool
  · simp (maxSteps := 1000000) (disch := omega) only [strIndex_spec h, h0, W_seq, W_region, W_cond, W_block, W_skip, W_label, W_exit, W_goto, W_ret, WO_cons, WO_consG, WO_nil, wantedA_eq, wantB, evOp, ev_tmp, ev_const, ev_fn, WN_some, WN_none, updO_some, updO_none, upd_eq,
 ↓reduceIte, Nat.reduceEqDiff, List.nil_append, List.cons_append, List.append_nil, List.map_cons, List.map_nil, env0_zero, env0_succ, env0_nil, Option.map_some, Option.map_none, seqQ_normal, seqQ_ret, seqQ_exit, seqQ_goto, blockQ_normal, blockQ_ret, blockQ_exit, blockQ_goto, condW_bool, loopQ_ret, loopQ_exit, loopQ_goto, endQ_ret, endQ_normal,
 lss_i, leq_i, gtr_i, geq_i, eql_i, neq_i, eql_8, neq_8, lss_8, leq_8, gtr_8, geq_8, eql_s, neq_s, eql_b, neq_b, not_b, by_bys, by_nils, load_cp1, beq_true, beq_false, Bool.not_eq_true', decide_eq_true_eq, decide_eq_false_iff_not, decide_true, decide_false,
 Int.toNat_natCast, Int.ofNat_lt, Int.ofNat_le, Int.natCast_inj, Bool.false_eq_true, Bool.true_eq_false, extPV, List.getElem?_cons_zero, List.getElem?_cons_succ, nilckPV, Int.reduceToNat, Int.reduceLE, true_and, and_true, reduceCtorEq, or_false, false_or, or_true, Option.some.injEq, exists_eq_left', Bool.not_true, Bool.not_false, ne_eq, Int.reduceEq, not_true_eq_false, not_false_eq_true, Int.reduceLT, UInt8.reduceLT, UInt8.reduceLE, UInt8.reduceToNat]
    rw [show cutAt a b = .tup [.str a, .str [], .bool false] by simp [cutAt, h0]]
    exact end3 rfl rfl rfl Kp_str Kp_str Kp_bool
theorem Cut_spec {a b : List UInt8} (h : a.length < 4294967281) (hb : b.length < 4294967281) : call prog (.fn 128 []) [.str a, .str b] st = some (cutAt a b, st) := by
  refine call_of_W prog_128 ?_
  unfold F_strings_Cut; dsimp only
  by_cases h0 : 0 ≤ Lib.index a b
  · have hc : cutAt a b = .tup [.str (a.take (Lib.index a b).toNat), .str (a.drop ((Lib.index a b).toNat + b.length)), .bool true] := by simp [cutAt, h0]
    simp (maxSteps := 1000000) (disch := omega) only [sCut_spec h hb, hc, W_seq, W_region, W_cond, W_block, W_skip, W_label, W_exit, W_goto, W_ret, WO_cons, WO_consG, WO_nil, wantedA_eq, wantB, evOp, ev_tmp, ev_const, ev_fn, WN_some, WN_none, updO_some, updO_none, upd_eq,
 ↓reduceIte, Nat.reduceEqDiff, List.nil_append, List.cons_append, List.append_nil, List.map_cons, List.map_nil, env0_zero, env0_succ, env0_nil, Option.map_some, Option.map_none, seqQ_normal, seqQ_ret, seqQ_exit, seqQ_goto, blockQ_normal, blockQ_ret, blockQ_exit, blockQ_goto, condW_bool, loopQ_ret, loopQ_exit, loopQ_goto, endQ_ret, endQ_normal,
 lss_i, leq_i, gtr_i, geq_i, eql_i, neq_i, eql_8, neq_8, lss_8, leq_8, gtr_8, geq_8, eql_s, neq_s, eql_b, neq_b, not_b, by_bys, by_nils, load_cp1, beq_true, beq_false, Bool.not_eq_true', decide_eq_true_eq, decide_eq_false_iff_not, decide_true, decide_false,
 Int.toNat_natCast, Int.ofNat_lt, Int.ofNat_le, Int.natCast_inj, Bool.false_eq_true, Bool.true_eq_false, extPV, List.getElem?_cons_zero, List.getElem?_cons_succ, nilckPV, Int.reduceToNat, Int.reduceLE, true_and, and_true, reduceCtorEq, or_false, false_or, or_true, Option.some.injEq, exists_eq_left', Bool.not_true, Bool.not_false, ne_eq, Int.reduceEq, not_true_eq_false, not_false_eq_true, Int.reduceLT, UInt8.reduceLT, UInt8.reduceLE, UInt8.reduceToNat]
    exact end3 rfl rfl rfl Kp_str Kp_str Kp_bool
  · have hc : cutAt a b = .tup [.str a, .str [], .bool false] := by simp [cutAt, h0]
    simp (maxSteps := 1000000) (disch := omega) only [sCut_spec h hb, hc, W_seq, W_region, W_cond, W_block, W_skip, W_label, W_exit, W_goto, W_ret, WO_cons, WO_consG, WO_nil, wantedA_eq, wantB, evOp, ev_tmp, ev_const, ev_fn, WN_some, WN_none, updO_some, updO_none, upd_eq,
 ↓reduceIte, Nat.reduceEqDiff, List.nil_append, List.cons_append, List.append_nil, List.map_cons, List.map_nil, env0_zero, env0_succ, env0_nil, Option.map_some, Option.map_none, seqQ_normal, seqQ_ret, seqQ_exit, seqQ_goto, blockQ_normal, blockQ_ret, blockQ_exit, blockQ_goto, condW_bool, loopQ_ret, loopQ_exit, loopQ_goto, endQ_ret, endQ_normal,
 lss_i, leq_i, gtr_i, geq_i, eql_i, neq_i, eql_8, neq_8, lss_8, leq_8, gtr_8, geq_8, eql_s, neq_s, eql_b, neq_b, not_b, by_bys, by_nils, load_cp1, beq_true, beq_false, Bool.not_eq_true', decide_eq_true_eq, decide_eq_false_iff_not, decide_true, decide_false,
 Int.toNat_natCast, Int.ofNat_lt, Int.ofNat_le, Int.natCast_inj, Bool.false_eq_true, Bool.true_eq_false, extPV, List.getElem?_cons_zero, List.getElem?_cons_succ, nilckPV, Int.reduceToNat, Int.reduceLE, true_and, and_true, reduceCtorEq, or_false, false_or, or_true, Option.some.injEq, exists_eq_left', Bool.not_true, Bool.not_false, ne_eq, Int.reduceEq, not_true_eq_false, not_false_eq_true, Int.reduceLT, UInt8.reduceLT, UInt8.reduceLE, UInt8.reduceToNat]
    exact end3 rfl rfl rfl Kp_str Kp_str Kp_bool

/-! ### A reader in a box -/
def rdC (d : PV) (p : PS) : List PV := [d, .str p.fld.1, .str p.fld.2, .int .i64 (p.pos : Int), .bool p.op]
/-- A state: boxes, of which one is b. -/
def rdS (B : List (List PV)) (b : Nat) (cs : List PV) (X : List (List PV)) (T : List Bool) (L : List LoopS) (lo : Nat) : St := ⟨B.set b cs ++ X, T, L, lo⟩
variable {B X : List (List PV)} {T : List Bool} {L : List LoopS} {lo : Nat} {c0 c1 c2 c3 c4 v : PV}
theorem rd_get {cs : List PV} (hb : b < B.length) : (B.set b cs ++ X)[b]? = some cs := by
  rw [List.getElem?_append_left (by simpa using hb)]; simp [hb]
theorem rd_ld0 (hb : b < B.length) : loadPV (rdS B b [c0, c1, c2, c3, c4] X T L lo) false 1 (.ptr b 0) = some c0 := by simp [loadPV, rdS, rd_get hb, readCells]
theorem rd_ld2 (hb : b < B.length) : loadPV (rdS B b [c0, c1, c2, c3, c4] X T L lo) false 1 (.ptr b 2) = some c2 := by simp [loadPV, rdS, rd_get hb, readCells]
theorem rd_ld3 (hb : b < B.length) : loadPV (rdS B b [c0, c1, c2, c3, c4] X T L lo) false 1 (.ptr b 3) = some c3 := by simp [loadPV, rdS, rd_get hb, readCells]
theorem rd_ld4 (hb : b < B.length) : loadPV (rdS B b [c0, c1, c2, c3, c4] X T L lo) false 1 (.ptr b 4) = some c4 := by simp [loadPV, rdS, rd_get hb, readCells]
theorem rd_ldf (hb : b < B.length) : loadPV (rdS B b [c0, c1, c2, c3, c4] X T L lo) true 2 (.ptr b 1) = some (.agg [c1, c2]) := by simp [loadPV, rdS, rd_get hb, readCells]
theorem rd_set {cs cs' : List PV} (hb : b < B.length) : (B.set b cs ++ X).set b cs' = B.set b cs' ++ X := by
  rw [List.set_append_left _ _ (by simpa using hb), List.set_set]
theorem rd_st4 {o : Bool} (hb : b < B.length) : storePV (rdS B b [c0, c1, c2, c3, c4] X T L lo) 1 (.ptr b 4) (.bool o) = some (rdS B b [c0, c1, c2, c3, .bool o] X T L lo) := by
  simp [storePV, rdS, rd_get hb, rd_set hb, PV.cells, PV.inB, leafOk, setCells, hasTok, tokOf]
theorem rd_st3 {n : Int} (hb : b < B.length) : storePV (rdS B b [c0, c1, c2, c3, c4] X T L lo) 1 (.ptr b 3) (.int .i64 n) = some (rdS B b [c0, c1, c2, .int .i64 n, c4] X T L lo) := by
  simp [storePV, rdS, rd_get hb, rd_set hb, PV.cells, PV.inB, leafOk, setCells, hasTok, tokOf]
theorem rd_st2 {s : List UInt8} (hb : b < B.length) : storePV (rdS B b [c0, c1, c2, c3, c4] X T L lo) 1 (.ptr b 2) (.str s) = some (rdS B b [c0, c1, .str s, c3, c4] X T L lo) := by
  simp [storePV, rdS, rd_get hb, rd_set hb, PV.cells, PV.inB, leafOk, setCells, hasTok, tokOf]
theorem rd_stf {s t : List UInt8} (hb : b < B.length) : storePV (rdS B b [c0, c1, c2, c3, c4] X T L lo) 2 (.ptr b 1) (.agg [.str s, .str t]) = some (rdS B b [c0, .str s, .str t, c3, c4] X T L lo) := by
  simp [storePV, rdS, rd_get hb, rd_set hb, PV.cells, PV.inB, PV.inB.inBAll, leafOk, setCells, hasTok, tokOf]
theorem rd_st0 {i : Nat} {xs : List PV} (hb : b < B.length) : storePV (rdS B b [c0, c1, c2, c3, c4] X T L lo) 1 (.ptr b 0) (.sl 2 (.own i) xs) = some (rdS B b [.sl 2 (.own i) xs, c1, c2, c3, c4] X T L (min lo b)) := by
  simp [storePV, rdS, rd_get hb, rd_set hb, PV.cells, PV.inB, leafOk, setCells, hasTok, tokOf]
/-- Boxes behind. -/
theorem rd_alloc {cs z : List PV} : allocPV (rdS B b cs X T L lo) z = (.ptr (B.length + X.length) 0, rdS B b cs (X ++ [z]) T L lo) := by
  simp [allocPV, rdS]
theorem rd_x0 {cs y : List PV} {n m n' m' : Int} {ys : List (List PV)} : storePV (rdS B b cs ([.int .i64 n, .int .i64 m] :: ys) T L lo) 2 (.ptr B.length 0) (.agg [.int .i64 n', .int .i64 m']) = some (rdS B b cs ([.int .i64 n', .int .i64 m'] :: ys) T L lo) := by
  have h1 : (B.set b cs ++ [.int .i64 n, .int .i64 m] :: ys)[B.length]? = some [.int .i64 n, .int .i64 m] := by
    rw [List.getElem?_append_right (by simp)]; simp
  have h2 : ∀ z, (B.set b cs ++ [.int .i64 n, .int .i64 m] :: ys).set B.length z = B.set b cs ++ z :: ys := fun z => by
    rw [List.set_append_right _ _ (by simp)]; simp
  simp [storePV, rdS, h1, h2, PV.cells, PV.inB, PV.inB.inBAll, leafOk, setCells, hasTok, tokOf]
theorem rd_x1 {cs : List PV} {y : List PV} {n m n' m' : Int} {ys : List (List PV)} : storePV (rdS B b cs (y :: [.int .i64 n, .int .i64 m] :: ys) T L lo) 2 (.ptr (B.length + 1) 0) (.agg [.int .i64 n', .int .i64 m']) = some (rdS B b cs (y :: [.int .i64 n', .int .i64 m'] :: ys) T L lo) := by
  have h1 : (B.set b cs ++ y :: [.int .i64 n, .int .i64 m] :: ys)[B.length + 1]? = some [.int .i64 n, .int .i64 m] := by
    rw [List.getElem?_append_right (by simp)]; simp
  have h2 : ∀ z, (B.set b cs ++ y :: [.int .i64 n, .int .i64 m] :: ys).set (B.length + 1) z = B.set b cs ++ y :: z :: ys := fun z => by
    rw [List.set_append_right _ _ (by simp)]; simp
  simp [storePV, rdS, h1, h2, PV.cells, PV.inB, PV.inB.inBAll, leafOk, setCells, hasTok, tokOf]
theorem rd_lx1 {cs : List PV} {y : List PV} {n m : Int} {ys : List (List PV)} : loadPV (rdS B b cs (y :: [.int .i64 n, .int .i64 m] :: ys) T L lo) false 1 (.ptr (B.length + 1) 1) = some (.int .i64 m) := by
  have h1 : (B.set b cs ++ y :: [.int .i64 n, .int .i64 m] :: ys)[B.length + 1]? = some [.int .i64 n, .int .i64 m] := by
    rw [List.getElem?_append_right (by simp)]; simp
  simp [loadPV, rdS, h1, readCells]
theorem rd_lx1a {cs : List PV} {y : List PV} {n m : Int} {ys : List (List PV)} : loadPV (rdS B b cs (y :: [.int .i64 n, .int .i64 m] :: ys) T L lo) true 2 (.ptr (B.length + 1) 0) = some (.agg [.int .i64 n, .int .i64 m]) := by
  have h1 : (B.set b cs ++ y :: [.int .i64 n, .int .i64 m] :: ys)[B.length + 1]? = some [.int .i64 n, .int .i64 m] := by
    rw [List.getElem?_append_right (by simp)]; simp
  simp [loadPV, rdS, h1, readCells]
theorem rd_res {cs : List PV} {n m : Int} {ys : List (List PV)} {k : Nat} (he : e k = .ptr B.length 0) : resOf e (rdS B b cs ([.int .i64 n, .int .i64 m] :: ys) T L lo) [.cell k true 2] = some (flV (n, m)) := by
  have h1 : (B.set b cs ++ [.int .i64 n, .int .i64 m] :: ys)[B.length]? = some [.int .i64 n, .int .i64 m] := by
    rw [List.getElem?_append_right (by simp)]; simp
  simp [resOf, rvAll, rv1, he, loadPV, rdS, h1, readCells, notTup, packRes, flV]

/-- What a reader's call leaves. -/
structure RdStep (st0 S S' : St) (b : Nat) : Prop where
  bx : ∃ cs, cs.length = 5 ∧ S'.boxes = S.boxes.set b cs
  lp : S'.loops = S.loops
  tk : S'.toks.take st0.toks.length = S.toks.take st0.toks.length
  tl : st0.toks.length ≤ S'.toks.length
  lw : min S.low b ≤ S'.low
  lu : S'.low ≤ S.low
/-- A reader. -/
structure RdOK (st0 S : St) (b : Nat) (d : PV) (p : PS) : Prop where
  bx : S.boxes[b]? = some (rdC d p)
  ow : Own st0 S 2 d (p.done.map fV)
  ne : p.done = [] → d = .nils

theorem rd_eq {cs : List PV} (h : S.boxes[b]? = some cs) : S = rdS S.boxes b cs [] S.toks S.loops S.low := by
  obtain ⟨hb, he⟩ := List.getElem?_eq_some_iff.1 h
  have : S.boxes.set b cs = S.boxes := by rw [← he]; simp
  simp [rdS, this]

/-- Behind the call: no token was put into the box. -/
theorem rd_leave0 {cs : List PV} {T' : List Bool} {f : Int × Int} (hb : b < S.boxes.length) (htl : st0.toks.length ≤ S.toks.length) (hT : T'.take S.toks.length = S.toks) (hcs : cs.length = 5) :
    ∃ S', leave S (rdS S.boxes b cs X T' S.loops S.boxes.length) (flV f) = (flV f, S') ∧ RdStep st0 S S' b ∧ S'.boxes = S.boxes.set b cs ∧ S'.toks = S.toks ∧ S'.low = S.low := by
  refine ⟨⟨S.boxes.set b cs, S.toks, S.loops, S.low⟩, ?_, ⟨⟨cs, hcs, rfl⟩, rfl, rfl, htl, Nat.min_le_left _ _, Nat.le_refl _⟩, rfl, rfl, rfl⟩
  have ht : (S.boxes.set b cs ++ X).take S.boxes.length = S.boxes.set b cs := by rw [List.take_append_of_le_length (by simp)]; exact List.take_of_length_le (by simp)
  simp [leave, rdS, flV, PV.inB, PV.inB.inBAll, keepRes, keepVal, keepCells, keepLeaf, ht, hT]
/-- .. a token was put there. -/
theorem rd_leave1 {cs : List PV} {T' : List Bool} {f : Int × Int} (hb : b < S.boxes.length) (htl : st0.toks.length ≤ S.toks.length) (hT : T'.take st0.toks.length = S.toks.take st0.toks.length) (hl : st0.toks.length ≤ T'.length) (hcs : cs.length = 5) (hlo : lo ≤ b) (hlo2 : b ≤ lo) :
    ∃ S', leave S (rdS S.boxes b cs X T' S.loops lo) (flV f) = (flV f, S') ∧ RdStep st0 S S' b ∧ S'.boxes = S.boxes.set b cs ∧ S'.toks = T' ∧ S'.low = min S.low b := by
  obtain rfl : lo = b := by omega
  refine ⟨⟨S.boxes.set lo cs, T', S.loops, min S.low lo⟩, ?_, ⟨⟨cs, hcs, rfl⟩, rfl, hT, hl, Nat.le_refl _, Nat.min_le_left _ _⟩, rfl, rfl, rfl⟩
  have ht : (S.boxes.set lo cs ++ X).take S.boxes.length = S.boxes.set lo cs := by rw [List.take_append_of_le_length (by simp)]; exact List.take_of_length_le (by simp)
  have hn : ¬ S.boxes.length ≤ lo := by omega
  simp [leave, rdS, flV, PV.inB, PV.inB.inBAll, ht, hn]

/-- .. in whatever case. -/
theorem rd_leave {cs : List PV} {T' : List Bool} {f : Int × Int} (hb : b < S.boxes.length) (htl : st0.toks.length ≤ S.toks.length) (hT : T'.take st0.toks.length = S.toks.take st0.toks.length) (hl : st0.toks.length ≤ T'.length) (hcs : cs.length = 5) (h1 : b ≤ lo) (h2 : lo ≤ S.boxes.length) :
    ∃ S', leave S (rdS S.boxes b cs X T' S.loops lo) (flV f) = (flV f, S') ∧ RdStep st0 S S' b ∧ S'.boxes = S.boxes.set b cs ∧
      ((S'.toks = T'.take S.toks.length ∧ S'.low = S.low ∧ lo = S.boxes.length) ∨ (S'.toks = T' ∧ S'.low = min S.low lo ∧ lo < S.boxes.length)) := by
  have ht : (S.boxes.set b cs ++ X).take S.boxes.length = S.boxes.set b cs := by rw [List.take_append_of_le_length (by simp)]; exact List.take_of_length_le (by simp)
  by_cases hlo : lo = S.boxes.length
  · subst hlo
    refine ⟨⟨S.boxes.set b cs, T'.take S.toks.length, S.loops, S.low⟩, ?_, ⟨⟨cs, hcs, rfl⟩, rfl, ?_, ?_, Nat.min_le_left _ _, Nat.le_refl _⟩, rfl, .inl ⟨rfl, rfl, rfl⟩⟩
    · simp [leave, rdS, flV, PV.inB, PV.inB.inBAll, keepRes, keepVal, keepCells, keepLeaf, ht]
    · show (T'.take S.toks.length).take st0.toks.length = _
      rw [List.take_take, Nat.min_eq_left htl]; exact hT
    · show st0.toks.length ≤ (T'.take S.toks.length).length
      simp; omega
  · have hn : ¬ S.boxes.length ≤ lo := by omega
    refine ⟨⟨S.boxes.set b cs, T', S.loops, min S.low lo⟩, ?_, ⟨⟨cs, hcs, rfl⟩, rfl, hT, hl, ?_, Nat.min_le_left _ _⟩, rfl, .inr ⟨rfl, rfl, by omega⟩⟩
    · simp [leave, rdS, flV, PV.inB, PV.inB.inBAll, ht, hn]
    · show min S.low b ≤ min S.low lo
      omega

theorem lit_f {a b : List UInt8} : litFill 2 (List.replicate 1 (.agg [.str [], .str []])) [(0, .agg [.str a, .str b])] = some [fV (a, b)] := rfl
theorem geq_n {n : Nat} {c : Int} {ek : EK} : binPV .geq ek (.int .i64 (n : Int)) (.int .i64 c) = some (.bool (decide (c ≤ (n : Int)))) := geq_i
theorem faP {n k b : Nat} : faddrPV n (.ptr b k) = some (.ptr b (k + n)) := rfl

def shutF (p : PS) : Int × Int := match shutP p with | none => ((p.pos : Int), 50) | some _ => (0, 0)

theorem Own.take {st s s' : St} {esz : Nat} {v : PV} {xs : List PV} (h : Own st s esz v xs) (ht : ∀ i, tokOf v = some i → s'.toks[i]? = s.toks[i]?) : Own st s' esz v xs := by
  rcases h with h | ⟨i, h1, h2, h3⟩
  · exact .inl h
  · exact .inr ⟨i, h1, h2, by rw [ht i (by rw [h1]; rfl)]; exact h3⟩
theorem len_own2 {st s : St} {v : PV} {xs : List PV} (h : Own st s 2 v xs) : lenPV false v = some (.int .i64 (xs.length : Int)) := by
  rcases h with ⟨rfl, rfl⟩ | ⟨i, rfl, _⟩ <;> rfl

theorem shut_spec {p : PS} (h : RdOK st0 S b d p) (htl : st0.toks.length ≤ S.toks.length) (hT : S.toks.take st0.toks.length = st0.toks) (hv : p.fld.2.length ≤ 100000000) (hd : p.done.length ≤ 100000000) :
    ∃ S', call prog (.fn 165 []) [.ptr b 0] S = some (flV (shutF p), S') ∧ RdStep st0 S S' b ∧ ∀ p', shutP p = some p' → ∃ d', RdOK st0 S' b d' p' ∧ (d' = d ∨ S'.low ≤ b) := by
  obtain ⟨hbx, how, hne⟩ := h
  have hb := (List.getElem?_eq_some_iff.1 hbx).1
  have hS : ({ S with low := S.boxes.length } : St) = rdS S.boxes b (rdC d p) [] S.toks S.loops S.boxes.length := by
    have := rd_eq hbx
    rw [rdS] at this
    have h2 : S.boxes = S.boxes.set b (rdC d p) ++ [] := congrArg St.boxes this
    simp only [rdS]; rw [← h2]
  obtain ⟨⟨dn, ⟨n, v⟩, pos, op⟩, hp⟩ : ∃ q, q = p := ⟨p, rfl⟩
  subst hp
  simp only [rdC] at hS hbx how hv hd hne
  cases op with
  | false =>
    -- nothing is read
    have hs : shutP ⟨dn, (n, v), pos, false⟩ = some ⟨dn, (n, v), pos, false⟩ := rfl
    have hf : shutF ⟨dn, (n, v), pos, false⟩ = (0, 0) := rfl
    obtain ⟨S', h1, h2, h3, h4, h5⟩ := rd_leave0 (st0 := st0) (S := S) (b := b) (X := [[.int .i64 0, .int .i64 0]]) (T' := S.toks) (f := (0, 0)) (cs := [d, .str n, .str v, .int .i64 (pos : Int), .bool false]) hb htl (by simp) rfl
    refine ⟨S', call_of_W prog_165 ?_, h2, fun p' hp' => ?_⟩
    · rw [hS]
      unfold F_P_fields_reader_shut; dsimp only
      simp (maxSteps := 1000000) (disch := omega) only [rd_alloc, List.length_nil, Nat.add_zero, Nat.zero_add, List.nil_append, faP, rd_ld4 hb, buildCells, rd_x0 (y := []), W_seq, W_region, W_cond, W_block, W_skip, W_label, W_exit, W_goto, W_ret, WO_cons, WO_consG, WO_nil, wantedA_eq, wantB, evOp, ev_tmp, ev_const, ev_fn, WN_some, WN_none, updO_some, updO_none, upd_eq,
 ↓reduceIte, Nat.reduceEqDiff, List.nil_append, List.cons_append, List.append_nil, List.map_cons, List.map_nil, env0_zero, env0_succ, env0_nil, Option.map_some, Option.map_none, seqQ_normal, seqQ_ret, seqQ_exit, seqQ_goto, blockQ_normal, blockQ_ret, blockQ_exit, blockQ_goto, condW_bool, loopQ_ret, loopQ_exit, loopQ_goto, endQ_ret, endQ_normal,
 lss_i, leq_i, gtr_i, geq_i, eql_i, neq_i, eql_8, neq_8, lss_8, leq_8, gtr_8, geq_8, eql_s, neq_s, eql_b, neq_b, not_b, by_bys, by_nils, load_cp1, beq_true, beq_false, Bool.not_eq_true', decide_eq_true_eq, decide_eq_false_iff_not, decide_true, decide_false,
 Int.toNat_natCast, Int.ofNat_lt, Int.ofNat_le, Int.natCast_inj, Bool.false_eq_true, Bool.true_eq_false, extPV, List.getElem?_cons_zero, List.getElem?_cons_succ, nilckPV, Int.reduceToNat, Int.reduceLE, true_and, and_true, reduceCtorEq, or_false, false_or, or_true, Option.some.injEq, exists_eq_left', Bool.not_true, Bool.not_false, ne_eq, Int.reduceEq, not_true_eq_false, not_false_eq_true, Int.reduceLT, UInt8.reduceLT, UInt8.reduceLE, UInt8.reduceToNat]
      exact ⟨flV (0, 0), rd_res rfl, by rw [hf]; exact h1⟩
    · rw [hs] at hp'
      cases hp'
      exact ⟨d, ⟨by rw [h3]; simp [hb, rdC], how.take (fun i _ => by rw [h4]), hne⟩, .inl rfl⟩
  | true =>
    have hcall : ∀ S : St, call prog (.fn 168 []) [.str v] S = some (.str (trimOf v), S) := fun S => trim_spec hv
    have hval : ∀ S : St, call prog (.fn 158 []) [.str (trimOf v)] S = some (.bool (valB (trimOf v)), S) := fun S => isValue_spec (by have := trimOf_len (l := v); omega)
    have hlen := len_own2 how
    rw [List.length_map] at hlen
    have bad : shutP ⟨dn, (n, v), pos, true⟩ = none → ∃ S', (∀ rv, rv = flV ((pos : Int), 50) → leave S (rdS S.boxes b [d, .str n, .str (trimOf v), .int .i64 (pos : Int), .bool false] [[.int .i64 (pos : Int), .int .i64 50]] S.toks S.loops S.boxes.length) rv = (flV (shutF ⟨dn, (n, v), pos, true⟩), S')) ∧ RdStep st0 S S' b ∧ ∀ p', shutP ⟨dn, (n, v), pos, true⟩ = some p' → ∃ d', RdOK st0 S' b d' p' ∧ (d' = d ∨ S'.low ≤ b) := by
      intro hs
      obtain ⟨S', h1, h2, h3, h4, h5⟩ := rd_leave0 (st0 := st0) (S := S) (b := b) (X := [[.int .i64 (pos : Int), .int .i64 50]]) (T' := S.toks) (f := ((pos : Int), 50)) (cs := [d, .str n, .str (trimOf v), .int .i64 (pos : Int), .bool false]) hb htl (by simp) rfl
      exact ⟨S', fun rv hrv => by rw [hrv]; simp only [shutF, hs]; exact h1, h2, fun p' hp' => by rw [hs] at hp'; cases hp'⟩
    cases q1 : valB (trimOf v) with
    | false =>
      rw [q1] at hval
      obtain ⟨S', h1, h2, h3⟩ := bad (by simp [shutP, q1])
      refine ⟨S', call_of_W prog_165 ?_, h2, h3⟩
      rw [hS]
      unfold F_P_fields_reader_shut; dsimp only
      simp (maxSteps := 1000000) (disch := omega) only [rd_alloc, List.length_nil, Nat.add_zero, Nat.zero_add, Nat.reduceAdd, List.nil_append, faP, rd_ld4 hb, rd_ld2 hb, rd_ld3 hb, rd_ld0 hb, rd_st4 hb, rd_st2 hb, hcall, hval, build2 Leaf_int Leaf_int, rd_x0 (y := []), W_seq, W_region, W_cond, W_block, W_skip, W_label, W_exit, W_goto, W_ret, WO_cons, WO_consG, WO_nil, wantedA_eq, wantB, evOp, ev_tmp, ev_const, ev_fn, WN_some, WN_none, updO_some, updO_none, upd_eq,
 ↓reduceIte, Nat.reduceEqDiff, List.nil_append, List.cons_append, List.append_nil, List.map_cons, List.map_nil, env0_zero, env0_succ, env0_nil, Option.map_some, Option.map_none, seqQ_normal, seqQ_ret, seqQ_exit, seqQ_goto, blockQ_normal, blockQ_ret, blockQ_exit, blockQ_goto, condW_bool, loopQ_ret, loopQ_exit, loopQ_goto, endQ_ret, endQ_normal,
 lss_i, leq_i, gtr_i, geq_i, eql_i, neq_i, eql_8, neq_8, lss_8, leq_8, gtr_8, geq_8, eql_s, neq_s, eql_b, neq_b, not_b, by_bys, by_nils, load_cp1, beq_true, beq_false, Bool.not_eq_true', decide_eq_true_eq, decide_eq_false_iff_not, decide_true, decide_false,
 Int.toNat_natCast, Int.ofNat_lt, Int.ofNat_le, Int.natCast_inj, Bool.false_eq_true, Bool.true_eq_false, extPV, List.getElem?_cons_zero, List.getElem?_cons_succ, nilckPV, Int.reduceToNat, Int.reduceLE, true_and, and_true, reduceCtorEq, or_false, false_or, or_true, Option.some.injEq, exists_eq_left', Bool.not_true, Bool.not_false, ne_eq, Int.reduceEq, not_true_eq_false, not_false_eq_true, Int.reduceLT, UInt8.reduceLT, UInt8.reduceLE, UInt8.reduceToNat]
      exact ⟨flV ((pos : Int), 50), rd_res rfl, h1 _ rfl⟩
    | true =>
      rw [q1] at hval
      by_cases q2 : dn.length < 128
      · have e2 : ¬ (128 : Int) ≤ (dn.length : Int) := by omega
        have hs : shutP ⟨dn, (n, v), pos, true⟩ = some ⟨dn ++ [(n, trimOf v)], (n, trimOf v), pos, false⟩ := by simp [shutP, q1, q2]
        have hf : shutF ⟨dn, (n, v), pos, true⟩ = (0, 0) := by simp [shutF, hs]
        -- the append
        obtain ⟨s2, hs2⟩ : ∃ s2, s2 = (rdS S.boxes b [d, .str n, .str (trimOf v), .int .i64 (pos : Int), .bool false] [[.int .i64 0, .int .i64 0]] S.toks S.loops S.boxes.length : St).tok1 := ⟨_, rfl⟩
        have how2 : Own st0 s2 2 d (dn.map fV) := by rw [hs2]; exact Own.tok1 (how.take (fun i _ => rfl))
        have hg2 : GrewAt s2.boxes st0.toks S.loops S.boxes.length s2 := ⟨rfl, by rw [hs2]; rfl, by rw [hs2]; rfl, by
          rw [hs2]
          show (S.toks ++ [true]).take st0.toks.length = st0.toks
          rw [List.take_append_of_le_length htl]; exact hT⟩
        have happ := appV_own (u := fV (n, trimOf v)) (t := .own S.toks.length) how2 (by simp only [List.length_map, room]; omega)
        obtain ⟨g3, o3⟩ := Own.app (ys := dn.map fV ++ [fV (n, trimOf v)]) hg2 how2
        have hsl : s2.toks.length = S.toks.length + 1 := by rw [hs2]; simp [St.tok1, rdS]
        obtain ⟨T3, hT3⟩ : ∃ T3, T3 = (appS s2 d).toks := ⟨_, rfl⟩
        have hs3 : appS s2 d = rdS S.boxes b [d, .str n, .str (trimOf v), .int .i64 (pos : Int), .bool false] [[.int .i64 0, .int .i64 0]] T3 S.loops S.boxes.length := by
          have b3 := g3.bx; have l3 := g3.lp; have w3 := g3.lw
          obtain ⟨⟨bb, tt, ll, ww⟩, hq⟩ : ∃ q, q = appS s2 d := ⟨_, rfl⟩
          rw [← hq] at b3 l3 w3 hT3 ⊢
          simp only at b3 l3 w3 hT3
          rw [b3, l3, w3, hT3, hs2]; rfl
        rw [hs3, hsl] at happ o3
        have hT3t : T3.take st0.toks.length = st0.toks := by rw [hT3]; exact g3.tk
        have hT3l : st0.toks.length ≤ T3.length := by rw [hT3]; exact g3.len
        obtain ⟨S', h1, h2, h3, h4, h5⟩ := rd_leave1 (st0 := st0) (S := S) (b := b) (X := [[.int .i64 0, .int .i64 0]]) (T' := T3) (lo := min S.boxes.length b) (f := (0, 0)) (cs := [.sl 2 (.own (S.toks.length + 1)) (dn.map fV ++ [fV (n, trimOf v)]), .str n, .str (trimOf v), .int .i64 (pos : Int), .bool false]) hb htl (by rw [hT3t, hT]) hT3l rfl (by omega) (by omega)
        refine ⟨S', call_of_W prog_165 ?_, h2, fun p' hp' => ?_⟩
        · rw [hS]
          unfold F_P_fields_reader_shut; dsimp only
          have hfr : freshT (rdS S.boxes b [d, .str n, .str (trimOf v), .int .i64 (pos : Int), .bool false] [[.int .i64 0, .int .i64 0]] S.toks S.loops S.boxes.length) = (.own S.toks.length, s2) := by rw [hs2]; rfl
          simp (maxSteps := 1000000) (disch := omega) only [rd_alloc, List.length_nil, Nat.add_zero, Nat.zero_add, Nat.reduceAdd, List.nil_append, faP, rd_ld4 hb, rd_ld2 hb, rd_ld3 hb, rd_ld0 hb, rd_ldf hb, rd_st4 hb, rd_st2 hb, rd_st0 hb, hcall, hval, hlen, e2, lit_f, hfr, happ, buildCells, rd_x0 (y := []), W_seq, W_region, W_cond, W_block, W_skip, W_label, W_exit, W_goto, W_ret, WO_cons, WO_consG, WO_nil, wantedA_eq, wantB, evOp, ev_tmp, ev_const, ev_fn, WN_some, WN_none, updO_some, updO_none, upd_eq,
 ↓reduceIte, Nat.reduceEqDiff, List.nil_append, List.cons_append, List.append_nil, List.map_cons, List.map_nil, env0_zero, env0_succ, env0_nil, Option.map_some, Option.map_none, seqQ_normal, seqQ_ret, seqQ_exit, seqQ_goto, blockQ_normal, blockQ_ret, blockQ_exit, blockQ_goto, condW_bool, loopQ_ret, loopQ_exit, loopQ_goto, endQ_ret, endQ_normal,
 lss_i, leq_i, gtr_i, geq_i, eql_i, neq_i, eql_8, neq_8, lss_8, leq_8, gtr_8, geq_8, eql_s, neq_s, eql_b, neq_b, not_b, by_bys, by_nils, load_cp1, beq_true, beq_false, Bool.not_eq_true', decide_eq_true_eq, decide_eq_false_iff_not, decide_true, decide_false,
 Int.toNat_natCast, Int.ofNat_lt, Int.ofNat_le, Int.natCast_inj, Bool.false_eq_true, Bool.true_eq_false, extPV, List.getElem?_cons_zero, List.getElem?_cons_succ, nilckPV, Int.reduceToNat, Int.reduceLE, true_and, and_true, reduceCtorEq, or_false, false_or, or_true, Option.some.injEq, exists_eq_left', Bool.not_true, Bool.not_false, ne_eq, Int.reduceEq, not_true_eq_false, not_false_eq_true, Int.reduceLT, UInt8.reduceLT, UInt8.reduceLE, UInt8.reduceToNat]
          exact ⟨flV (0, 0), rd_res rfl, by rw [hf]; exact h1⟩
        · rw [hs] at hp'
          cases hp'
          refine ⟨.sl 2 (.own (S.toks.length + 1)) (dn.map fV ++ [fV (n, trimOf v)]), ⟨by rw [h3]; simp [hb, rdC], ?_, fun h => by simp at h⟩, .inr (by rw [h5]; omega)⟩
          have := o3.take (s' := S') (fun i _ => by rw [h4]; rfl)
          simpa using this
      · have e2 : (128 : Int) ≤ (dn.length : Int) := by omega
        obtain ⟨S', h1, h2, h3⟩ := bad (by simp [shutP, q2])
        refine ⟨S', call_of_W prog_165 ?_, h2, h3⟩
        rw [hS]
        unfold F_P_fields_reader_shut; dsimp only
        simp (maxSteps := 1000000) (disch := omega) only [rd_alloc, List.length_nil, Nat.add_zero, Nat.zero_add, Nat.reduceAdd, List.nil_append, faP, rd_ld4 hb, rd_ld2 hb, rd_ld3 hb, rd_ld0 hb, rd_st4 hb, rd_st2 hb, hcall, hval, hlen, e2, build2 Leaf_int Leaf_int, rd_x0 (y := []), W_seq, W_region, W_cond, W_block, W_skip, W_label, W_exit, W_goto, W_ret, WO_cons, WO_consG, WO_nil, wantedA_eq, wantB, evOp, ev_tmp, ev_const, ev_fn, WN_some, WN_none, updO_some, updO_none, upd_eq,
 ↓reduceIte, Nat.reduceEqDiff, List.nil_append, List.cons_append, List.append_nil, List.map_cons, List.map_nil, env0_zero, env0_succ, env0_nil, Option.map_some, Option.map_none, seqQ_normal, seqQ_ret, seqQ_exit, seqQ_goto, blockQ_normal, blockQ_ret, blockQ_exit, blockQ_goto, condW_bool, loopQ_ret, loopQ_exit, loopQ_goto, endQ_ret, endQ_normal,
 lss_i, leq_i, gtr_i, geq_i, eql_i, neq_i, eql_8, neq_8, lss_8, leq_8, gtr_8, geq_8, eql_s, neq_s, eql_b, neq_b, not_b, by_bys, by_nils, load_cp1, beq_true, beq_false, Bool.not_eq_true', decide_eq_true_eq, decide_eq_false_iff_not, decide_true, decide_false,
 Int.toNat_natCast, Int.ofNat_lt, Int.ofNat_le, Int.natCast_inj, Bool.false_eq_true, Bool.true_eq_false, extPV, List.getElem?_cons_zero, List.getElem?_cons_succ, nilckPV, Int.reduceToNat, Int.reduceLE, true_and, and_true, reduceCtorEq, or_false, false_or, or_true, Option.some.injEq, exists_eq_left', Bool.not_true, Bool.not_false, ne_eq, Int.reduceEq, not_true_eq_false, not_false_eq_true, Int.reduceLT, UInt8.reduceLT, UInt8.reduceLE, UInt8.reduceToNat]
        exact ⟨flV ((pos : Int), 50), rd_res rfl, h1 _ rfl⟩
end Go.Ab

/-
  A line of a header is taken.
-/
namespace Go.Ab
set_option linter.unusedVariables false
set_option linter.unusedSimpArgs false
variable {st st0 S : St} {e : Env} {b : Nat} {d : PV}
variable {B X : List (List PV)} {T : List Bool} {L : List LoopS} {lo : Nat} {c0 c1 c2 c3 c4 v : PV}

def lineF (p : PS) (a : Nat) (s : List UInt8) : Int × Int := match lineP p a s with | .error q => ((q : Int), 50) | .ok _ => (0, 0)

theorem RdStep.refl (htl : st0.toks.length ≤ S.toks.length) {cs : List PV} (hcs : cs.length = 5) (h : S.boxes[b]? = some cs) : RdStep st0 S S b :=
  ⟨⟨cs, hcs, by obtain ⟨q, r⟩ := List.getElem?_eq_some_iff.1 h; rw [← r]; simp⟩, rfl, rfl, htl, Nat.min_le_left _ _, Nat.le_refl _⟩

/-- What is known of the state ahead of a call, seen from within. -/
theorem rd_in {p : PS} (h : S.boxes[b]? = some (rdC d p)) : ({ S with low := S.boxes.length } : St) = rdS S.boxes b (rdC d p) [] S.toks S.loops S.boxes.length := by
  have := rd_eq h
  rw [rdS] at this
  have h2 : S.boxes = S.boxes.set b (rdC d p) ++ [] := congrArg St.boxes this
  simp only [rdS]; rw [← h2]
/-- A reader's call within a call: boxes stand behind. -/
theorem rd_frame {cs z c : List PV} {S2 : St} (hb : b < B.length) (hs : RdStep st0 (rdS B b cs [z] T L lo) S2 b) (hcs : S2.boxes[b]? = some c) : S2 = rdS B b c [z] S2.toks L S2.low := by
  obtain ⟨⟨cs2, h5, hbx⟩, hlp, _, _, _, _⟩ := hs
  have hset : (rdS B b cs [z] T L lo).boxes.set b cs2 = B.set b cs2 ++ [z] := rd_set hb
  rw [hset] at hbx
  have : cs2 = c := by
    rw [hbx, rd_get hb] at hcs
    exact Option.some.inj hcs
  subst this
  obtain ⟨bb, tt, ll, ww⟩ := S2
  simp only [rdS] at hbx hlp ⊢
  rw [hbx, hlp]
theorem getD_idx {s : List UInt8} (h : s ≠ []) : idxSPV (.str s) (.int .i64 0) = some (.b8 (s.getD 0 0)) := by
  have := List.length_pos_iff.2 h
  have := idx_s (l := s) (k := .i64) (c := 0) (by omega) (by simpa using this)
  simpa using this

theorem line_spec {p : PS} {a : Nat} {s : List UInt8} (h : RdOK st0 S b d p) (htl : st0.toks.length ≤ S.toks.length) (hT : S.toks.take st0.toks.length = st0.toks) (hv : p.fld.2.length ≤ 100000000) (hd : p.done.length ≤ 100000000)
    (hs0 : s ≠ []) (hsl : s.length ≤ 100000000) :
    ∃ S', call prog (.fn 166 []) [.ptr b 0, .int .i64 (a : Int), .str s] S = some (flV (lineF p a s), S') ∧ RdStep st0 S S' b ∧ ∀ p', lineP p a s = .ok p' → ∃ d', RdOK st0 S' b d' p' ∧ (d' = d ∨ S'.low ≤ b) := by
  have hbx := h.bx
  have hb := (List.getElem?_eq_some_iff.1 hbx).1
  have hS := rd_in hbx
  obtain ⟨c, hc⟩ : ∃ c, c = s.getD 0 0 := ⟨_, rfl⟩
  have hi := getD_idx hs0
  rw [← hc] at hi
  by_cases hbk : blankC c = true
  · -- more of a field
    have hcond : ∀ ek, (binPV .eql ek (.b8 c) (.b8 32) = some (.bool true)) ∨ (binPV .eql ek (.b8 c) (.b8 32) = some (.bool false) ∧ c = 9) := fun ek => by
      by_cases q : c = 32
      · left; rw [eql_8]; simp [q]
      · right; rw [eql_8]
        refine ⟨by simp [q], ?_⟩
        simp only [blankC, Bool.or_eq_true, decide_eq_true_eq] at hbk
        rcases hbk with h | h
        · exact absurd h q
        · exact h
    cases hop : p.op with
    | false =>
      have hl : lineP p a s = .error a := by unfold lineP; rw [← hc, if_pos hbk, hop]; rfl
      have hlf : lineF p a s = ((a : Int), 50) := by simp [lineF, hl]
      obtain ⟨S', h1, h2, h3, h4, h5⟩ := rd_leave0 (st0 := st0) (S := S) (b := b) (X := [[.int .i64 (a : Int), .int .i64 50]]) (T' := S.toks) (f := ((a : Int), 50)) (cs := rdC d p) hb htl (by simp) rfl
      refine ⟨S', call_of_W prog_166 ?_, h2, fun p' hp' => by rw [hl] at hp'; cases hp'⟩
      rw [hS, hlf]
      simp only [rdC, hop] at h1 ⊢
      unfold F_P_fields_reader_line; dsimp only
      have hbk2 : (if decide (c = 32) then PV.bool true else PV.bool (decide (c = 9))) = .bool true := by
        simp only [blankC, Bool.or_eq_true, decide_eq_true_eq] at hbk
        rcases hbk with h | h <;> simp [h]
      by_cases q : c = 32
      · simp (maxSteps := 1000000) (disch := omega) only [rd_alloc, List.length_nil, Nat.add_zero, Nat.zero_add, Nat.reduceAdd, List.nil_append, hi, eq_true q, faP, rd_ld4 hb, build2 Leaf_int Leaf_int, rd_x0 (y := []), W_seq, W_region, W_cond, W_block, W_skip, W_label, W_exit, W_goto, W_ret, WO_cons, WO_consG, WO_nil, wantedA_eq, wantB, evOp, ev_tmp, ev_const, ev_fn, WN_some, WN_none, updO_some, updO_none, upd_eq,
 ↓reduceIte, Nat.reduceEqDiff, List.nil_append, List.cons_append, List.append_nil, List.map_cons, List.map_nil, env0_zero, env0_succ, env0_nil, Option.map_some, Option.map_none, seqQ_normal, seqQ_ret, seqQ_exit, seqQ_goto, blockQ_normal, blockQ_ret, blockQ_exit, blockQ_goto, condW_bool, loopQ_ret, loopQ_exit, loopQ_goto, endQ_ret, endQ_normal,
 lss_i, leq_i, gtr_i, geq_i, eql_i, neq_i, eql_8, neq_8, lss_8, leq_8, gtr_8, geq_8, eql_s, neq_s, eql_b, neq_b, not_b, by_bys, by_nils, load_cp1, beq_true, beq_false, Bool.not_eq_true', decide_eq_true_eq, decide_eq_false_iff_not, decide_true, decide_false,
 Int.toNat_natCast, Int.ofNat_lt, Int.ofNat_le, Int.natCast_inj, Bool.false_eq_true, Bool.true_eq_false, extPV, List.getElem?_cons_zero, List.getElem?_cons_succ, nilckPV, Int.reduceToNat, Int.reduceLE, true_and, and_true, reduceCtorEq, or_false, false_or, or_true, Option.some.injEq, exists_eq_left', Bool.not_true, Bool.not_false, ne_eq, Int.reduceEq, not_true_eq_false, not_false_eq_true, Int.reduceLT, UInt8.reduceLT, UInt8.reduceLE, UInt8.reduceToNat]
        exact ⟨flV ((a : Int), 50), rd_res rfl, h1⟩
      · have q9 : c = 9 := by
          simp only [blankC, Bool.or_eq_true, decide_eq_true_eq] at hbk
          exact hbk.resolve_left q
        simp (maxSteps := 1000000) (disch := omega) only [rd_alloc, List.length_nil, Nat.add_zero, Nat.zero_add, Nat.reduceAdd, List.nil_append, hi, q, eq_true q9, faP, rd_ld4 hb, build2 Leaf_int Leaf_int, rd_x0 (y := []), W_seq, W_region, W_cond, W_block, W_skip, W_label, W_exit, W_goto, W_ret, WO_cons, WO_consG, WO_nil, wantedA_eq, wantB, evOp, ev_tmp, ev_const, ev_fn, WN_some, WN_none, updO_some, updO_none, upd_eq,
 ↓reduceIte, Nat.reduceEqDiff, List.nil_append, List.cons_append, List.append_nil, List.map_cons, List.map_nil, env0_zero, env0_succ, env0_nil, Option.map_some, Option.map_none, seqQ_normal, seqQ_ret, seqQ_exit, seqQ_goto, blockQ_normal, blockQ_ret, blockQ_exit, blockQ_goto, condW_bool, loopQ_ret, loopQ_exit, loopQ_goto, endQ_ret, endQ_normal,
 lss_i, leq_i, gtr_i, geq_i, eql_i, neq_i, eql_8, neq_8, lss_8, leq_8, gtr_8, geq_8, eql_s, neq_s, eql_b, neq_b, not_b, by_bys, by_nils, load_cp1, beq_true, beq_false, Bool.not_eq_true', decide_eq_true_eq, decide_eq_false_iff_not, decide_true, decide_false,
 Int.toNat_natCast, Int.ofNat_lt, Int.ofNat_le, Int.natCast_inj, Bool.false_eq_true, Bool.true_eq_false, extPV, List.getElem?_cons_zero, List.getElem?_cons_succ, nilckPV, Int.reduceToNat, Int.reduceLE, true_and, and_true, reduceCtorEq, or_false, false_or, or_true, Option.some.injEq, exists_eq_left', Bool.not_true, Bool.not_false, ne_eq, Int.reduceEq, not_true_eq_false, not_false_eq_true, Int.reduceLT, UInt8.reduceLT, UInt8.reduceLE, UInt8.reduceToNat]
        exact ⟨flV ((a : Int), 50), rd_res rfl, h1⟩
    | true =>
      have hl : lineP p a s = .ok ⟨p.done, (p.fld.1, p.fld.2 ++ s), p.pos, true⟩ := by unfold lineP; rw [← hc, if_pos hbk, hop]; rfl
      have hlf : lineF p a s = (0, 0) := by simp [lineF, hl]
      obtain ⟨S', h1, h2, h3, h4, h5⟩ := rd_leave0 (st0 := st0) (S := S) (b := b) (X := [[.int .i64 0, .int .i64 0]]) (T' := S.toks) (f := (0, 0)) (cs := rdC d ⟨p.done, (p.fld.1, p.fld.2 ++ s), p.pos, true⟩) hb htl (by simp) rfl
      refine ⟨S', call_of_W prog_166 ?_, h2, fun p' hp' => ?_⟩
      · rw [hS, hlf]
        simp only [rdC, hop] at h1 ⊢
        unfold F_P_fields_reader_line; dsimp only
        have hadd : ∀ ek, binPV .add ek (.str p.fld.2) (.str s) = some (.str (p.fld.2 ++ s)) := fun ek => adds (by omega)
        by_cases q : c = 32
        · simp (maxSteps := 1000000) (disch := omega) only [rd_alloc, List.length_nil, Nat.add_zero, Nat.zero_add, Nat.reduceAdd, List.nil_append, hi, eq_true q, faP, rd_ld4 hb, rd_ld2 hb, rd_st2 hb, hadd, buildCells, rd_x0 (y := []), W_seq, W_region, W_cond, W_block, W_skip, W_label, W_exit, W_goto, W_ret, WO_cons, WO_consG, WO_nil, wantedA_eq, wantB, evOp, ev_tmp, ev_const, ev_fn, WN_some, WN_none, updO_some, updO_none, upd_eq,
 ↓reduceIte, Nat.reduceEqDiff, List.nil_append, List.cons_append, List.append_nil, List.map_cons, List.map_nil, env0_zero, env0_succ, env0_nil, Option.map_some, Option.map_none, seqQ_normal, seqQ_ret, seqQ_exit, seqQ_goto, blockQ_normal, blockQ_ret, blockQ_exit, blockQ_goto, condW_bool, loopQ_ret, loopQ_exit, loopQ_goto, endQ_ret, endQ_normal,
 lss_i, leq_i, gtr_i, geq_i, eql_i, neq_i, eql_8, neq_8, lss_8, leq_8, gtr_8, geq_8, eql_s, neq_s, eql_b, neq_b, not_b, by_bys, by_nils, load_cp1, beq_true, beq_false, Bool.not_eq_true', decide_eq_true_eq, decide_eq_false_iff_not, decide_true, decide_false,
 Int.toNat_natCast, Int.ofNat_lt, Int.ofNat_le, Int.natCast_inj, Bool.false_eq_true, Bool.true_eq_false, extPV, List.getElem?_cons_zero, List.getElem?_cons_succ, nilckPV, Int.reduceToNat, Int.reduceLE, true_and, and_true, reduceCtorEq, or_false, false_or, or_true, Option.some.injEq, exists_eq_left', Bool.not_true, Bool.not_false, ne_eq, Int.reduceEq, not_true_eq_false, not_false_eq_true, Int.reduceLT, UInt8.reduceLT, UInt8.reduceLE, UInt8.reduceToNat]
          exact ⟨flV (0, 0), rd_res rfl, h1⟩
        · have q9 : c = 9 := by
            simp only [blankC, Bool.or_eq_true, decide_eq_true_eq] at hbk
            exact hbk.resolve_left q
          simp (maxSteps := 1000000) (disch := omega) only [rd_alloc, List.length_nil, Nat.add_zero, Nat.zero_add, Nat.reduceAdd, List.nil_append, hi, q, eq_true q9, faP, rd_ld4 hb, rd_ld2 hb, rd_st2 hb, hadd, buildCells, rd_x0 (y := []), W_seq, W_region, W_cond, W_block, W_skip, W_label, W_exit, W_goto, W_ret, WO_cons, WO_consG, WO_nil, wantedA_eq, wantB, evOp, ev_tmp, ev_const, ev_fn, WN_some, WN_none, updO_some, updO_none, upd_eq,
 ↓reduceIte, Nat.reduceEqDiff, List.nil_append, List.cons_append, List.append_nil, List.map_cons, List.map_nil, env0_zero, env0_succ, env0_nil, Option.map_some, Option.map_none, seqQ_normal, seqQ_ret, seqQ_exit, seqQ_goto, blockQ_normal, blockQ_ret, blockQ_exit, blockQ_goto, condW_bool, loopQ_ret, loopQ_exit, loopQ_goto, endQ_ret, endQ_normal,
 lss_i, leq_i, gtr_i, geq_i, eql_i, neq_i, eql_8, neq_8, lss_8, leq_8, gtr_8, geq_8, eql_s, neq_s, eql_b, neq_b, not_b, by_bys, by_nils, load_cp1, beq_true, beq_false, Bool.not_eq_true', decide_eq_true_eq, decide_eq_false_iff_not, decide_true, decide_false,
 Int.toNat_natCast, Int.ofNat_lt, Int.ofNat_le, Int.natCast_inj, Bool.false_eq_true, Bool.true_eq_false, extPV, List.getElem?_cons_zero, List.getElem?_cons_succ, nilckPV, Int.reduceToNat, Int.reduceLE, true_and, and_true, reduceCtorEq, or_false, false_or, or_true, Option.some.injEq, exists_eq_left', Bool.not_true, Bool.not_false, ne_eq, Int.reduceEq, not_true_eq_false, not_false_eq_true, Int.reduceLT, UInt8.reduceLT, UInt8.reduceLE, UInt8.reduceToNat]
          exact ⟨flV (0, 0), rd_res rfl, h1⟩
      · rw [hl] at hp'
        cases hp'
        exact ⟨d, ⟨by rw [h3]; simp [hb], h.ow.take (fun i _ => by rw [h4]), h.ne⟩, .inl rfl⟩
  · -- a new field
    have q1 : ¬ c = 32 := fun hq => hbk (by simp [blankC, hq])
    have q2 : ¬ c = 9 := fun hq => hbk (by simp [blankC, hq])
    have hbk' : blankC (s.getD 0 0) = false := by rw [← hc]; simpa using hbk
    -- the state in which shut is called
    obtain ⟨S1, hS1⟩ : ∃ S1, S1 = rdS S.boxes b (rdC d p) [[.int .i64 0, .int .i64 0]] S.toks S.loops S.boxes.length := ⟨_, rfl⟩
    have hOK1 : RdOK st0 S1 b d p := ⟨by rw [hS1]; exact rd_get hb, by rw [hS1]; exact h.ow.take (fun i _ => rfl), h.ne⟩
    obtain ⟨S2, k1, k2, k3⟩ := shut_spec hOK1 (by rw [hS1]; exact htl) (by rw [hS1]; exact hT) hv hd
    rw [hS1] at k2
    have hlow2 : b ≤ S2.low ∧ S2.low ≤ S.boxes.length := by
      have q1 := k2.lw; have q2 := k2.lu
      simp only [rdS] at q1 q2
      omega
    have htk2 := k2.tk
    have htl2 := k2.tl
    simp only [rdS] at htk2
    -- what is left behind the whole, with a reader as it was behind shut
    have out : ∀ (cs : List PV) (f : Int × Int) (Y : List (List PV)), cs.length = 5 → ∃ S', leave S (rdS S.boxes b cs Y S2.toks S.loops S2.low) (flV f) = (flV f, S') ∧ RdStep st0 S S' b ∧ S'.boxes = S.boxes.set b cs ∧
        ∀ (d' : PV) (xs : List PV), Own st0 S2 2 d' xs → (d' = d ∨ S2.low ≤ b) → Own st0 S' 2 d' xs ∧ (d' = d ∨ S'.low ≤ b) := by
      intro cs f Y hcs
      obtain ⟨S', h1, h2, h3, h4⟩ := rd_leave (st0 := st0) (S := S) (b := b) (X := Y) (T' := S2.toks) (f := f) (lo := S2.low) hb htl htk2 htl2 hcs hlow2.1 hlow2.2
      refine ⟨S', h1, h2, h3, fun d' xs ho hdd => ?_⟩
      rcases h4 with ⟨g1, g2, g3⟩ | ⟨g1, g2, g3⟩
      · have hdd2 : d' = d := by
          rcases hdd with h | h
          · exact h
          · omega
        subst hdd2
        refine ⟨ho.take (fun i hi => ?_), .inl rfl⟩
        rw [g1, List.getElem?_take, if_pos]
        rcases h.ow with ⟨h, _⟩ | ⟨j, hj, _, hj2⟩
        · rw [h] at hi; cases hi
        · rw [hj] at hi
          simp only [tokOf, Option.some.injEq] at hi
          subst hi
          exact (List.getElem?_eq_some_iff.1 hj2).1
      · refine ⟨ho.take (fun i hi => by rw [g1]), ?_⟩
        rcases hdd with h | h
        · exact .inl h
        · right; rw [g2]; omega
    have hcut : ∀ S : St, call prog (.fn 128 []) [.str s, .str [58]] S = some (cutAt s [58], S) := fun S => Cut_spec (by omega) (by simp)
    cases hsh : shutP p with
    | none =>
      have hl : lineP p a s = .error p.pos := by simp only [lineP, hbk', hsh]; rfl
      have hlf : lineF p a s = ((p.pos : Int), 50) := by simp [lineF, hl]
      have hsf : shutF p = ((p.pos : Int), 50) := by simp [shutF, hsh]
      obtain ⟨⟨cs2, hcs2, hbx2⟩, hlp2, _, _, _, _⟩ := k2
      have hset : (rdS S.boxes b (rdC d p) [[.int .i64 0, .int .i64 0]] S.toks S.loops S.boxes.length).boxes.set b cs2 = S.boxes.set b cs2 ++ [[.int .i64 0, .int .i64 0]] := rd_set hb
      have hS2 : S2 = rdS S.boxes b cs2 [[.int .i64 0, .int .i64 0]] S2.toks S.loops S2.low := by
        obtain ⟨bb, tt, ll, ww⟩ := S2
        simp only [rdS] at hbx2 hlp2 ⊢
        rw [hbx2, hlp2]
        congr 1
      rw [hsf, hS1] at k1
      obtain ⟨T2, hT2⟩ : ∃ T2, T2 = S2.toks := ⟨_, rfl⟩
      obtain ⟨lo2, hlo2⟩ : ∃ lo2, lo2 = S2.low := ⟨_, rfl⟩
      rw [← hT2, ← hlo2] at hS2
      obtain ⟨S', h1, h2, h3, -⟩ := out cs2 ((p.pos : Int), 50) ([.int .i64 (p.pos : Int), .int .i64 50] :: [[.int .i64 (p.pos : Int), .int .i64 50]]) hcs2
      rw [← hT2, ← hlo2] at h1
      refine ⟨S', call_of_W prog_166 ?_, h2, fun p' hp' => by rw [hl] at hp'; cases hp'⟩
      rw [hS, hlf]
      unfold F_P_fields_reader_line; dsimp only
      rw [hS2] at k1
      have hld : ∀ {n m : Int} {ys : List (List PV)}, loadPV (rdS S.boxes b cs2 ([.int .i64 0, .int .i64 0] :: [.int .i64 n, .int .i64 m] :: ys) T2 S.loops lo2) false 1 (.ptr (S.boxes.length + 1) 1) = some (.int .i64 m) := rd_lx1
      simp (maxSteps := 1000000) (disch := omega) only [rd_alloc, List.length_nil, List.length_cons, Nat.add_zero, Nat.zero_add, Nat.reduceAdd, List.nil_append, List.cons_append, hi, q1, q2, k1, flV, rd_x1, rd_x0 (y := []), faP, rd_lx1, rd_lx1a, W_seq, W_region, W_cond, W_block, W_skip, W_label, W_exit, W_goto, W_ret, WO_cons, WO_consG, WO_nil, wantedA_eq, wantB, evOp, ev_tmp, ev_const, ev_fn, WN_some, WN_none, updO_some, updO_none, upd_eq,
 ↓reduceIte, Nat.reduceEqDiff, List.nil_append, List.cons_append, List.append_nil, List.map_cons, List.map_nil, env0_zero, env0_succ, env0_nil, Option.map_some, Option.map_none, seqQ_normal, seqQ_ret, seqQ_exit, seqQ_goto, blockQ_normal, blockQ_ret, blockQ_exit, blockQ_goto, condW_bool, loopQ_ret, loopQ_exit, loopQ_goto, endQ_ret, endQ_normal,
 lss_i, leq_i, gtr_i, geq_i, eql_i, neq_i, eql_8, neq_8, lss_8, leq_8, gtr_8, geq_8, eql_s, neq_s, eql_b, neq_b, not_b, by_bys, by_nils, load_cp1, beq_true, beq_false, Bool.not_eq_true', decide_eq_true_eq, decide_eq_false_iff_not, decide_true, decide_false,
 Int.toNat_natCast, Int.ofNat_lt, Int.ofNat_le, Int.natCast_inj, Bool.false_eq_true, Bool.true_eq_false, extPV, List.getElem?_cons_zero, List.getElem?_cons_succ, nilckPV, Int.reduceToNat, Int.reduceLE, true_and, and_true, reduceCtorEq, or_false, false_or, or_true, Option.some.injEq, exists_eq_left', Bool.not_true, Bool.not_false, ne_eq, Int.reduceEq, not_true_eq_false, not_false_eq_true, Int.reduceLT, UInt8.reduceLT, UInt8.reduceLE, UInt8.reduceToNat]
      exact ⟨flV ((p.pos : Int), 50), rd_res rfl, h1⟩
    | some p' =>
      obtain ⟨d', hOK2, hdd⟩ := k3 p' hsh
      have hsf : shutF p = (0, 0) := by simp [shutF, hsh]
      have hS2 := rd_frame hb k2 hOK2.bx
      rw [hsf, hS1] at k1
      obtain ⟨T2, hT2⟩ : ∃ T2, T2 = S2.toks := ⟨_, rfl⟩
      obtain ⟨lo2, hlo2⟩ : ∃ lo2, lo2 = S2.low := ⟨_, rfl⟩
      rw [← hT2, ← hlo2] at hS2
      rw [hS2] at k1
      by_cases hc58 : 0 ≤ Lib.index s [58]
      · obtain ⟨k, hk⟩ : ∃ k : Nat, Lib.index s [58] = (k : Int) := ⟨(Lib.index s [58]).toNat, by omega⟩
        have hcutv : cutAt s [58] = .tup [.str (s.take k), .str (s.drop (k + 1)), .bool true] := by
          unfold cutAt; rw [if_pos hc58, hk]; rfl
        have hnm : ∀ S : St, call prog (.fn 157 []) [.str (s.take k)] S = some (.bool (nameB (s.take k)), S) := fun S => isName_spec
        rw [hcutv] at hcut
        cases hnb : nameB (s.take k) with
        | true =>
          have hl : lineP p a s = .ok ⟨p'.done, (s.take k, s.drop (k + 1)), a, true⟩ := by
            simp only [lineP, hbk', hsh, hk, Int.toNat_natCast]
            rw [if_neg (by simp), if_pos ⟨by omega, hnb⟩]
          have hlf : lineF p a s = (0, 0) := by simp [lineF, hl]
          rw [hnb] at hnm
          obtain ⟨S', h1, h2, h3, h4⟩ := out (rdC d' ⟨p'.done, (s.take k, s.drop (k + 1)), a, true⟩) (0, 0) ([.int .i64 0, .int .i64 0] :: [[.int .i64 0, .int .i64 0]]) rfl
          rw [← hT2, ← hlo2] at h1
          refine ⟨S', call_of_W prog_166 ?_, h2, fun p2 hp2 => ?_⟩
          · rw [hS, hlf]
            unfold F_P_fields_reader_line; dsimp only
            simp only [rdC] at k1 h1 ⊢
            simp (maxSteps := 1000000) (disch := omega) only [rd_alloc, List.length_nil, List.length_cons, Nat.add_zero, Nat.zero_add, Nat.reduceAdd, List.nil_append, List.cons_append, hi, q1, q2, k1, flV, rd_x1, rd_x0 (y := []), faP, rd_lx1, rd_lx1a, hcut, hnm, build2 Leaf_str Leaf_str, rd_stf hb, rd_st3 hb, rd_st4 hb, buildCells, W_seq, W_region, W_cond, W_block, W_skip, W_label, W_exit, W_goto, W_ret, WO_cons, WO_consG, WO_nil, wantedA_eq, wantB, evOp, ev_tmp, ev_const, ev_fn, WN_some, WN_none, updO_some, updO_none, upd_eq,
 ↓reduceIte, Nat.reduceEqDiff, List.nil_append, List.cons_append, List.append_nil, List.map_cons, List.map_nil, env0_zero, env0_succ, env0_nil, Option.map_some, Option.map_none, seqQ_normal, seqQ_ret, seqQ_exit, seqQ_goto, blockQ_normal, blockQ_ret, blockQ_exit, blockQ_goto, condW_bool, loopQ_ret, loopQ_exit, loopQ_goto, endQ_ret, endQ_normal,
 lss_i, leq_i, gtr_i, geq_i, eql_i, neq_i, eql_8, neq_8, lss_8, leq_8, gtr_8, geq_8, eql_s, neq_s, eql_b, neq_b, not_b, by_bys, by_nils, load_cp1, beq_true, beq_false, Bool.not_eq_true', decide_eq_true_eq, decide_eq_false_iff_not, decide_true, decide_false,
 Int.toNat_natCast, Int.ofNat_lt, Int.ofNat_le, Int.natCast_inj, Bool.false_eq_true, Bool.true_eq_false, extPV, List.getElem?_cons_zero, List.getElem?_cons_succ, nilckPV, Int.reduceToNat, Int.reduceLE, true_and, and_true, reduceCtorEq, or_false, false_or, or_true, Option.some.injEq, exists_eq_left', Bool.not_true, Bool.not_false, ne_eq, Int.reduceEq, not_true_eq_false, not_false_eq_true, Int.reduceLT, UInt8.reduceLT, UInt8.reduceLE, UInt8.reduceToNat]
            exact ⟨flV (0, 0), rd_res rfl, h1⟩
          · rw [hl] at hp2
            cases hp2
            obtain ⟨g1, g2⟩ := h4 d' (p'.done.map fV) hOK2.ow hdd
            exact ⟨d', ⟨by rw [h3]; simp [hb], g1, hOK2.ne⟩, g2⟩
        | false =>
          have hl : lineP p a s = .error a := by
            simp only [lineP, hbk', hsh, hk, Int.toNat_natCast]
            rw [if_neg (by simp), if_neg (by simp [hnb])]
          have hlf : lineF p a s = ((a : Int), 50) := by simp [lineF, hl]
          rw [hnb] at hnm
          obtain ⟨S', h1, h2, h3, h4⟩ := out (rdC d' p') ((a : Int), 50) ([.int .i64 (a : Int), .int .i64 50] :: [[.int .i64 0, .int .i64 0]]) rfl
          rw [← hT2, ← hlo2] at h1
          refine ⟨S', call_of_W prog_166 ?_, h2, fun p2 hp2 => by rw [hl] at hp2; cases hp2⟩
          rw [hS, hlf]
          unfold F_P_fields_reader_line; dsimp only
          simp (maxSteps := 1000000) (disch := omega) only [rd_alloc, List.length_nil, List.length_cons, Nat.add_zero, Nat.zero_add, Nat.reduceAdd, List.nil_append, List.cons_append, hi, q1, q2, k1, flV, rd_x1, rd_x0 (y := []), faP, rd_lx1, rd_lx1a, hcut, hnm, build2 Leaf_int Leaf_int, W_seq, W_region, W_cond, W_block, W_skip, W_label, W_exit, W_goto, W_ret, WO_cons, WO_consG, WO_nil, wantedA_eq, wantB, evOp, ev_tmp, ev_const, ev_fn, WN_some, WN_none, updO_some, updO_none, upd_eq,
 ↓reduceIte, Nat.reduceEqDiff, List.nil_append, List.cons_append, List.append_nil, List.map_cons, List.map_nil, env0_zero, env0_succ, env0_nil, Option.map_some, Option.map_none, seqQ_normal, seqQ_ret, seqQ_exit, seqQ_goto, blockQ_normal, blockQ_ret, blockQ_exit, blockQ_goto, condW_bool, loopQ_ret, loopQ_exit, loopQ_goto, endQ_ret, endQ_normal,
 lss_i, leq_i, gtr_i, geq_i, eql_i, neq_i, eql_8, neq_8, lss_8, leq_8, gtr_8, geq_8, eql_s, neq_s, eql_b, neq_b, not_b, by_bys, by_nils, load_cp1, beq_true, beq_false, Bool.not_eq_true', decide_eq_true_eq, decide_eq_false_iff_not, decide_true, decide_false,
 Int.toNat_natCast, Int.ofNat_lt, Int.ofNat_le, Int.natCast_inj, Bool.false_eq_true, Bool.true_eq_false, extPV, List.getElem?_cons_zero, List.getElem?_cons_succ, nilckPV, Int.reduceToNat, Int.reduceLE, true_and, and_true, reduceCtorEq, or_false, false_or, or_true, Option.some.injEq, exists_eq_left', Bool.not_true, Bool.not_false, ne_eq, Int.reduceEq, not_true_eq_false, not_false_eq_true, Int.reduceLT, UInt8.reduceLT, UInt8.reduceLE, UInt8.reduceToNat]
          exact ⟨flV ((a : Int), 50), rd_res rfl, h1⟩
      · have hcutv : cutAt s [58] = .tup [.str s, .str [], .bool false] := by unfold cutAt; rw [if_neg hc58]
        rw [hcutv] at hcut
        have hl : lineP p a s = .error a := by
          simp only [lineP, hbk', hsh]
          rw [if_neg (by simp), if_neg (by simp [hc58])]
        have hlf : lineF p a s = ((a : Int), 50) := by simp [lineF, hl]
        obtain ⟨S', h1, h2, h3, h4⟩ := out (rdC d' p') ((a : Int), 50) ([.int .i64 (a : Int), .int .i64 50] :: [[.int .i64 0, .int .i64 0]]) rfl
        rw [← hT2, ← hlo2] at h1
        refine ⟨S', call_of_W prog_166 ?_, h2, fun p2 hp2 => by rw [hl] at hp2; cases hp2⟩
        rw [hS, hlf]
        unfold F_P_fields_reader_line; dsimp only
        simp (maxSteps := 1000000) (disch := omega) only [rd_alloc, List.length_nil, List.length_cons, Nat.add_zero, Nat.zero_add, Nat.reduceAdd, List.nil_append, List.cons_append, hi, q1, q2, k1, flV, rd_x1, rd_x0 (y := []), faP, rd_lx1, rd_lx1a, hcut, build2 Leaf_int Leaf_int, W_seq, W_region, W_cond, W_block, W_skip, W_label, W_exit, W_goto, W_ret, WO_cons, WO_consG, WO_nil, wantedA_eq, wantB, evOp, ev_tmp, ev_const, ev_fn, WN_some, WN_none, updO_some, updO_none, upd_eq,
 ↓reduceIte, Nat.reduceEqDiff, List.nil_append, List.cons_append, List.append_nil, List.map_cons, List.map_nil, env0_zero, env0_succ, env0_nil, Option.map_some, Option.map_none, seqQ_normal, seqQ_ret, seqQ_exit, seqQ_goto, blockQ_normal, blockQ_ret, blockQ_exit, blockQ_goto, condW_bool, loopQ_ret, loopQ_exit, loopQ_goto, endQ_ret, endQ_normal,
 lss_i, leq_i, gtr_i, geq_i, eql_i, neq_i, eql_8, neq_8, lss_8, leq_8, gtr_8, geq_8, eql_s, neq_s, eql_b, neq_b, not_b, by_bys, by_nils, load_cp1, beq_true, beq_false, Bool.not_eq_true', decide_eq_true_eq, decide_eq_false_iff_not, decide_true, decide_false,
 Int.toNat_natCast, Int.ofNat_lt, Int.ofNat_le, Int.natCast_inj, Bool.false_eq_true, Bool.true_eq_false, extPV, List.getElem?_cons_zero, List.getElem?_cons_succ, nilckPV, Int.reduceToNat, Int.reduceLE, true_and, and_true, reduceCtorEq, or_false, false_or, or_true, Option.some.injEq, exists_eq_left', Bool.not_true, Bool.not_false, ne_eq, Int.reduceEq, not_true_eq_false, not_false_eq_true, Int.reduceLT, UInt8.reduceLT, UInt8.reduceLE, UInt8.reduceToNat]
        exact ⟨flV ((a : Int), 50), rd_res rfl, h1⟩
end Go.Ab
