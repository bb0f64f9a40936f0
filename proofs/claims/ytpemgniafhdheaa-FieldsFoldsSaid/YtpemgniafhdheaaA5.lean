/-
  A header is written, by the document.
-/
import Derived.Test.YtpemgniafhdheaaA4
import Derived.Test.YtpemgniafhdheaaA2
import Derived.Test.YtpemgniafhdheaaA3
import Derived.Shelf.Bytes.SlIndexWhole
import Derived.Shelf.Bytes.IndexByte
import Derived.Shelf.Strings.Builder1
import Derived.Shelf.Strings.Search2
import Derived.Shelf.Small.Strs
namespace Go.Ab
set_option linter.unusedVariables false
set_option linter.unusedSimpArgs false
variable {st s : St} {e : Env}

theorem any_take {α : Type} {p : α → Bool} {l : List α} {i : Nat} {d : α} (h : i < l.length) : (l.take (i + 1)).any p = ((l.take i).any p || p (l.getD i d)) := by
  rw [take_getD' (d := d) h, List.any_append]; simp

set_option maxHeartbeats 1000000 in
theorem rWrite_spec {x : PV} {fs : List Fld} (hx : x.vs 2 = some (fs.map fV)) (hf : ∀ f ∈ fs, okF f) (hl : fs.length ≤ 1000000) : call prog (.fn 146 []) [x] st = some (outV st (writeOf fs)) := by
  refine call_of_W prog_146 ?_
  unfold F_posthornref06_Write; dsimp only
  have hlen := len_vs hx
  rw [List.length_map] at hlen
  have okLen : ∀ f : Fld, okFd f = true → f.1.length ≤ 64 ∧ f.2.length ≤ 4096 := fun f h => by
    simp only [okFd, nameB, valB, Bool.and_eq_true, decide_eq_true_eq] at h; omega
  by_cases h128 : 128 < fs.length
  · have e1 : (128 : Int) < (fs.length : Int) := by omega
    have hw : writeOf fs = (2, []) := by simp [writeOf, h128]
    simp (maxSteps := 1000000) (disch := omega) only [hlen, e1, W_seq, W_region, W_cond, W_block, W_skip, W_label, W_exit, W_goto, W_ret, WO_cons, WO_consG, WO_nil, wantedA_eq, wantB, evOp, ev_tmp, ev_const, ev_fn, WN_some, WN_none, updO_some, updO_none, upd_eq,
 ↓reduceIte, Nat.reduceEqDiff, List.nil_append, List.cons_append, List.append_nil, List.map_cons, List.map_nil, env0_zero, env0_succ, env0_nil, Option.map_some, Option.map_none, seqQ_normal, seqQ_ret, seqQ_exit, seqQ_goto, blockQ_normal, blockQ_ret, blockQ_exit, blockQ_goto, condW_bool, loopQ_ret, loopQ_exit, loopQ_goto, endQ_ret, endQ_normal,
 lss_i, leq_i, gtr_i, geq_i, eql_i, neq_i, eql_8, neq_8, lss_8, leq_8, gtr_8, geq_8, eql_s, neq_s, eql_b, neq_b, not_b, by_bys, by_nils, load_cp1, beq_true, beq_false, Bool.not_eq_true', decide_eq_true_eq, decide_eq_false_iff_not, decide_true, decide_false,
 Int.toNat_natCast, Int.ofNat_lt, Int.ofNat_le, Int.natCast_inj, Bool.false_eq_true, Bool.true_eq_false, extPV, List.getElem?_cons_zero, List.getElem?_cons_succ, nilckPV, Int.reduceToNat, Int.reduceLE, true_and, and_true, reduceCtorEq, or_false, false_or, or_true, Option.some.injEq, exists_eq_left', Bool.not_true, Bool.not_false, ne_eq, Int.reduceEq, not_true_eq_false, not_false_eq_true, Int.reduceLT, UInt8.reduceLT, UInt8.reduceLE, UInt8.reduceToNat]
    rw [hw]
    exact ⟨.tup [.nils, .int .i64 2], rfl, Kept.start.leave rfl (fun _ _ => rfl)⟩
  have e128 : ¬ (128 : Int) < (fs.length : Int) := by omega
  simp (maxSteps := 1000000) (disch := omega) only [hlen, e128, W_seq, W_region, W_cond, W_block, W_skip, W_label, W_exit, W_goto, W_ret, WO_cons, WO_consG, WO_nil, wantedA_eq, wantB, evOp, ev_tmp, ev_const, ev_fn, WN_some, WN_none, updO_some, updO_none, upd_eq,
 ↓reduceIte, Nat.reduceEqDiff, List.nil_append, List.cons_append, List.append_nil, List.map_cons, List.map_nil, env0_zero, env0_succ, env0_nil, Option.map_some, Option.map_none, seqQ_normal, seqQ_ret, seqQ_exit, seqQ_goto, blockQ_normal, blockQ_ret, blockQ_exit, blockQ_goto, condW_bool, loopQ_ret, loopQ_exit, loopQ_goto, endQ_ret, endQ_normal,
 lss_i, leq_i, gtr_i, geq_i, eql_i, neq_i, eql_8, neq_8, lss_8, leq_8, gtr_8, geq_8, eql_s, neq_s, eql_b, neq_b, not_b, by_bys, by_nils, load_cp1, beq_true, beq_false, Bool.not_eq_true', decide_eq_true_eq, decide_eq_false_iff_not, decide_true, decide_false,
 Int.toNat_natCast, Int.ofNat_lt, Int.ofNat_le, Int.natCast_inj, Bool.false_eq_true, Bool.true_eq_false, extPV, List.getElem?_cons_zero, List.getElem?_cons_succ, nilckPV, Int.reduceToNat, Int.reduceLE, true_and, and_true, reduceCtorEq, or_false, false_or, or_true, Option.some.injEq, exists_eq_left', Bool.not_true, Bool.not_false, ne_eq, Int.reduceEq, not_true_eq_false, not_false_eq_true, Int.reduceLT, UInt8.reduceLT, UInt8.reduceLE, UInt8.reduceToNat]
  obtain ⟨I, hI⟩ : ∃ I : Nat → Env → St → Prop, I = fun k e s' => ∃ (i : Nat) (v : PV), k = fs.length - i ∧ i ≤ fs.length ∧ Kept st s' ∧ Mine st s' v ((fs.take i).flatMap fieldBytes) ∧ (∀ j, j < i → okFd (fs.getD j ([], [])) = true) ∧ e 0 = x ∧ e 4 = v ∧ e 5 = .bool ((fs.take i).any longF) ∧ e 6 = .int .i64 (i : Int) := ⟨_, rfl⟩
  refine W_loop I ?_ (n := fs.length) (by
    rw [hI]
    exact ⟨0, .nils, rfl, by omega, Kept.start, Mine.nil, fun j h => by omega, rfl, rfl, rfl, rfl⟩)
  intro k e s' hh
  rw [hI] at hh
  obtain ⟨i, v, rfl, hi, hk, hm, hok, h0, h4, h5, h6⟩ := hh
  have hbl := bytes_len (fs := fs.take i) (fun f hfm => hf f (List.mem_of_mem_take hfm))
  have hbl2 : ((fs.take i).flatMap fieldBytes).length ≤ 3840000 := by
    have h0 : (fs.take i).length ≤ 128 := by simp; omega
    exact Nat.le_trans hbl (Nat.le_trans (Nat.mul_le_mul_right 30000 h0) (by decide))
  clear hbl
  by_cases hlt : i < fs.length
  · obtain ⟨f, hfe⟩ : ∃ f, f = fs.getD i ([], []) := ⟨_, rfl⟩
    have hfm : f ∈ fs := by rw [hfe]; simp [List.getD, hlt]
    have hfo := hf f hfm
    have hnm : ∀ S : St, call prog (.fn 160 []) [.str f.1] S = some (.bool (nameB f.1), S) := fun S => rName_spec (by have := hfo.1; omega)
    have hvl : ∀ S : St, call prog (.fn 161 []) [.str f.2] S = some (.bool (valB f.2), S) := fun S => rValue_spec (by have := hfo.2; omega)
    have bad : okFd f = false → ∀ (E : Env), E 2 = .nils → E 3 = .int .i64 50 → ∃ rv, resOf E s' [.tmp 2, .tmp 3] = some rv ∧ leave st s' rv = outV st (writeOf fs) := fun hq E k2 k3 =>
      ⟨.tup [.nils, .int .i64 50], by simp [resOf, rvAll, rv1, k2, k3, notTup, packRes], by
        rw [show writeOf fs = (50, []) by simp [writeOf, h128, all_not hlt (by rw [← hfe]; exact hq)]]
        exact hk.leave rfl (fun _ _ => rfl)⟩
    cases q1 : nameB f.1 with
    | false =>
      rw [q1] at hnm
      simp (maxSteps := 1000000) (disch := omega) only [h0, h4, h5, h6, hlen, hlt, iaddr_f hx, ← hfe, fa_cp, load_cp0, load_cp1', hnm, W_seq, W_region, W_cond, W_block, W_skip, W_label, W_exit, W_goto, W_ret, WO_cons, WO_consG, WO_nil, wantedA_eq, wantB, evOp, ev_tmp, ev_const, ev_fn, WN_some, WN_none, updO_some, updO_none, upd_eq,
 ↓reduceIte, Nat.reduceEqDiff, List.nil_append, List.cons_append, List.append_nil, List.map_cons, List.map_nil, env0_zero, env0_succ, env0_nil, Option.map_some, Option.map_none, seqQ_normal, seqQ_ret, seqQ_exit, seqQ_goto, blockQ_normal, blockQ_ret, blockQ_exit, blockQ_goto, condW_bool, loopQ_ret, loopQ_exit, loopQ_goto, endQ_ret, endQ_normal,
 lss_i, leq_i, gtr_i, geq_i, eql_i, neq_i, eql_8, neq_8, lss_8, leq_8, gtr_8, geq_8, eql_s, neq_s, eql_b, neq_b, not_b, by_bys, by_nils, load_cp1, beq_true, beq_false, Bool.not_eq_true', decide_eq_true_eq, decide_eq_false_iff_not, decide_true, decide_false,
 Int.toNat_natCast, Int.ofNat_lt, Int.ofNat_le, Int.natCast_inj, Bool.false_eq_true, Bool.true_eq_false, extPV, List.getElem?_cons_zero, List.getElem?_cons_succ, nilckPV, Int.reduceToNat, Int.reduceLE, true_and, and_true, reduceCtorEq, or_false, false_or, or_true, Option.some.injEq, exists_eq_left', Bool.not_true, Bool.not_false, ne_eq, Int.reduceEq, not_true_eq_false, not_false_eq_true, Int.reduceLT, UInt8.reduceLT, UInt8.reduceLE, UInt8.reduceToNat]
      exact bad (by simp [okFd, q1]) _ rfl rfl
    | true =>
    rw [q1] at hnm
    cases q2 : valB f.2 with
    | false =>
      rw [q2] at hvl
      simp (maxSteps := 1000000) (disch := omega) only [h0, h4, h5, h6, hlen, hlt, iaddr_f hx, ← hfe, fa_cp, load_cp0, load_cp1', hnm, hvl, W_seq, W_region, W_cond, W_block, W_skip, W_label, W_exit, W_goto, W_ret, WO_cons, WO_consG, WO_nil, wantedA_eq, wantB, evOp, ev_tmp, ev_const, ev_fn, WN_some, WN_none, updO_some, updO_none, upd_eq,
 ↓reduceIte, Nat.reduceEqDiff, List.nil_append, List.cons_append, List.append_nil, List.map_cons, List.map_nil, env0_zero, env0_succ, env0_nil, Option.map_some, Option.map_none, seqQ_normal, seqQ_ret, seqQ_exit, seqQ_goto, blockQ_normal, blockQ_ret, blockQ_exit, blockQ_goto, condW_bool, loopQ_ret, loopQ_exit, loopQ_goto, endQ_ret, endQ_normal,
 lss_i, leq_i, gtr_i, geq_i, eql_i, neq_i, eql_8, neq_8, lss_8, leq_8, gtr_8, geq_8, eql_s, neq_s, eql_b, neq_b, not_b, by_bys, by_nils, load_cp1, beq_true, beq_false, Bool.not_eq_true', decide_eq_true_eq, decide_eq_false_iff_not, decide_true, decide_false,
 Int.toNat_natCast, Int.ofNat_lt, Int.ofNat_le, Int.natCast_inj, Bool.false_eq_true, Bool.true_eq_false, extPV, List.getElem?_cons_zero, List.getElem?_cons_succ, nilckPV, Int.reduceToNat, Int.reduceLE, true_and, and_true, reduceCtorEq, or_false, false_or, or_true, Option.some.injEq, exists_eq_left', Bool.not_true, Bool.not_false, ne_eq, Int.reduceEq, not_true_eq_false, not_false_eq_true, Int.reduceLT, UInt8.reduceLT, UInt8.reduceLE, UInt8.reduceToNat]
      exact bad (by simp [okFd, q2]) _ rfl rfl
    | true =>
    rw [q2] at hvl
    have hokf : okFd f = true := by simp [okFd, q1, q2]
    have hq := okLen f hokf
    have hfb := fieldBytes_len hfo.1 hfo.2
    have hll := lineOf_len (f := f)
    obtain ⟨T, hT⟩ : ∃ T, T = piecesOf f := ⟨_, rfl⟩
    obtain ⟨base, hbase⟩ : ∃ base, base = (fs.take i).flatMap fieldBytes := ⟨_, rfl⟩
    obtain ⟨lg, hlg⟩ : ∃ lg, lg = (fs.take i).any longF := ⟨_, rfl⟩
    rw [← hbase] at hm hbl2
    rw [← hlg] at h5
    have hsn : (fs.take (i + 1)).flatMap fieldBytes = base ++ T.flatMap crl2 := by
      rw [take_getD' hlt, ← hfe, List.flatMap_append, hbase, hT]; simp [fieldBytes]
    have hfbl : (T.flatMap crl2).length ≤ 30000 := by rw [hT]; exact hfb
    have hlgn : (fs.take (i + 1)).any longF = (lg || T.any longX) := by
      rw [any_take (d := ([], [])) hlt, ← hlg, ← hfe, hT]; rfl
    clear hbase bad
    obtain ⟨J, hJ⟩ : ∃ J : Env → St → Prop, J = fun E S => S = s' ∧ E 0 = x ∧ E 4 = v ∧ E 5 = .bool lg ∧ E 6 = .int .i64 (i : Int) := ⟨_, rfl⟩
    refine W_cut J ?_ ?_
    · simp (maxSteps := 1000000) (disch := omega) only [h0, h4, h5, h6, hlen, hlt, hJ, W_seq, W_region, W_cond, W_block, W_skip, W_label, W_exit, W_goto, W_ret, WO_cons, WO_consG, WO_nil, wantedA_eq, wantB, evOp, ev_tmp, ev_const, ev_fn, WN_some, WN_none, updO_some, updO_none, upd_eq,
 ↓reduceIte, Nat.reduceEqDiff, List.nil_append, List.cons_append, List.append_nil, List.map_cons, List.map_nil, env0_zero, env0_succ, env0_nil, Option.map_some, Option.map_none, seqQ_normal, seqQ_ret, seqQ_exit, seqQ_goto, blockQ_normal, blockQ_ret, blockQ_exit, blockQ_goto, condW_bool, loopQ_ret, loopQ_exit, loopQ_goto, endQ_ret, endQ_normal,
 lss_i, leq_i, gtr_i, geq_i, eql_i, neq_i, eql_8, neq_8, lss_8, leq_8, gtr_8, geq_8, eql_s, neq_s, eql_b, neq_b, not_b, by_bys, by_nils, load_cp1, beq_true, beq_false, Bool.not_eq_true', decide_eq_true_eq, decide_eq_false_iff_not, decide_true, decide_false,
 Int.toNat_natCast, Int.ofNat_lt, Int.ofNat_le, Int.natCast_inj, Bool.false_eq_true, Bool.true_eq_false, extPV, List.getElem?_cons_zero, List.getElem?_cons_succ, nilckPV, Int.reduceToNat, Int.reduceLE, true_and, and_true, reduceCtorEq, or_false, false_or, or_true, Option.some.injEq, exists_eq_left', Bool.not_true, Bool.not_false, ne_eq, Int.reduceEq, not_true_eq_false, not_false_eq_true, Int.reduceLT, UInt8.reduceLT, UInt8.reduceLE, UInt8.reduceToNat]
    clear h0 h4 h5 h6
    intro e S hj
    rw [hJ] at hj
    obtain ⟨rfl, h0, h4, h5, h6⟩ := hj
    rw [W_seq, W_block]
    refine W_cut J ?_ ?_
    · simp (maxSteps := 1000000) (disch := omega) only [h0, h4, h5, h6, iaddr_f hx, ← hfe, fa_cp, load_cp0, load_cp1', hnm, hvl, hJ, W_seq, W_region, W_cond, W_block, W_skip, W_label, W_exit, W_goto, W_ret, WO_cons, WO_consG, WO_nil, wantedA_eq, wantB, evOp, ev_tmp, ev_const, ev_fn, WN_some, WN_none, updO_some, updO_none, upd_eq,
 ↓reduceIte, Nat.reduceEqDiff, List.nil_append, List.cons_append, List.append_nil, List.map_cons, List.map_nil, env0_zero, env0_succ, env0_nil, Option.map_some, Option.map_none, seqQ_normal, seqQ_ret, seqQ_exit, seqQ_goto, blockQ_normal, blockQ_ret, blockQ_exit, blockQ_goto, condW_bool, loopQ_ret, loopQ_exit, loopQ_goto, endQ_ret, endQ_normal,
 lss_i, leq_i, gtr_i, geq_i, eql_i, neq_i, eql_8, neq_8, lss_8, leq_8, gtr_8, geq_8, eql_s, neq_s, eql_b, neq_b, not_b, by_bys, by_nils, load_cp1, beq_true, beq_false, Bool.not_eq_true', decide_eq_true_eq, decide_eq_false_iff_not, decide_true, decide_false,
 Int.toNat_natCast, Int.ofNat_lt, Int.ofNat_le, Int.natCast_inj, Bool.false_eq_true, Bool.true_eq_false, extPV, List.getElem?_cons_zero, List.getElem?_cons_succ, nilckPV, Int.reduceToNat, Int.reduceLE, true_and, and_true, reduceCtorEq, or_false, false_or, or_true, Option.some.injEq, exists_eq_left', Bool.not_true, Bool.not_false, ne_eq, Int.reduceEq, not_true_eq_false, not_false_eq_true, Int.reduceLT, UInt8.reduceLT, UInt8.reduceLE, UInt8.reduceToNat]
    clear h0 h4 h5 h6
    intro e S hj
    rw [hJ] at hj
    obtain ⟨rfl, h0, h4, h5, h6⟩ := hj
    have ha0 : ∀ ek, binPV .add ek (.str f.1) (.str [58]) = some (.str (f.1 ++ [58])) := fun ek => adds (by simp; omega)
    refine W_cut (fun E S => J E S ∧ E 7 = .str (f.1 ++ [58])) ?_ ?_
    · simp (maxSteps := 1000000) (disch := omega) only [h0, h4, h5, h6, iaddr_f hx, ← hfe, fa_cp, load_cp0, load_cp1', ha0, hJ, W_seq, W_region, W_cond, W_block, W_skip, W_label, W_exit, W_goto, W_ret, WO_cons, WO_consG, WO_nil, wantedA_eq, wantB, evOp, ev_tmp, ev_const, ev_fn, WN_some, WN_none, updO_some, updO_none, upd_eq,
 ↓reduceIte, Nat.reduceEqDiff, List.nil_append, List.cons_append, List.append_nil, List.map_cons, List.map_nil, env0_zero, env0_succ, env0_nil, Option.map_some, Option.map_none, seqQ_normal, seqQ_ret, seqQ_exit, seqQ_goto, blockQ_normal, blockQ_ret, blockQ_exit, blockQ_goto, condW_bool, loopQ_ret, loopQ_exit, loopQ_goto, endQ_ret, endQ_normal,
 lss_i, leq_i, gtr_i, geq_i, eql_i, neq_i, eql_8, neq_8, lss_8, leq_8, gtr_8, geq_8, eql_s, neq_s, eql_b, neq_b, not_b, by_bys, by_nils, load_cp1, beq_true, beq_false, Bool.not_eq_true', decide_eq_true_eq, decide_eq_false_iff_not, decide_true, decide_false,
 Int.toNat_natCast, Int.ofNat_lt, Int.ofNat_le, Int.natCast_inj, Bool.false_eq_true, Bool.true_eq_false, extPV, List.getElem?_cons_zero, List.getElem?_cons_succ, nilckPV, Int.reduceToNat, Int.reduceLE, true_and, and_true, reduceCtorEq, or_false, false_or, or_true, Option.some.injEq, exists_eq_left', Bool.not_true, Bool.not_false, ne_eq, Int.reduceEq, not_true_eq_false, not_false_eq_true, Int.reduceLT, UInt8.reduceLT, UInt8.reduceLE, UInt8.reduceToNat]
    clear h0 h4 h5 h6
    rintro e S ⟨hj, h7⟩
    rw [hJ] at hj
    obtain ⟨rfl, h0, h4, h5, h6⟩ := hj
    refine W_cut (fun E S => J E S ∧ E 7 = .str (lineOf f)) ?_ ?_
    · by_cases hv : f.2 = []
      · rw [show lineOf f = f.1 ++ [58] by simp [lineOf, hv]]
        simp (maxSteps := 1000000) (disch := omega) only [h0, h4, h5, h6, h7, iaddr_f hx, ← hfe, fa_cp, load_cp0, load_cp1', eq_true hv, hJ, W_seq, W_region, W_cond, W_block, W_skip, W_label, W_exit, W_goto, W_ret, WO_cons, WO_consG, WO_nil, wantedA_eq, wantB, evOp, ev_tmp, ev_const, ev_fn, WN_some, WN_none, updO_some, updO_none, upd_eq,
 ↓reduceIte, Nat.reduceEqDiff, List.nil_append, List.cons_append, List.append_nil, List.map_cons, List.map_nil, env0_zero, env0_succ, env0_nil, Option.map_some, Option.map_none, seqQ_normal, seqQ_ret, seqQ_exit, seqQ_goto, blockQ_normal, blockQ_ret, blockQ_exit, blockQ_goto, condW_bool, loopQ_ret, loopQ_exit, loopQ_goto, endQ_ret, endQ_normal,
 lss_i, leq_i, gtr_i, geq_i, eql_i, neq_i, eql_8, neq_8, lss_8, leq_8, gtr_8, geq_8, eql_s, neq_s, eql_b, neq_b, not_b, by_bys, by_nils, load_cp1, beq_true, beq_false, Bool.not_eq_true', decide_eq_true_eq, decide_eq_false_iff_not, decide_true, decide_false,
 Int.toNat_natCast, Int.ofNat_lt, Int.ofNat_le, Int.natCast_inj, Bool.false_eq_true, Bool.true_eq_false, extPV, List.getElem?_cons_zero, List.getElem?_cons_succ, nilckPV, Int.reduceToNat, Int.reduceLE, true_and, and_true, reduceCtorEq, or_false, false_or, or_true, Option.some.injEq, exists_eq_left', Bool.not_true, Bool.not_false, ne_eq, Int.reduceEq, not_true_eq_false, not_false_eq_true, Int.reduceLT, UInt8.reduceLT, UInt8.reduceLE, UInt8.reduceToNat]
      · have ha1 : ∀ ek, binPV .add ek (.str (f.1 ++ [58])) (.str [32]) = some (.str (f.1 ++ [58] ++ [32])) := fun ek => adds (by simp; omega)
        have ha2 : ∀ ek, binPV .add ek (.str (f.1 ++ [58] ++ [32])) (.str f.2) = some (.str (lineOf f)) := fun ek => by
          rw [adds (by simp; omega)]; simp [lineOf, hv]
        simp (maxSteps := 1000000) (disch := omega) only [h0, h4, h5, h6, h7, iaddr_f hx, ← hfe, fa_cp, load_cp0, load_cp1', hv, ha1, ha2, hJ, W_seq, W_region, W_cond, W_block, W_skip, W_label, W_exit, W_goto, W_ret, WO_cons, WO_consG, WO_nil, wantedA_eq, wantB, evOp, ev_tmp, ev_const, ev_fn, WN_some, WN_none, updO_some, updO_none, upd_eq,
 ↓reduceIte, Nat.reduceEqDiff, List.nil_append, List.cons_append, List.append_nil, List.map_cons, List.map_nil, env0_zero, env0_succ, env0_nil, Option.map_some, Option.map_none, seqQ_normal, seqQ_ret, seqQ_exit, seqQ_goto, blockQ_normal, blockQ_ret, blockQ_exit, blockQ_goto, condW_bool, loopQ_ret, loopQ_exit, loopQ_goto, endQ_ret, endQ_normal,
 lss_i, leq_i, gtr_i, geq_i, eql_i, neq_i, eql_8, neq_8, lss_8, leq_8, gtr_8, geq_8, eql_s, neq_s, eql_b, neq_b, not_b, by_bys, by_nils, load_cp1, beq_true, beq_false, Bool.not_eq_true', decide_eq_true_eq, decide_eq_false_iff_not, decide_true, decide_false,
 Int.toNat_natCast, Int.ofNat_lt, Int.ofNat_le, Int.natCast_inj, Bool.false_eq_true, Bool.true_eq_false, extPV, List.getElem?_cons_zero, List.getElem?_cons_succ, nilckPV, Int.reduceToNat, Int.reduceLE, true_and, and_true, reduceCtorEq, or_false, false_or, or_true, Option.some.injEq, exists_eq_left', Bool.not_true, Bool.not_false, ne_eq, Int.reduceEq, not_true_eq_false, not_false_eq_true, Int.reduceLT, UInt8.reduceLT, UInt8.reduceLE, UInt8.reduceToNat]
    clear h0 h4 h5 h6 h7
    rintro e S ⟨hj, h7⟩
    rw [hJ] at hj
    obtain ⟨rfl, h0, h4, h5, h6⟩ := hj
    refine W_cut (fun E S => J E S ∧ E 7 = .str (lineOf f) ∧ E 8 = .int .i64 ((f.1.length + 3 : Nat) : Int)) ?_ ?_
    · simp (maxSteps := 1000000) (disch := omega) only [h0, h4, h5, h6, h7, iaddr_f hx, ← hfe, fa_cp, load_cp0, load_cp1', len_s, add_n, hJ, W_seq, W_region, W_cond, W_block, W_skip, W_label, W_exit, W_goto, W_ret, WO_cons, WO_consG, WO_nil, wantedA_eq, wantB, evOp, ev_tmp, ev_const, ev_fn, WN_some, WN_none, updO_some, updO_none, upd_eq,
 ↓reduceIte, Nat.reduceEqDiff, List.nil_append, List.cons_append, List.append_nil, List.map_cons, List.map_nil, env0_zero, env0_succ, env0_nil, Option.map_some, Option.map_none, seqQ_normal, seqQ_ret, seqQ_exit, seqQ_goto, blockQ_normal, blockQ_ret, blockQ_exit, blockQ_goto, condW_bool, loopQ_ret, loopQ_exit, loopQ_goto, endQ_ret, endQ_normal,
 lss_i, leq_i, gtr_i, geq_i, eql_i, neq_i, eql_8, neq_8, lss_8, leq_8, gtr_8, geq_8, eql_s, neq_s, eql_b, neq_b, not_b, by_bys, by_nils, load_cp1, beq_true, beq_false, Bool.not_eq_true', decide_eq_true_eq, decide_eq_false_iff_not, decide_true, decide_false,
 Int.toNat_natCast, Int.ofNat_lt, Int.ofNat_le, Int.natCast_inj, Bool.false_eq_true, Bool.true_eq_false, extPV, List.getElem?_cons_zero, List.getElem?_cons_succ, nilckPV, Int.reduceToNat, Int.reduceLE, true_and, and_true, reduceCtorEq, or_false, false_or, or_true, Option.some.injEq, exists_eq_left', Bool.not_true, Bool.not_false, ne_eq, Int.reduceEq, not_true_eq_false, not_false_eq_true, Int.reduceLT, UInt8.reduceLT, UInt8.reduceLE, UInt8.reduceToNat]
    clear h0 h4 h5 h6 h7
    rintro e S ⟨hj, h7, h8⟩
    rw [hJ] at hj
    obtain ⟨rfl, h0, h4, h5, h6⟩ := hj
    clear hJ J
    obtain ⟨J, hJ⟩ : ∃ J : Env → St → Prop, J = fun E S => ∃ (m : List UInt8) (v : PV) (acc : List (List UInt8)), Kept st S ∧ Mine st S v (base ++ acc.flatMap crl2) ∧ T = acc ++ [m] ∧ E 0 = x ∧ E 4 = v ∧ E 5 = .bool (lg || acc.any longX) ∧ E 6 = .int .i64 (i : Int) ∧ E 7 = .str m := ⟨_, rfl⟩
    refine W_cut J ?_ ?_
    · rw [W_block]
      obtain ⟨II, hII⟩ : ∃ II : Nat → Env → St → Prop, II = fun k E S => ∃ (m : List UInt8) (f' n' : Nat) (v : PV) (acc : List (List UInt8)), m.length = k ∧ m.length ≤ n' ∧ m.length ≤ 1000000 ∧ 1 ≤ f' ∧ f' ≤ 77 ∧ Kept st S ∧ Mine st S v (base ++ acc.flatMap crl2) ∧ T = acc ++ foldF n' m f' ∧ E 0 = x ∧ E 4 = v ∧ E 5 = .bool (lg || acc.any longX) ∧ E 6 = .int .i64 (i : Int) ∧ E 7 = .str m ∧ E 8 = .int .i64 (f' : Int) := ⟨_, rfl⟩
      refine W_loop II ?_ (n := (lineOf f).length) (by
        rw [hII]
        exact ⟨lineOf f, f.1.length + 3, (lineOf f).length, v, [], rfl, Nat.le_refl _, by omega, by omega, by omega, hk, by simpa using hm, by rw [hT]; rfl, h0, h4, by simpa using h5, h6, h7, h8⟩)
      clear h0 h4 h5 h6 h7 h8 hk hm
      intro k e S hh
      rw [hII] at hh
      obtain ⟨m, f', n', v, acc, rfl, hmn, hm6, hf1, hf3, hk, hm, hTT, h0, h4, h5, h6, h7, h8⟩ := hh
      by_cases hlt2 : 76 < m.length
      · have e1 : (76 : Int) < (m.length : Int) := by omega
        obtain ⟨n'', rfl⟩ : ∃ n'', n' = n'' + 1 := ⟨n' - 1, by omega⟩
        simp only [foldF, hlt2, if_true] at hTT
        have hple := plc_le (l := m) (f := f') m.length
        have hplc : ∀ S : St, call prog (.fn 162 []) [.str m, .int .i64 (f' : Int)] S = some (.int .i64 (plc m f' m.length), S) := fun S => place_walk hm6 (by omega)
        by_cases hp0 : plc m f' m.length < 0
        · rw [if_pos hp0] at hTT
          simp (maxSteps := 1000000) (disch := omega) only [h0, h4, h5, h6, h7, h8, len_s, e1, hplc, hp0, hJ, W_seq, W_region, W_cond, W_block, W_skip, W_label, W_exit, W_goto, W_ret, WO_cons, WO_consG, WO_nil, wantedA_eq, wantB, evOp, ev_tmp, ev_const, ev_fn, WN_some, WN_none, updO_some, updO_none, upd_eq,
 ↓reduceIte, Nat.reduceEqDiff, List.nil_append, List.cons_append, List.append_nil, List.map_cons, List.map_nil, env0_zero, env0_succ, env0_nil, Option.map_some, Option.map_none, seqQ_normal, seqQ_ret, seqQ_exit, seqQ_goto, blockQ_normal, blockQ_ret, blockQ_exit, blockQ_goto, condW_bool, loopQ_ret, loopQ_exit, loopQ_goto, endQ_ret, endQ_normal,
 lss_i, leq_i, gtr_i, geq_i, eql_i, neq_i, eql_8, neq_8, lss_8, leq_8, gtr_8, geq_8, eql_s, neq_s, eql_b, neq_b, not_b, by_bys, by_nils, load_cp1, beq_true, beq_false, Bool.not_eq_true', decide_eq_true_eq, decide_eq_false_iff_not, decide_true, decide_false,
 Int.toNat_natCast, Int.ofNat_lt, Int.ofNat_le, Int.natCast_inj, Bool.false_eq_true, Bool.true_eq_false, extPV, List.getElem?_cons_zero, List.getElem?_cons_succ, nilckPV, Int.reduceToNat, Int.reduceLE, true_and, and_true, reduceCtorEq, or_false, false_or, or_true, Option.some.injEq, exists_eq_left', Bool.not_true, Bool.not_false, ne_eq, Int.reduceEq, not_true_eq_false, not_false_eq_true, Int.reduceLT, UInt8.reduceLT, UInt8.reduceLE, UInt8.reduceToNat]
          exact ⟨m, v, acc, hk, hm, hTT, rfl, rfl, rfl⟩
        · obtain ⟨pn, hpn⟩ : ∃ pn : Nat, plc m f' m.length = (pn : Int) := ⟨(plc m f' m.length).toNat, by omega⟩
          rw [hpn] at hTT hplc hple
          have e2 : ¬ (pn : Int) < 0 := by omega
          rw [if_neg e2, Int.toNat_natCast] at hTT
          have hfp : f' ≤ pn := by have := hple.2.2 (by omega); omega
          have hTc : T.flatMap crl2 = acc.flatMap crl2 ++ (crl2 (m.take pn) ++ (foldF n'' (m.drop pn) 1).flatMap crl2) := by rw [hTT]; simp
          have hTl := congrArg List.length hTc
          simp only [List.length_append, crl2, List.length_cons, List.length_nil] at hTl
          obtain ⟨v1, S1, a1, k1, m1⟩ := hk.app8 (y := .str (m.take pn)) (m := m.take pn) hm rfl (by simp only [List.length_append, room]; simp only [crl2] at *; omega)
          obtain ⟨v2, S2, a2, k2, m2⟩ := k1.push2 (c := 13) (d := 10) m1 (by simp only [List.length_append, room]; simp only [crl2] at *; omega)
          have hnext : ∀ (E : Env) (b : Bool), b = (lg || acc.any longX || longX (m.take pn)) → E 0 = x → E 4 = v2 → E 5 = .bool b → E 6 = .int .i64 (i : Int) → E 7 = .str (m.drop pn) → E 8 = .int .i64 1 → II (m.length - pn) E S2 := by
            intro E b hb j0 j4 j5 j6 j7 j8
            rw [hII]
            refine ⟨m.drop pn, 1, n'', v2, acc ++ [m.take pn], by simp, by simp; omega, by simp; omega, by omega, by omega, k2, ?_, ?_, j0, j4, ?_, j6, j7, j8⟩
            · rw [List.flatMap_append]; simpa [crl2] using m2
            · rw [hTT]; simp
            · rw [j5, hb, List.any_append]; simp [Bool.or_assoc]
          have hlx : longX (m.take pn) = decide (998 < pn) := by unfold longX; rw [List.length_take, Nat.min_eq_left (by omega)]
          cases hb : (lg || acc.any longX) with
          | true =>
            rw [hb] at h5
            simp (maxSteps := 1000000) (disch := omega) only [h0, h4, h5, h6, h7, h8, len_s, e1, hplc, e2, slc_s_hi, slc_s_lo, a1, lit8_2, freshT_eq, a2, W_seq, W_region, W_cond, W_block, W_skip, W_label, W_exit, W_goto, W_ret, WO_cons, WO_consG, WO_nil, wantedA_eq, wantB, evOp, ev_tmp, ev_const, ev_fn, WN_some, WN_none, updO_some, updO_none, upd_eq,
 ↓reduceIte, Nat.reduceEqDiff, List.nil_append, List.cons_append, List.append_nil, List.map_cons, List.map_nil, env0_zero, env0_succ, env0_nil, Option.map_some, Option.map_none, seqQ_normal, seqQ_ret, seqQ_exit, seqQ_goto, blockQ_normal, blockQ_ret, blockQ_exit, blockQ_goto, condW_bool, loopQ_ret, loopQ_exit, loopQ_goto, endQ_ret, endQ_normal,
 lss_i, leq_i, gtr_i, geq_i, eql_i, neq_i, eql_8, neq_8, lss_8, leq_8, gtr_8, geq_8, eql_s, neq_s, eql_b, neq_b, not_b, by_bys, by_nils, load_cp1, beq_true, beq_false, Bool.not_eq_true', decide_eq_true_eq, decide_eq_false_iff_not, decide_true, decide_false,
 Int.toNat_natCast, Int.ofNat_lt, Int.ofNat_le, Int.natCast_inj, Bool.false_eq_true, Bool.true_eq_false, extPV, List.getElem?_cons_zero, List.getElem?_cons_succ, nilckPV, Int.reduceToNat, Int.reduceLE, true_and, and_true, reduceCtorEq, or_false, false_or, or_true, Option.some.injEq, exists_eq_left', Bool.not_true, Bool.not_false, ne_eq, Int.reduceEq, not_true_eq_false, not_false_eq_true, Int.reduceLT, UInt8.reduceLT, UInt8.reduceLE, UInt8.reduceToNat]
            exact loopQ_intro (m := m.length - pn) (by omega) (hnext _ true (by simp [hb]) h0 rfl rfl h6 rfl rfl)
          | false =>
            rw [hb] at h5
            by_cases h998 : 998 < pn
            · have e3 : (998 : Int) < (pn : Int) := by omega
              simp (maxSteps := 1000000) (disch := omega) only [h0, h4, h5, h6, h7, h8, len_s, e1, hplc, e2, e3, slc_s_hi, slc_s_lo, a1, lit8_2, freshT_eq, a2, W_seq, W_region, W_cond, W_block, W_skip, W_label, W_exit, W_goto, W_ret, WO_cons, WO_consG, WO_nil, wantedA_eq, wantB, evOp, ev_tmp, ev_const, ev_fn, WN_some, WN_none, updO_some, updO_none, upd_eq,
 ↓reduceIte, Nat.reduceEqDiff, List.nil_append, List.cons_append, List.append_nil, List.map_cons, List.map_nil, env0_zero, env0_succ, env0_nil, Option.map_some, Option.map_none, seqQ_normal, seqQ_ret, seqQ_exit, seqQ_goto, blockQ_normal, blockQ_ret, blockQ_exit, blockQ_goto, condW_bool, loopQ_ret, loopQ_exit, loopQ_goto, endQ_ret, endQ_normal,
 lss_i, leq_i, gtr_i, geq_i, eql_i, neq_i, eql_8, neq_8, lss_8, leq_8, gtr_8, geq_8, eql_s, neq_s, eql_b, neq_b, not_b, by_bys, by_nils, load_cp1, beq_true, beq_false, Bool.not_eq_true', decide_eq_true_eq, decide_eq_false_iff_not, decide_true, decide_false,
 Int.toNat_natCast, Int.ofNat_lt, Int.ofNat_le, Int.natCast_inj, Bool.false_eq_true, Bool.true_eq_false, extPV, List.getElem?_cons_zero, List.getElem?_cons_succ, nilckPV, Int.reduceToNat, Int.reduceLE, true_and, and_true, reduceCtorEq, or_false, false_or, or_true, Option.some.injEq, exists_eq_left', Bool.not_true, Bool.not_false, ne_eq, Int.reduceEq, not_true_eq_false, not_false_eq_true, Int.reduceLT, UInt8.reduceLT, UInt8.reduceLE, UInt8.reduceToNat]
              exact loopQ_intro (m := m.length - pn) (by omega) (hnext _ true (by simp [hb, hlx, h998]) h0 rfl rfl h6 rfl rfl)
            · have e3 : ¬ (998 : Int) < (pn : Int) := by omega
              simp (maxSteps := 1000000) (disch := omega) only [h0, h4, h5, h6, h7, h8, len_s, e1, hplc, e2, e3, slc_s_hi, slc_s_lo, a1, lit8_2, freshT_eq, a2, W_seq, W_region, W_cond, W_block, W_skip, W_label, W_exit, W_goto, W_ret, WO_cons, WO_consG, WO_nil, wantedA_eq, wantB, evOp, ev_tmp, ev_const, ev_fn, WN_some, WN_none, updO_some, updO_none, upd_eq,
 ↓reduceIte, Nat.reduceEqDiff, List.nil_append, List.cons_append, List.append_nil, List.map_cons, List.map_nil, env0_zero, env0_succ, env0_nil, Option.map_some, Option.map_none, seqQ_normal, seqQ_ret, seqQ_exit, seqQ_goto, blockQ_normal, blockQ_ret, blockQ_exit, blockQ_goto, condW_bool, loopQ_ret, loopQ_exit, loopQ_goto, endQ_ret, endQ_normal,
 lss_i, leq_i, gtr_i, geq_i, eql_i, neq_i, eql_8, neq_8, lss_8, leq_8, gtr_8, geq_8, eql_s, neq_s, eql_b, neq_b, not_b, by_bys, by_nils, load_cp1, beq_true, beq_false, Bool.not_eq_true', decide_eq_true_eq, decide_eq_false_iff_not, decide_true, decide_false,
 Int.toNat_natCast, Int.ofNat_lt, Int.ofNat_le, Int.natCast_inj, Bool.false_eq_true, Bool.true_eq_false, extPV, List.getElem?_cons_zero, List.getElem?_cons_succ, nilckPV, Int.reduceToNat, Int.reduceLE, true_and, and_true, reduceCtorEq, or_false, false_or, or_true, Option.some.injEq, exists_eq_left', Bool.not_true, Bool.not_false, ne_eq, Int.reduceEq, not_true_eq_false, not_false_eq_true, Int.reduceLT, UInt8.reduceLT, UInt8.reduceLE, UInt8.reduceToNat]
              exact loopQ_intro (m := m.length - pn) (by omega) (hnext _ false (by simp [hb, hlx, h998]) h0 rfl rfl h6 rfl rfl)
      · have e1 : ¬ (76 : Int) < (m.length : Int) := by omega
        have hTf : T = acc ++ [m] := by
          rw [hTT]
          cases n' with
          | zero => rfl
          | succ n'' => simp only [foldF, hlt2, if_false]
        simp (maxSteps := 1000000) (disch := omega) only [h0, h4, h5, h6, h7, h8, len_s, e1, hJ, W_seq, W_region, W_cond, W_block, W_skip, W_label, W_exit, W_goto, W_ret, WO_cons, WO_consG, WO_nil, wantedA_eq, wantB, evOp, ev_tmp, ev_const, ev_fn, WN_some, WN_none, updO_some, updO_none, upd_eq,
 ↓reduceIte, Nat.reduceEqDiff, List.nil_append, List.cons_append, List.append_nil, List.map_cons, List.map_nil, env0_zero, env0_succ, env0_nil, Option.map_some, Option.map_none, seqQ_normal, seqQ_ret, seqQ_exit, seqQ_goto, blockQ_normal, blockQ_ret, blockQ_exit, blockQ_goto, condW_bool, loopQ_ret, loopQ_exit, loopQ_goto, endQ_ret, endQ_normal,
 lss_i, leq_i, gtr_i, geq_i, eql_i, neq_i, eql_8, neq_8, lss_8, leq_8, gtr_8, geq_8, eql_s, neq_s, eql_b, neq_b, not_b, by_bys, by_nils, load_cp1, beq_true, beq_false, Bool.not_eq_true', decide_eq_true_eq, decide_eq_false_iff_not, decide_true, decide_false,
 Int.toNat_natCast, Int.ofNat_lt, Int.ofNat_le, Int.natCast_inj, Bool.false_eq_true, Bool.true_eq_false, extPV, List.getElem?_cons_zero, List.getElem?_cons_succ, nilckPV, Int.reduceToNat, Int.reduceLE, true_and, and_true, reduceCtorEq, or_false, false_or, or_true, Option.some.injEq, exists_eq_left', Bool.not_true, Bool.not_false, ne_eq, Int.reduceEq, not_true_eq_false, not_false_eq_true, Int.reduceLT, UInt8.reduceLT, UInt8.reduceLE, UInt8.reduceToNat]
        exact ⟨m, v, acc, hk, hm, hTf, rfl, rfl, rfl⟩
    clear h0 h4 h5 h6 h7 h8 hk hm
    intro e S hj
    rw [hJ] at hj
    obtain ⟨m, v, acc, hk, hm, hTT, h0, h4, h5, h6, h7⟩ := hj
    have hTc : T.flatMap crl2 = acc.flatMap crl2 ++ crl2 m := by rw [hTT]; simp
    have hTl := congrArg List.length hTc
    simp only [List.length_append, crl2, List.length_cons, List.length_nil] at hTl
    obtain ⟨v1, S1, a1, k1, m1⟩ := hk.app8 (y := .str m) (m := m) hm rfl (by simp only [List.length_append, room]; simp only [crl2] at *; omega)
    obtain ⟨v2, S2, a2, k2, m2⟩ := k1.push2 (c := 13) (d := 10) m1 (by simp only [List.length_append, room]; simp only [crl2] at *; omega)
    have hnext : ∀ (E : Env) (b : Bool), b = (lg || acc.any longX || longX m) → E 0 = x → E 4 = v2 → E 5 = .bool b → E 6 = .int .i64 ((i + 1 : Nat) : Int) → I (fs.length - (i + 1)) E S2 := by
      intro E b hb j0 j4 j5 j6
      rw [hI]
      refine ⟨i + 1, v2, rfl, by omega, k2, ?_, fun j hj => ?_, j0, j4, ?_, j6⟩
      · rw [hsn, hTc]; simpa [crl2] using m2
      · by_cases hji : j = i
        · subst hji; rw [← hfe]; exact hokf
        · exact hok j (by omega)
      · rw [j5, hb, hlgn, hTT, List.any_append]; simp [Bool.or_assoc]
    cases hb : (lg || acc.any longX) with
    | true =>
      rw [hb] at h5
      simp (maxSteps := 1000000) (disch := omega) only [h0, h4, h5, h6, h7, len_s, a1, lit8_2, freshT_eq, a2, add_n, W_seq, W_region, W_cond, W_block, W_skip, W_label, W_exit, W_goto, W_ret, WO_cons, WO_consG, WO_nil, wantedA_eq, wantB, evOp, ev_tmp, ev_const, ev_fn, WN_some, WN_none, updO_some, updO_none, upd_eq,
 ↓reduceIte, Nat.reduceEqDiff, List.nil_append, List.cons_append, List.append_nil, List.map_cons, List.map_nil, env0_zero, env0_succ, env0_nil, Option.map_some, Option.map_none, seqQ_normal, seqQ_ret, seqQ_exit, seqQ_goto, blockQ_normal, blockQ_ret, blockQ_exit, blockQ_goto, condW_bool, loopQ_ret, loopQ_exit, loopQ_goto, endQ_ret, endQ_normal,
 lss_i, leq_i, gtr_i, geq_i, eql_i, neq_i, eql_8, neq_8, lss_8, leq_8, gtr_8, geq_8, eql_s, neq_s, eql_b, neq_b, not_b, by_bys, by_nils, load_cp1, beq_true, beq_false, Bool.not_eq_true', decide_eq_true_eq, decide_eq_false_iff_not, decide_true, decide_false,
 Int.toNat_natCast, Int.ofNat_lt, Int.ofNat_le, Int.natCast_inj, Bool.false_eq_true, Bool.true_eq_false, extPV, List.getElem?_cons_zero, List.getElem?_cons_succ, nilckPV, Int.reduceToNat, Int.reduceLE, true_and, and_true, reduceCtorEq, or_false, false_or, or_true, Option.some.injEq, exists_eq_left', Bool.not_true, Bool.not_false, ne_eq, Int.reduceEq, not_true_eq_false, not_false_eq_true, Int.reduceLT, UInt8.reduceLT, UInt8.reduceLE, UInt8.reduceToNat]
      exact loopQ_intro (m := fs.length - (i + 1)) (by omega) (hnext _ true (by simp [hb]) h0 rfl rfl rfl)
    | false =>
      rw [hb] at h5
      by_cases h998 : 998 < m.length
      · have e3 : (998 : Int) < (m.length : Int) := by omega
        simp (maxSteps := 1000000) (disch := omega) only [h0, h4, h5, h6, h7, len_s, e3, a1, lit8_2, freshT_eq, a2, add_n, W_seq, W_region, W_cond, W_block, W_skip, W_label, W_exit, W_goto, W_ret, WO_cons, WO_consG, WO_nil, wantedA_eq, wantB, evOp, ev_tmp, ev_const, ev_fn, WN_some, WN_none, updO_some, updO_none, upd_eq,
 ↓reduceIte, Nat.reduceEqDiff, List.nil_append, List.cons_append, List.append_nil, List.map_cons, List.map_nil, env0_zero, env0_succ, env0_nil, Option.map_some, Option.map_none, seqQ_normal, seqQ_ret, seqQ_exit, seqQ_goto, blockQ_normal, blockQ_ret, blockQ_exit, blockQ_goto, condW_bool, loopQ_ret, loopQ_exit, loopQ_goto, endQ_ret, endQ_normal,
 lss_i, leq_i, gtr_i, geq_i, eql_i, neq_i, eql_8, neq_8, lss_8, leq_8, gtr_8, geq_8, eql_s, neq_s, eql_b, neq_b, not_b, by_bys, by_nils, load_cp1, beq_true, beq_false, Bool.not_eq_true', decide_eq_true_eq, decide_eq_false_iff_not, decide_true, decide_false,
 Int.toNat_natCast, Int.ofNat_lt, Int.ofNat_le, Int.natCast_inj, Bool.false_eq_true, Bool.true_eq_false, extPV, List.getElem?_cons_zero, List.getElem?_cons_succ, nilckPV, Int.reduceToNat, Int.reduceLE, true_and, and_true, reduceCtorEq, or_false, false_or, or_true, Option.some.injEq, exists_eq_left', Bool.not_true, Bool.not_false, ne_eq, Int.reduceEq, not_true_eq_false, not_false_eq_true, Int.reduceLT, UInt8.reduceLT, UInt8.reduceLE, UInt8.reduceToNat]
        exact loopQ_intro (m := fs.length - (i + 1)) (by omega) (hnext _ true (by simp [hb, longX, h998]) h0 rfl rfl rfl)
      · have e3 : ¬ (998 : Int) < (m.length : Int) := by omega
        simp (maxSteps := 1000000) (disch := omega) only [h0, h4, h5, h6, h7, len_s, e3, a1, lit8_2, freshT_eq, a2, add_n, W_seq, W_region, W_cond, W_block, W_skip, W_label, W_exit, W_goto, W_ret, WO_cons, WO_consG, WO_nil, wantedA_eq, wantB, evOp, ev_tmp, ev_const, ev_fn, WN_some, WN_none, updO_some, updO_none, upd_eq,
 ↓reduceIte, Nat.reduceEqDiff, List.nil_append, List.cons_append, List.append_nil, List.map_cons, List.map_nil, env0_zero, env0_succ, env0_nil, Option.map_some, Option.map_none, seqQ_normal, seqQ_ret, seqQ_exit, seqQ_goto, blockQ_normal, blockQ_ret, blockQ_exit, blockQ_goto, condW_bool, loopQ_ret, loopQ_exit, loopQ_goto, endQ_ret, endQ_normal,
 lss_i, leq_i, gtr_i, geq_i, eql_i, neq_i, eql_8, neq_8, lss_8, leq_8, gtr_8, geq_8, eql_s, neq_s, eql_b, neq_b, not_b, by_bys, by_nils, load_cp1, beq_true, beq_false, Bool.not_eq_true', decide_eq_true_eq, decide_eq_false_iff_not, decide_true, decide_false,
 Int.toNat_natCast, Int.ofNat_lt, Int.ofNat_le, Int.natCast_inj, Bool.false_eq_true, Bool.true_eq_false, extPV, List.getElem?_cons_zero, List.getElem?_cons_succ, nilckPV, Int.reduceToNat, Int.reduceLE, true_and, and_true, reduceCtorEq, or_false, false_or, or_true, Option.some.injEq, exists_eq_left', Bool.not_true, Bool.not_false, ne_eq, Int.reduceEq, not_true_eq_false, not_false_eq_true, Int.reduceLT, UInt8.reduceLT, UInt8.reduceLE, UInt8.reduceToNat]
        exact loopQ_intro (m := fs.length - (i + 1)) (by omega) (hnext _ false (by simp [hb, longX, h998]) h0 rfl rfl rfl)
  · obtain rfl : i = fs.length := by omega
    rw [List.take_length] at hm hbl2 h5
    have hall : fs.all okFd = true := all_take hok
    cases hb : fs.any longF with
    | true =>
      rw [hb] at h5
      simp (maxSteps := 1000000) (disch := omega) only [h0, h4, h5, h6, hlen, hlt, W_seq, W_region, W_cond, W_block, W_skip, W_label, W_exit, W_goto, W_ret, WO_cons, WO_consG, WO_nil, wantedA_eq, wantB, evOp, ev_tmp, ev_const, ev_fn, WN_some, WN_none, updO_some, updO_none, upd_eq,
 ↓reduceIte, Nat.reduceEqDiff, List.nil_append, List.cons_append, List.append_nil, List.map_cons, List.map_nil, env0_zero, env0_succ, env0_nil, Option.map_some, Option.map_none, seqQ_normal, seqQ_ret, seqQ_exit, seqQ_goto, blockQ_normal, blockQ_ret, blockQ_exit, blockQ_goto, condW_bool, loopQ_ret, loopQ_exit, loopQ_goto, endQ_ret, endQ_normal,
 lss_i, leq_i, gtr_i, geq_i, eql_i, neq_i, eql_8, neq_8, lss_8, leq_8, gtr_8, geq_8, eql_s, neq_s, eql_b, neq_b, not_b, by_bys, by_nils, load_cp1, beq_true, beq_false, Bool.not_eq_true', decide_eq_true_eq, decide_eq_false_iff_not, decide_true, decide_false,
 Int.toNat_natCast, Int.ofNat_lt, Int.ofNat_le, Int.natCast_inj, Bool.false_eq_true, Bool.true_eq_false, extPV, List.getElem?_cons_zero, List.getElem?_cons_succ, nilckPV, Int.reduceToNat, Int.reduceLE, true_and, and_true, reduceCtorEq, or_false, false_or, or_true, Option.some.injEq, exists_eq_left', Bool.not_true, Bool.not_false, ne_eq, Int.reduceEq, not_true_eq_false, not_false_eq_true, Int.reduceLT, UInt8.reduceLT, UInt8.reduceLE, UInt8.reduceToNat]
      refine ⟨.tup [.nils, .int .i64 40], rfl, ?_⟩
      rw [show writeOf fs = (40, []) by simp [writeOf, h128, hall, hb]]
      exact hk.leave rfl (fun _ _ => rfl)
    | false =>
      rw [hb] at h5
      obtain ⟨v2, S2, a2, k2, m2⟩ := hk.push2 (c := 13) (d := 10) hm (by simp only [room]; omega)
      simp (maxSteps := 1000000) (disch := omega) only [h0, h4, h5, h6, hlen, hlt, lit8_2, freshT_eq, a2, W_seq, W_region, W_cond, W_block, W_skip, W_label, W_exit, W_goto, W_ret, WO_cons, WO_consG, WO_nil, wantedA_eq, wantB, evOp, ev_tmp, ev_const, ev_fn, WN_some, WN_none, updO_some, updO_none, upd_eq,
 ↓reduceIte, Nat.reduceEqDiff, List.nil_append, List.cons_append, List.append_nil, List.map_cons, List.map_nil, env0_zero, env0_succ, env0_nil, Option.map_some, Option.map_none, seqQ_normal, seqQ_ret, seqQ_exit, seqQ_goto, blockQ_normal, blockQ_ret, blockQ_exit, blockQ_goto, condW_bool, loopQ_ret, loopQ_exit, loopQ_goto, endQ_ret, endQ_normal,
 lss_i, leq_i, gtr_i, geq_i, eql_i, neq_i, eql_8, neq_8, lss_8, leq_8, gtr_8, geq_8, eql_s, neq_s, eql_b, neq_b, not_b, by_bys, by_nils, load_cp1, beq_true, beq_false, Bool.not_eq_true', decide_eq_true_eq, decide_eq_false_iff_not, decide_true, decide_false,
 Int.toNat_natCast, Int.ofNat_lt, Int.ofNat_le, Int.natCast_inj, Bool.false_eq_true, Bool.true_eq_false, extPV, List.getElem?_cons_zero, List.getElem?_cons_succ, nilckPV, Int.reduceToNat, Int.reduceLE, true_and, and_true, reduceCtorEq, or_false, false_or, or_true, Option.some.injEq, exists_eq_left', Bool.not_true, Bool.not_false, ne_eq, Int.reduceEq, not_true_eq_false, not_false_eq_true, Int.reduceLT, UInt8.reduceLT, UInt8.reduceLE, UInt8.reduceToNat]
      refine ⟨.tup [v2, .int .i64 0], ?_, ?_⟩
      · have hnt : notTup v2 = true := by rcases m2.1 with ⟨rfl, _⟩ | ⟨i, rfl, _⟩ <;> rfl
        simp [resOf, rvAll, rv1, upd_eq, hnt, packRes]
        rfl
      · rw [show writeOf fs = (0, fs.flatMap fieldBytes ++ [13, 10]) by simp [writeOf, h128, hall, hb]]
        exact leave_mine k2 m2 (by simp)
end Go.Ab

/-
  The law FieldsWrites.
-/
namespace Go.Ab
set_option linter.unusedVariables false
set_option linter.unusedSimpArgs false
variable {st s : St} {e : Env}

set_option maxRecDepth 100000 in
theorem alive06_e : evV prog 400 (.fn 144 []) [] ⟨[], [], [], 0⟩ = some (.bool true, ⟨[], [], [], 0⟩) := by kernel_rfl
set_option maxRecDepth 100000 in
theorem alive06_e2 : evV prog 400 (.fn 144 []) [] ⟨[], [true, true], [], 0⟩ = some (.bool true, ⟨[], [true, true], [], 0⟩) := by kernel_rfl
theorem al06_e : call prog (.fn 144 []) [] ⟨[], [], [], 0⟩ = some (.bool true, ⟨[], [], [], 0⟩) := call_of alive06_e
theorem al06_e2 : call prog (.fn 144 []) [] ⟨[], [true, true], [], 0⟩ = some (.bool true, ⟨[], [true, true], [], 0⟩) := call_of alive06_e2

theorem law_FieldsWrites {x : PV} {fs : List Fld} {t : List UInt8} (hx : x.vs 2 = some (fs.map fV)) (hm : ∀ f ∈ fs, f.1.length ≤ maxLen ∧ f.2.length ≤ maxLen) (hl : fs.length ≤ maxLen) (ht : t.length ≤ maxLen) :
    ∃ s', call prog (.fn 149 []) [x, .str t] ⟨[], [], [], 0⟩ = some (.bool true, s') := by
  have hML : maxLen ≤ 9223372036854775807 := by decide
  refine law_of_W prog_149 rfl ?_
  unfold F_posthornlaw06_FieldsWrites; dsimp only
  obtain ⟨g, hg, hgb⟩ := Great_spec (st := ⟨[], [], [], 0⟩) hx (fun f hf => ⟨by have := (hm f hf).1; omega, by have := (hm f hf).2; omega⟩) (by omega)
  cases g with
  | true =>
    simp (maxSteps := 1000000) (disch := omega) only [List.length_nil, hg, al06_e, W_seq, W_region, W_cond, W_block, W_skip, W_label, W_exit, W_goto, W_ret, WO_cons, WO_consG, WO_nil, wantedA_eq, wantB, evOp, ev_tmp, ev_const, ev_fn, WN_some, WN_none, updO_some, updO_none, upd_eq,
 ↓reduceIte, Nat.reduceEqDiff, List.nil_append, List.cons_append, List.append_nil, List.map_cons, List.map_nil, env0_zero, env0_succ, env0_nil, Option.map_some, Option.map_none, seqQ_normal, seqQ_ret, seqQ_exit, seqQ_goto, blockQ_normal, blockQ_ret, blockQ_exit, blockQ_goto, condW_bool, loopQ_ret, loopQ_exit, loopQ_goto, endQ_ret, endQ_normal,
 lss_i, leq_i, gtr_i, geq_i, eql_i, neq_i, eql_8, neq_8, lss_8, leq_8, gtr_8, geq_8, eql_s, neq_s, eql_b, neq_b, not_b, by_bys, by_nils, load_cp1, beq_true, beq_false, Bool.not_eq_true', decide_eq_true_eq, decide_eq_false_iff_not, decide_true, decide_false,
 Int.toNat_natCast, Int.ofNat_lt, Int.ofNat_le, Int.natCast_inj, Bool.false_eq_true, Bool.true_eq_false, extPV, List.getElem?_cons_zero, List.getElem?_cons_succ, nilckPV, Int.reduceToNat, Int.reduceLE, true_and, and_true, reduceCtorEq, or_false, false_or, or_true, Option.some.injEq, exists_eq_left', Bool.not_true, Bool.not_false, ne_eq, Int.reduceEq, not_true_eq_false, not_false_eq_true, Int.reduceLT, UInt8.reduceLT, UInt8.reduceLE, UInt8.reduceToNat]
  | false =>
  obtain ⟨hl2, hf⟩ := hgb rfl
  by_cases hn : 200 < t.length
  · have hn' : (200 : Int) < (t.length : Int) := by omega
    simp (maxSteps := 1000000) (disch := omega) only [List.length_nil, hg, al06_e, len_s, hn', W_seq, W_region, W_cond, W_block, W_skip, W_label, W_exit, W_goto, W_ret, WO_cons, WO_consG, WO_nil, wantedA_eq, wantB, evOp, ev_tmp, ev_const, ev_fn, WN_some, WN_none, updO_some, updO_none, upd_eq,
 ↓reduceIte, Nat.reduceEqDiff, List.nil_append, List.cons_append, List.append_nil, List.map_cons, List.map_nil, env0_zero, env0_succ, env0_nil, Option.map_some, Option.map_none, seqQ_normal, seqQ_ret, seqQ_exit, seqQ_goto, blockQ_normal, blockQ_ret, blockQ_exit, blockQ_goto, condW_bool, loopQ_ret, loopQ_exit, loopQ_goto, endQ_ret, endQ_normal,
 lss_i, leq_i, gtr_i, geq_i, eql_i, neq_i, eql_8, neq_8, lss_8, leq_8, gtr_8, geq_8, eql_s, neq_s, eql_b, neq_b, not_b, by_bys, by_nils, load_cp1, beq_true, beq_false, Bool.not_eq_true', decide_eq_true_eq, decide_eq_false_iff_not, decide_true, decide_false,
 Int.toNat_natCast, Int.ofNat_lt, Int.ofNat_le, Int.natCast_inj, Bool.false_eq_true, Bool.true_eq_false, extPV, List.getElem?_cons_zero, List.getElem?_cons_succ, nilckPV, Int.reduceToNat, Int.reduceLE, true_and, and_true, reduceCtorEq, or_false, false_or, or_true, Option.some.injEq, exists_eq_left', Bool.not_true, Bool.not_false, ne_eq, Int.reduceEq, not_true_eq_false, not_false_eq_true, Int.reduceLT, UInt8.reduceLT, UInt8.reduceLE, UInt8.reduceToNat]
  have hn' : ¬ (200 : Int) < (t.length : Int) := by omega
  have hW := Write_spec (st := ⟨[], [], [], 0⟩) hx hf (by omega)
  have hR := fun S : St => rWrite_spec (st := S) hx hf (by omega)
  have hG := fun S : St => Get_spec (st := S) (n := t) hx (by omega) hf (by omega)
  have hG2 := fun S : St => rGet_spec (st := S) (n := t) hx (by omega) hf (by omega)
  obtain ⟨c, b, hcb⟩ : ∃ c b, writeOf fs = (c, b) := ⟨_, _, rfl⟩
  obtain ⟨gv, gn, hgg⟩ : ∃ v n, getOf fs t = (v, n) := ⟨_, _, rfl⟩
  simp only [hcb, hgg, getV] at hW hR hG hG2
  by_cases hz : c = 0
  · subst hz
    simp only [outV, if_true, List.length_nil, St.tok1, List.nil_append] at hW hR
    have hR1 := hR ⟨[], [true], [], 0⟩
    simp only [List.length_cons, List.length_nil, List.cons_append, List.nil_append] at hR1
    simp (maxSteps := 1000000) (disch := omega) only [List.length_nil, hg, len_s, hn', hW, hR1, hG, hG2, al06_e2, b2s_by by_bys, eq_self, W_seq, W_region, W_cond, W_block, W_skip, W_label, W_exit, W_goto, W_ret, WO_cons, WO_consG, WO_nil, wantedA_eq, wantB, evOp, ev_tmp, ev_const, ev_fn, WN_some, WN_none, updO_some, updO_none, upd_eq,
 ↓reduceIte, Nat.reduceEqDiff, List.nil_append, List.cons_append, List.append_nil, List.map_cons, List.map_nil, env0_zero, env0_succ, env0_nil, Option.map_some, Option.map_none, seqQ_normal, seqQ_ret, seqQ_exit, seqQ_goto, blockQ_normal, blockQ_ret, blockQ_exit, blockQ_goto, condW_bool, loopQ_ret, loopQ_exit, loopQ_goto, endQ_ret, endQ_normal,
 lss_i, leq_i, gtr_i, geq_i, eql_i, neq_i, eql_8, neq_8, lss_8, leq_8, gtr_8, geq_8, eql_s, neq_s, eql_b, neq_b, not_b, by_bys, by_nils, load_cp1, beq_true, beq_false, Bool.not_eq_true', decide_eq_true_eq, decide_eq_false_iff_not, decide_true, decide_false,
 Int.toNat_natCast, Int.ofNat_lt, Int.ofNat_le, Int.natCast_inj, Bool.false_eq_true, Bool.true_eq_false, extPV, List.getElem?_cons_zero, List.getElem?_cons_succ, nilckPV, Int.reduceToNat, Int.reduceLE, true_and, and_true, reduceCtorEq, or_false, false_or, or_true, Option.some.injEq, exists_eq_left', Bool.not_true, Bool.not_false, ne_eq, Int.reduceEq, not_true_eq_false, not_false_eq_true, Int.reduceLT, UInt8.reduceLT, UInt8.reduceLE, UInt8.reduceToNat]
  · simp only [outV, hz, if_false] at hW hR
    simp (maxSteps := 1000000) (disch := omega) only [List.length_nil, hg, len_s, hn', hW, hR, hG, hG2, al06_e, b2s_by by_nils, eq_self, W_seq, W_region, W_cond, W_block, W_skip, W_label, W_exit, W_goto, W_ret, WO_cons, WO_consG, WO_nil, wantedA_eq, wantB, evOp, ev_tmp, ev_const, ev_fn, WN_some, WN_none, updO_some, updO_none, upd_eq,
 ↓reduceIte, Nat.reduceEqDiff, List.nil_append, List.cons_append, List.append_nil, List.map_cons, List.map_nil, env0_zero, env0_succ, env0_nil, Option.map_some, Option.map_none, seqQ_normal, seqQ_ret, seqQ_exit, seqQ_goto, blockQ_normal, blockQ_ret, blockQ_exit, blockQ_goto, condW_bool, loopQ_ret, loopQ_exit, loopQ_goto, endQ_ret, endQ_normal,
 lss_i, leq_i, gtr_i, geq_i, eql_i, neq_i, eql_8, neq_8, lss_8, leq_8, gtr_8, geq_8, eql_s, neq_s, eql_b, neq_b, not_b, by_bys, by_nils, load_cp1, beq_true, beq_false, Bool.not_eq_true', decide_eq_true_eq, decide_eq_false_iff_not, decide_true, decide_false,
 Int.toNat_natCast, Int.ofNat_lt, Int.ofNat_le, Int.natCast_inj, Bool.false_eq_true, Bool.true_eq_false, extPV, List.getElem?_cons_zero, List.getElem?_cons_succ, nilckPV, Int.reduceToNat, Int.reduceLE, true_and, and_true, reduceCtorEq, or_false, false_or, or_true, Option.some.injEq, exists_eq_left', Bool.not_true, Bool.not_false, ne_eq, Int.reduceEq, not_true_eq_false, not_false_eq_true, Int.reduceLT, UInt8.reduceLT, UInt8.reduceLE, UInt8.reduceToNat]
end Go.Ab

/-
  What the smallest functions come to.
-/
namespace Go.Ab
set_option linter.unusedVariables false
set_option linter.unusedSimpArgs false
variable {st : St} {e : Env}

theorem Equal_spec {x y : PV} {a b : List UInt8} (hx : x.by = some a) (hy : y.by = some b) : call prog (.fn 34 []) [x, y] st = some (.bool (decide (a = b)), st) := by
  refine call_of_W prog_34 ?_
  unfold F_bytes_Equal; dsimp only
  simp only [b2s_by hx, b2s_by hy, W_seq, W_region, W_cond, W_block, W_skip, W_label, W_exit, W_goto, W_ret, WO_cons, WO_consG, WO_nil, wantedA_eq, wantB, evOp, ev_tmp, ev_const, ev_fn, WN_some, WN_none, updO_some, updO_none, upd_eq,
 ↓reduceIte, Nat.reduceEqDiff, List.nil_append, List.cons_append, List.append_nil, List.map_cons, List.map_nil, env0_zero, env0_succ, env0_nil, Option.map_some, Option.map_none, seqQ_normal, seqQ_ret, seqQ_exit, seqQ_goto, blockQ_normal, blockQ_ret, blockQ_exit, blockQ_goto, condW_bool, loopQ_ret, loopQ_exit, loopQ_goto, endQ_ret, endQ_normal,
 lss_i, leq_i, gtr_i, geq_i, eql_i, neq_i, eql_8, neq_8, lss_8, leq_8, gtr_8, geq_8, eql_s, neq_s, eql_b, neq_b, not_b, by_bys, by_nils, load_cp1, beq_true, beq_false, Bool.not_eq_true', decide_eq_true_eq, decide_eq_false_iff_not, decide_true, decide_false,
 Int.toNat_natCast, Int.ofNat_lt, Int.ofNat_le, Int.natCast_inj, Bool.false_eq_true, Bool.true_eq_false, extPV, List.getElem?_cons_zero, List.getElem?_cons_succ, nilckPV, Int.reduceToNat, Int.reduceLE, true_and, and_true, reduceCtorEq, or_false, false_or, or_true, Option.some.injEq, exists_eq_left', Bool.not_true, Bool.not_false, ne_eq, Int.reduceEq, not_true_eq_false, not_false_eq_true, Int.reduceLT, UInt8.reduceLT, UInt8.reduceLE, UInt8.reduceToNat]
  exact ⟨_, rfl, leave_pure rfl rfl⟩

theorem HasSuffix_spec {x y : PV} {a b : List UInt8} (hx : x.by = some a) (hy : y.by = some b) (ha : a.length < 4611686018427387904) : call prog (.fn 28 []) [x, y] st = some (.bool (decide (b <:+ a)), st) := by
  refine call_of_W prog_28 ?_
  by_cases h : b.length ≤ a.length
  · have hs : (x.dropB (a.length - b.length)).by = some (a.drop (a.length - b.length)) := dropB_by hx
    have h' : (b.length : Int) ≤ a.length := by omega
    unfold F_bytes_HasSuffix; dsimp only
    simp (maxSteps := 1000000) (disch := omega) only [len_by hx, len_by hy, h', sub_n, slc_lo hx, Equal_spec hs hy, W_seq, W_region, W_cond, W_block, W_skip, W_label, W_exit, W_goto, W_ret, WO_cons, WO_consG, WO_nil, wantedA_eq, wantB, evOp, ev_tmp, ev_const, ev_fn, WN_some, WN_none, updO_some, updO_none, upd_eq,
 ↓reduceIte, Nat.reduceEqDiff, List.nil_append, List.cons_append, List.append_nil, List.map_cons, List.map_nil, env0_zero, env0_succ, env0_nil, Option.map_some, Option.map_none, seqQ_normal, seqQ_ret, seqQ_exit, seqQ_goto, blockQ_normal, blockQ_ret, blockQ_exit, blockQ_goto, condW_bool, loopQ_ret, loopQ_exit, loopQ_goto, endQ_ret, endQ_normal,
 lss_i, leq_i, gtr_i, geq_i, eql_i, neq_i, eql_8, neq_8, lss_8, leq_8, gtr_8, geq_8, eql_s, neq_s, eql_b, neq_b, not_b, by_bys, by_nils, load_cp1, beq_true, beq_false, Bool.not_eq_true', decide_eq_true_eq, decide_eq_false_iff_not, decide_true, decide_false,
 Int.toNat_natCast, Int.ofNat_lt, Int.ofNat_le, Int.natCast_inj, Bool.false_eq_true, Bool.true_eq_false, extPV, List.getElem?_cons_zero, List.getElem?_cons_succ, nilckPV, Int.reduceToNat, Int.reduceLE, true_and, and_true, reduceCtorEq, or_false, false_or, or_true, Option.some.injEq, exists_eq_left', Bool.not_true, Bool.not_false, ne_eq, Int.reduceEq, not_true_eq_false, not_false_eq_true, Int.reduceLT, UInt8.reduceLT, UInt8.reduceLE, UInt8.reduceToNat]
    refine ⟨_, rfl, ?_⟩
    rw [show decide (a.drop (a.length - b.length) = b) = decide (b <:+ a) by
      rw [decide_eq_decide]
      exact ⟨fun hd => hd ▸ List.drop_suffix _ _, fun hd => by
        obtain ⟨t, rfl⟩ := hd
        simp⟩]
    exact leave_pure rfl rfl
  · have h' : ¬ (b.length : Int) ≤ a.length := by omega
    unfold F_bytes_HasSuffix; dsimp only
    simp (maxSteps := 1000000) (disch := omega) only [len_by hx, len_by hy, h', W_seq, W_region, W_cond, W_block, W_skip, W_label, W_exit, W_goto, W_ret, WO_cons, WO_consG, WO_nil, wantedA_eq, wantB, evOp, ev_tmp, ev_const, ev_fn, WN_some, WN_none, updO_some, updO_none, upd_eq,
 ↓reduceIte, Nat.reduceEqDiff, List.nil_append, List.cons_append, List.append_nil, List.map_cons, List.map_nil, env0_zero, env0_succ, env0_nil, Option.map_some, Option.map_none, seqQ_normal, seqQ_ret, seqQ_exit, seqQ_goto, blockQ_normal, blockQ_ret, blockQ_exit, blockQ_goto, condW_bool, loopQ_ret, loopQ_exit, loopQ_goto, endQ_ret, endQ_normal,
 lss_i, leq_i, gtr_i, geq_i, eql_i, neq_i, eql_8, neq_8, lss_8, leq_8, gtr_8, geq_8, eql_s, neq_s, eql_b, neq_b, not_b, by_bys, by_nils, load_cp1, beq_true, beq_false, Bool.not_eq_true', decide_eq_true_eq, decide_eq_false_iff_not, decide_true, decide_false,
 Int.toNat_natCast, Int.ofNat_lt, Int.ofNat_le, Int.natCast_inj, Bool.false_eq_true, Bool.true_eq_false, extPV, List.getElem?_cons_zero, List.getElem?_cons_succ, nilckPV, Int.reduceToNat, Int.reduceLE, true_and, and_true, reduceCtorEq, or_false, false_or, or_true, Option.some.injEq, exists_eq_left', Bool.not_true, Bool.not_false, ne_eq, Int.reduceEq, not_true_eq_false, not_false_eq_true, Int.reduceLT, UInt8.reduceLT, UInt8.reduceLE, UInt8.reduceToNat]
    refine ⟨_, rfl, ?_⟩
    rw [show decide (b <:+ a) = false by
      rw [decide_eq_false_iff_not]
      intro hd
      exact h hd.length_le]
    exact leave_pure rfl rfl
end Go.Ab

/-
  What small functions come to: beginnings and ends, the place of a bare 13 or 10, copies.
-/
namespace Go.Ab
set_option linter.unusedVariables false
set_option linter.unusedSimpArgs false
variable {st : St} {e : Env}

theorem HasPrefix_spec {x y : PV} {a b : List UInt8} (hx : x.by = some a) (hy : y.by = some b) : call prog (.fn 35 []) [x, y] st = some (.bool (decide (b <+: a)), st) := by
  refine call_of_W prog_35 ?_
  unfold F_bytes_HasPrefix; dsimp only
  by_cases h : b.length ≤ a.length
  · have hs : (x.takeB b.length).by = some (a.take b.length) := takeB_by hx
    simp (maxSteps := 1000000) (disch := omega) only [len_by hx, len_by hy, h, slc_hi hx, Equal_spec hs hy, W_seq, W_region, W_cond, W_block, W_skip, W_label, W_exit, W_goto, W_ret, WO_cons, WO_consG, WO_nil, wantedA_eq, wantB, evOp, ev_tmp, ev_const, ev_fn, WN_some, WN_none, updO_some, updO_none, upd_eq,
 ↓reduceIte, Nat.reduceEqDiff, List.nil_append, List.cons_append, List.append_nil, List.map_cons, List.map_nil, env0_zero, env0_succ, env0_nil, Option.map_some, Option.map_none, seqQ_normal, seqQ_ret, seqQ_exit, seqQ_goto, blockQ_normal, blockQ_ret, blockQ_exit, blockQ_goto, condW_bool, loopQ_ret, loopQ_exit, loopQ_goto, endQ_ret, endQ_normal,
 lss_i, leq_i, gtr_i, geq_i, eql_i, neq_i, eql_8, neq_8, lss_8, leq_8, gtr_8, geq_8, eql_s, neq_s, eql_b, neq_b, not_b, by_bys, by_nils, load_cp1, beq_true, beq_false, Bool.not_eq_true', decide_eq_true_eq, decide_eq_false_iff_not, decide_true, decide_false,
 Int.toNat_natCast, Int.ofNat_lt, Int.ofNat_le, Int.natCast_inj, Bool.false_eq_true, Bool.true_eq_false, extPV, List.getElem?_cons_zero, List.getElem?_cons_succ, nilckPV, Int.reduceToNat, Int.reduceLE, true_and, and_true, reduceCtorEq, or_false, false_or, or_true, Option.some.injEq, exists_eq_left', Bool.not_true, Bool.not_false, ne_eq, Int.reduceEq, not_true_eq_false, not_false_eq_true, Int.reduceLT, UInt8.reduceLT, UInt8.reduceLE, UInt8.reduceToNat]
    refine ⟨_, rfl, ?_⟩
    rw [show decide (a.take b.length = b) = decide (b <+: a) by
      rw [decide_eq_decide]
      exact ⟨fun hd => hd ▸ List.take_prefix _ _, fun hd => by
        obtain ⟨t, rfl⟩ := hd
        simp⟩]
    exact leave_pure rfl rfl
  · simp (maxSteps := 1000000) (disch := omega) only [len_by hx, len_by hy, h, W_seq, W_region, W_cond, W_block, W_skip, W_label, W_exit, W_goto, W_ret, WO_cons, WO_consG, WO_nil, wantedA_eq, wantB, evOp, ev_tmp, ev_const, ev_fn, WN_some, WN_none, updO_some, updO_none, upd_eq,
 ↓reduceIte, Nat.reduceEqDiff, List.nil_append, List.cons_append, List.append_nil, List.map_cons, List.map_nil, env0_zero, env0_succ, env0_nil, Option.map_some, Option.map_none, seqQ_normal, seqQ_ret, seqQ_exit, seqQ_goto, blockQ_normal, blockQ_ret, blockQ_exit, blockQ_goto, condW_bool, loopQ_ret, loopQ_exit, loopQ_goto, endQ_ret, endQ_normal,
 lss_i, leq_i, gtr_i, geq_i, eql_i, neq_i, eql_8, neq_8, lss_8, leq_8, gtr_8, geq_8, eql_s, neq_s, eql_b, neq_b, not_b, by_bys, by_nils, load_cp1, beq_true, beq_false, Bool.not_eq_true', decide_eq_true_eq, decide_eq_false_iff_not, decide_true, decide_false,
 Int.toNat_natCast, Int.ofNat_lt, Int.ofNat_le, Int.natCast_inj, Bool.false_eq_true, Bool.true_eq_false, extPV, List.getElem?_cons_zero, List.getElem?_cons_succ, nilckPV, Int.reduceToNat, Int.reduceLE, true_and, and_true, reduceCtorEq, or_false, false_or, or_true, Option.some.injEq, exists_eq_left', Bool.not_true, Bool.not_false, ne_eq, Int.reduceEq, not_true_eq_false, not_false_eq_true, Int.reduceLT, UInt8.reduceLT, UInt8.reduceLE, UInt8.reduceToNat]
    refine ⟨_, rfl, ?_⟩
    rw [show decide (b <+: a) = false by
      rw [decide_eq_false_iff_not]
      intro hd
      exact h hd.length_le]
    exact leave_pure rfl rfl

theorem CutSuffix_spec {x y : PV} {a b : List UInt8} (hx : x.by = some a) (hy : y.by = some b) (hl : a.length < 4611686018427387904) (ht : x.tokLt st.toks.length = true) :
    call prog (.fn 19 []) [x, y] st = some (if b <:+ a then .tup [x.takeB (a.length - b.length), .bool true] else .tup [x, .bool false], st) := by
  refine call_of_W prog_19 ?_
  unfold F_bytes_CutSuffix; dsimp only
  by_cases h : b <:+ a
  · have hle := h.length_le
    simp (maxSteps := 1000000) (disch := omega) only [HasSuffix_spec hx hy hl, len_by hx, len_by hy, h, sub_n, slc_hi hx, W_seq, W_region, W_cond, W_block, W_skip, W_label, W_exit, W_goto, W_ret, WO_cons, WO_consG, WO_nil, wantedA_eq, wantB, evOp, ev_tmp, ev_const, ev_fn, WN_some, WN_none, updO_some, updO_none, upd_eq,
 ↓reduceIte, Nat.reduceEqDiff, List.nil_append, List.cons_append, List.append_nil, List.map_cons, List.map_nil, env0_zero, env0_succ, env0_nil, Option.map_some, Option.map_none, seqQ_normal, seqQ_ret, seqQ_exit, seqQ_goto, blockQ_normal, blockQ_ret, blockQ_exit, blockQ_goto, condW_bool, loopQ_ret, loopQ_exit, loopQ_goto, endQ_ret, endQ_normal,
 lss_i, leq_i, gtr_i, geq_i, eql_i, neq_i, eql_8, neq_8, lss_8, leq_8, gtr_8, geq_8, eql_s, neq_s, eql_b, neq_b, not_b, by_bys, by_nils, load_cp1, beq_true, beq_false, Bool.not_eq_true', decide_eq_true_eq, decide_eq_false_iff_not, decide_true, decide_false,
 Int.toNat_natCast, Int.ofNat_lt, Int.ofNat_le, Int.natCast_inj, Bool.false_eq_true, Bool.true_eq_false, extPV, List.getElem?_cons_zero, List.getElem?_cons_succ, nilckPV, Int.reduceToNat, Int.reduceLE, true_and, and_true, reduceCtorEq, or_false, false_or, or_true, Option.some.injEq, exists_eq_left', Bool.not_true, Bool.not_false, ne_eq, Int.reduceEq, not_true_eq_false, not_false_eq_true, Int.reduceLT, UInt8.reduceLT, UInt8.reduceLE, UInt8.reduceToNat]
    have hz := takeB_by (i := a.length - b.length) hx
    exact end2 rfl rfl (Kp_by hz (takeB_tok ht)) Kp_bool
  · simp (maxSteps := 1000000) (disch := omega) only [HasSuffix_spec hx hy hl, len_by hx, len_by hy, h, W_seq, W_region, W_cond, W_block, W_skip, W_label, W_exit, W_goto, W_ret, WO_cons, WO_consG, WO_nil, wantedA_eq, wantB, evOp, ev_tmp, ev_const, ev_fn, WN_some, WN_none, updO_some, updO_none, upd_eq,
 ↓reduceIte, Nat.reduceEqDiff, List.nil_append, List.cons_append, List.append_nil, List.map_cons, List.map_nil, env0_zero, env0_succ, env0_nil, Option.map_some, Option.map_none, seqQ_normal, seqQ_ret, seqQ_exit, seqQ_goto, blockQ_normal, blockQ_ret, blockQ_exit, blockQ_goto, condW_bool, loopQ_ret, loopQ_exit, loopQ_goto, endQ_ret, endQ_normal,
 lss_i, leq_i, gtr_i, geq_i, eql_i, neq_i, eql_8, neq_8, lss_8, leq_8, gtr_8, geq_8, eql_s, neq_s, eql_b, neq_b, not_b, by_bys, by_nils, load_cp1, beq_true, beq_false, Bool.not_eq_true', decide_eq_true_eq, decide_eq_false_iff_not, decide_true, decide_false,
 Int.toNat_natCast, Int.ofNat_lt, Int.ofNat_le, Int.natCast_inj, Bool.false_eq_true, Bool.true_eq_false, extPV, List.getElem?_cons_zero, List.getElem?_cons_succ, nilckPV, Int.reduceToNat, Int.reduceLE, true_and, and_true, reduceCtorEq, or_false, false_or, or_true, Option.some.injEq, exists_eq_left', Bool.not_true, Bool.not_false, ne_eq, Int.reduceEq, not_true_eq_false, not_false_eq_true, Int.reduceLT, UInt8.reduceLT, UInt8.reduceLE, UInt8.reduceToNat]
    exact end2 rfl rfl (Kp_by hx ht) Kp_bool

theorem CutPrefix_spec {x y : PV} {a b : List UInt8} (hx : x.by = some a) (hy : y.by = some b) (ht : x.tokLt st.toks.length = true) :
    call prog (.fn 31 []) [x, y] st = some (if b <+: a then .tup [x.dropB b.length, .bool true] else .tup [x, .bool false], st) := by
  refine call_of_W prog_31 ?_
  unfold F_bytes_CutPrefix; dsimp only
  by_cases h : b <+: a
  · have hle := h.length_le
    simp (maxSteps := 1000000) (disch := omega) only [HasPrefix_spec hx hy, len_by hx, len_by hy, h, slc_lo hx, W_seq, W_region, W_cond, W_block, W_skip, W_label, W_exit, W_goto, W_ret, WO_cons, WO_consG, WO_nil, wantedA_eq, wantB, evOp, ev_tmp, ev_const, ev_fn, WN_some, WN_none, updO_some, updO_none, upd_eq,
 ↓reduceIte, Nat.reduceEqDiff, List.nil_append, List.cons_append, List.append_nil, List.map_cons, List.map_nil, env0_zero, env0_succ, env0_nil, Option.map_some, Option.map_none, seqQ_normal, seqQ_ret, seqQ_exit, seqQ_goto, blockQ_normal, blockQ_ret, blockQ_exit, blockQ_goto, condW_bool, loopQ_ret, loopQ_exit, loopQ_goto, endQ_ret, endQ_normal,
 lss_i, leq_i, gtr_i, geq_i, eql_i, neq_i, eql_8, neq_8, lss_8, leq_8, gtr_8, geq_8, eql_s, neq_s, eql_b, neq_b, not_b, by_bys, by_nils, load_cp1, beq_true, beq_false, Bool.not_eq_true', decide_eq_true_eq, decide_eq_false_iff_not, decide_true, decide_false,
 Int.toNat_natCast, Int.ofNat_lt, Int.ofNat_le, Int.natCast_inj, Bool.false_eq_true, Bool.true_eq_false, extPV, List.getElem?_cons_zero, List.getElem?_cons_succ, nilckPV, Int.reduceToNat, Int.reduceLE, true_and, and_true, reduceCtorEq, or_false, false_or, or_true, Option.some.injEq, exists_eq_left', Bool.not_true, Bool.not_false, ne_eq, Int.reduceEq, not_true_eq_false, not_false_eq_true, Int.reduceLT, UInt8.reduceLT, UInt8.reduceLE, UInt8.reduceToNat]
    have hz := dropB_by (i := b.length) hx
    exact end2 rfl rfl (Kp_by hz (dropB_tok ht)) Kp_bool
  · simp (maxSteps := 1000000) (disch := omega) only [HasPrefix_spec hx hy, len_by hx, len_by hy, h, W_seq, W_region, W_cond, W_block, W_skip, W_label, W_exit, W_goto, W_ret, WO_cons, WO_consG, WO_nil, wantedA_eq, wantB, evOp, ev_tmp, ev_const, ev_fn, WN_some, WN_none, updO_some, updO_none, upd_eq,
 ↓reduceIte, Nat.reduceEqDiff, List.nil_append, List.cons_append, List.append_nil, List.map_cons, List.map_nil, env0_zero, env0_succ, env0_nil, Option.map_some, Option.map_none, seqQ_normal, seqQ_ret, seqQ_exit, seqQ_goto, blockQ_normal, blockQ_ret, blockQ_exit, blockQ_goto, condW_bool, loopQ_ret, loopQ_exit, loopQ_goto, endQ_ret, endQ_normal,
 lss_i, leq_i, gtr_i, geq_i, eql_i, neq_i, eql_8, neq_8, lss_8, leq_8, gtr_8, geq_8, eql_s, neq_s, eql_b, neq_b, not_b, by_bys, by_nils, load_cp1, beq_true, beq_false, Bool.not_eq_true', decide_eq_true_eq, decide_eq_false_iff_not, decide_true, decide_false,
 Int.toNat_natCast, Int.ofNat_lt, Int.ofNat_le, Int.natCast_inj, Bool.false_eq_true, Bool.true_eq_false, extPV, List.getElem?_cons_zero, List.getElem?_cons_succ, nilckPV, Int.reduceToNat, Int.reduceLE, true_and, and_true, reduceCtorEq, or_false, false_or, or_true, Option.some.injEq, exists_eq_left', Bool.not_true, Bool.not_false, ne_eq, Int.reduceEq, not_true_eq_false, not_false_eq_true, Int.reduceLT, UInt8.reduceLT, UInt8.reduceLE, UInt8.reduceToNat]
    exact end2 rfl rfl (Kp_by hx ht) Kp_bool

def pairAt (l : List UInt8) (i : Nat) : Bool := decide (i + 1 < l.length ∧ l.getD i 0 = 13 ∧ l.getD (i + 1) 0 = 10)

theorem Pair_spec {x : PV} {l : List UInt8} {i : Nat} (hx : x.by = some l) (hl : i < 4611686018427387904) : call prog (.fn 22 []) [x, .int .i64 (i : Int)] st = some (.bool (pairAt l i), st) := by
  refine call_of_W prog_22 ?_
  unfold F_posthornref03_Pair; dsimp only
  by_cases h1 : i + 1 < l.length
  · by_cases h2 : l.getD i 0 = 13
    · simp (maxSteps := 1000000) (disch := omega) only [len_by hx, h1, h2, add_n, iaddr_by hx, W_seq, W_region, W_cond, W_block, W_skip, W_label, W_exit, W_goto, W_ret, WO_cons, WO_consG, WO_nil, wantedA_eq, wantB, evOp, ev_tmp, ev_const, ev_fn, WN_some, WN_none, updO_some, updO_none, upd_eq,
 ↓reduceIte, Nat.reduceEqDiff, List.nil_append, List.cons_append, List.append_nil, List.map_cons, List.map_nil, env0_zero, env0_succ, env0_nil, Option.map_some, Option.map_none, seqQ_normal, seqQ_ret, seqQ_exit, seqQ_goto, blockQ_normal, blockQ_ret, blockQ_exit, blockQ_goto, condW_bool, loopQ_ret, loopQ_exit, loopQ_goto, endQ_ret, endQ_normal,
 lss_i, leq_i, gtr_i, geq_i, eql_i, neq_i, eql_8, neq_8, lss_8, leq_8, gtr_8, geq_8, eql_s, neq_s, eql_b, neq_b, not_b, by_bys, by_nils, load_cp1, beq_true, beq_false, Bool.not_eq_true', decide_eq_true_eq, decide_eq_false_iff_not, decide_true, decide_false,
 Int.toNat_natCast, Int.ofNat_lt, Int.ofNat_le, Int.natCast_inj, Bool.false_eq_true, Bool.true_eq_false, extPV, List.getElem?_cons_zero, List.getElem?_cons_succ, nilckPV, Int.reduceToNat, Int.reduceLE, true_and, and_true, reduceCtorEq, or_false, false_or, or_true, Option.some.injEq, exists_eq_left', Bool.not_true, Bool.not_false, ne_eq, Int.reduceEq, not_true_eq_false, not_false_eq_true, Int.reduceLT, UInt8.reduceLT, UInt8.reduceLE, UInt8.reduceToNat]
      refine ⟨_, rfl, ?_⟩
      rw [show pairAt l i = decide (l.getD (i + 1) 0 = 10) by simp only [pairAt, h1, h2, true_and]]
      exact leave_pure rfl rfl
    · simp (maxSteps := 1000000) (disch := omega) only [len_by hx, h1, h2, add_n, iaddr_by hx, W_seq, W_region, W_cond, W_block, W_skip, W_label, W_exit, W_goto, W_ret, WO_cons, WO_consG, WO_nil, wantedA_eq, wantB, evOp, ev_tmp, ev_const, ev_fn, WN_some, WN_none, updO_some, updO_none, upd_eq,
 ↓reduceIte, Nat.reduceEqDiff, List.nil_append, List.cons_append, List.append_nil, List.map_cons, List.map_nil, env0_zero, env0_succ, env0_nil, Option.map_some, Option.map_none, seqQ_normal, seqQ_ret, seqQ_exit, seqQ_goto, blockQ_normal, blockQ_ret, blockQ_exit, blockQ_goto, condW_bool, loopQ_ret, loopQ_exit, loopQ_goto, endQ_ret, endQ_normal,
 lss_i, leq_i, gtr_i, geq_i, eql_i, neq_i, eql_8, neq_8, lss_8, leq_8, gtr_8, geq_8, eql_s, neq_s, eql_b, neq_b, not_b, by_bys, by_nils, load_cp1, beq_true, beq_false, Bool.not_eq_true', decide_eq_true_eq, decide_eq_false_iff_not, decide_true, decide_false,
 Int.toNat_natCast, Int.ofNat_lt, Int.ofNat_le, Int.natCast_inj, Bool.false_eq_true, Bool.true_eq_false, extPV, List.getElem?_cons_zero, List.getElem?_cons_succ, nilckPV, Int.reduceToNat, Int.reduceLE, true_and, and_true, reduceCtorEq, or_false, false_or, or_true, Option.some.injEq, exists_eq_left', Bool.not_true, Bool.not_false, ne_eq, Int.reduceEq, not_true_eq_false, not_false_eq_true, Int.reduceLT, UInt8.reduceLT, UInt8.reduceLE, UInt8.reduceToNat]
      refine ⟨_, rfl, ?_⟩
      rw [show pairAt l i = false by simp only [pairAt, h2, false_and, and_false, decide_false]]
      exact leave_pure rfl rfl
  · simp (maxSteps := 1000000) (disch := omega) only [len_by hx, h1, add_n, iaddr_by hx, W_seq, W_region, W_cond, W_block, W_skip, W_label, W_exit, W_goto, W_ret, WO_cons, WO_consG, WO_nil, wantedA_eq, wantB, evOp, ev_tmp, ev_const, ev_fn, WN_some, WN_none, updO_some, updO_none, upd_eq,
 ↓reduceIte, Nat.reduceEqDiff, List.nil_append, List.cons_append, List.append_nil, List.map_cons, List.map_nil, env0_zero, env0_succ, env0_nil, Option.map_some, Option.map_none, seqQ_normal, seqQ_ret, seqQ_exit, seqQ_goto, blockQ_normal, blockQ_ret, blockQ_exit, blockQ_goto, condW_bool, loopQ_ret, loopQ_exit, loopQ_goto, endQ_ret, endQ_normal,
 lss_i, leq_i, gtr_i, geq_i, eql_i, neq_i, eql_8, neq_8, lss_8, leq_8, gtr_8, geq_8, eql_s, neq_s, eql_b, neq_b, not_b, by_bys, by_nils, load_cp1, beq_true, beq_false, Bool.not_eq_true', decide_eq_true_eq, decide_eq_false_iff_not, decide_true, decide_false,
 Int.toNat_natCast, Int.ofNat_lt, Int.ofNat_le, Int.natCast_inj, Bool.false_eq_true, Bool.true_eq_false, extPV, List.getElem?_cons_zero, List.getElem?_cons_succ, nilckPV, Int.reduceToNat, Int.reduceLE, true_and, and_true, reduceCtorEq, or_false, false_or, or_true, Option.some.injEq, exists_eq_left', Bool.not_true, Bool.not_false, ne_eq, Int.reduceEq, not_true_eq_false, not_false_eq_true, Int.reduceLT, UInt8.reduceLT, UInt8.reduceLE, UInt8.reduceToNat]
    refine ⟨_, rfl, ?_⟩
    rw [show pairAt l i = false by simp only [pairAt, h1, false_and, decide_false]]
    exact leave_pure rfl rfl

def crlf (c : UInt8) : Bool := decide (c = 13 ∨ c = 10)
theorem dbare1_spec {c : UInt8} : call prog (.fn 30 []) [.b8 c] st = some (.bool (crlf c), st) := by
  refine call_of_W prog_30 ?_
  unfold F_dots_bare_c1; dsimp only
  by_cases h : c = 13
  · simp (maxSteps := 1000000) (disch := omega) only [h, W_seq, W_region, W_cond, W_block, W_skip, W_label, W_exit, W_goto, W_ret, WO_cons, WO_consG, WO_nil, wantedA_eq, wantB, evOp, ev_tmp, ev_const, ev_fn, WN_some, WN_none, updO_some, updO_none, upd_eq,
 ↓reduceIte, Nat.reduceEqDiff, List.nil_append, List.cons_append, List.append_nil, List.map_cons, List.map_nil, env0_zero, env0_succ, env0_nil, Option.map_some, Option.map_none, seqQ_normal, seqQ_ret, seqQ_exit, seqQ_goto, blockQ_normal, blockQ_ret, blockQ_exit, blockQ_goto, condW_bool, loopQ_ret, loopQ_exit, loopQ_goto, endQ_ret, endQ_normal,
 lss_i, leq_i, gtr_i, geq_i, eql_i, neq_i, eql_8, neq_8, lss_8, leq_8, gtr_8, geq_8, eql_s, neq_s, eql_b, neq_b, not_b, by_bys, by_nils, load_cp1, beq_true, beq_false, Bool.not_eq_true', decide_eq_true_eq, decide_eq_false_iff_not, decide_true, decide_false,
 Int.toNat_natCast, Int.ofNat_lt, Int.ofNat_le, Int.natCast_inj, Bool.false_eq_true, Bool.true_eq_false, extPV, List.getElem?_cons_zero, List.getElem?_cons_succ, nilckPV, Int.reduceToNat, Int.reduceLE, true_and, and_true, reduceCtorEq, or_false, false_or, or_true, Option.some.injEq, exists_eq_left', Bool.not_true, Bool.not_false, ne_eq, Int.reduceEq, not_true_eq_false, not_false_eq_true, Int.reduceLT, UInt8.reduceLT, UInt8.reduceLE, UInt8.reduceToNat]
    exact ⟨_, rfl, leave_pure rfl rfl⟩
  · simp (maxSteps := 1000000) (disch := omega) only [h, W_seq, W_region, W_cond, W_block, W_skip, W_label, W_exit, W_goto, W_ret, WO_cons, WO_consG, WO_nil, wantedA_eq, wantB, evOp, ev_tmp, ev_const, ev_fn, WN_some, WN_none, updO_some, updO_none, upd_eq,
 ↓reduceIte, Nat.reduceEqDiff, List.nil_append, List.cons_append, List.append_nil, List.map_cons, List.map_nil, env0_zero, env0_succ, env0_nil, Option.map_some, Option.map_none, seqQ_normal, seqQ_ret, seqQ_exit, seqQ_goto, blockQ_normal, blockQ_ret, blockQ_exit, blockQ_goto, condW_bool, loopQ_ret, loopQ_exit, loopQ_goto, endQ_ret, endQ_normal,
 lss_i, leq_i, gtr_i, geq_i, eql_i, neq_i, eql_8, neq_8, lss_8, leq_8, gtr_8, geq_8, eql_s, neq_s, eql_b, neq_b, not_b, by_bys, by_nils, load_cp1, beq_true, beq_false, Bool.not_eq_true', decide_eq_true_eq, decide_eq_false_iff_not, decide_true, decide_false,
 Int.toNat_natCast, Int.ofNat_lt, Int.ofNat_le, Int.natCast_inj, Bool.false_eq_true, Bool.true_eq_false, extPV, List.getElem?_cons_zero, List.getElem?_cons_succ, nilckPV, Int.reduceToNat, Int.reduceLE, true_and, and_true, reduceCtorEq, or_false, false_or, or_true, Option.some.injEq, exists_eq_left', Bool.not_true, Bool.not_false, ne_eq, Int.reduceEq, not_true_eq_false, not_false_eq_true, Int.reduceLT, UInt8.reduceLT, UInt8.reduceLE, UInt8.reduceToNat]
    refine ⟨_, rfl, ?_⟩
    rw [show crlf c = decide (c = 10) by simp only [crlf, h, false_or]]
    exact leave_pure rfl rfl
end Go.Ab

/-
  Loops over bytes: the place of a bare 13 or 10; copies.
-/
namespace Go.Ab
set_option linter.unusedVariables false
set_option linter.unusedSimpArgs false
variable {st : St} {e : Env}

theorem find_at {p : UInt8 → Bool} {l : List UInt8} {i : Nat} (hi : i < l.length) (hp : p (l.getD i 0) = true) (hn : ∀ j, j < i → p (l.getD j 0) = false) : l.findIdx? p = some i := by
  rw [List.findIdx?_eq_some_iff_getElem]
  refine ⟨hi, by simpa [List.getD, hi] using hp, fun j hj => ?_⟩
  have := hn j hj
  simpa [List.getD, show j < l.length by omega] using this
theorem find_none {p : UInt8 → Bool} {l : List UInt8} (hn : ∀ j, j < l.length → p (l.getD j 0) = false) : l.findIdx? p = none := by
  rw [List.findIdx?_eq_none_iff]
  intro x hx
  obtain ⟨j, hj, rfl⟩ := List.getElem_of_mem hx
  have := hn j hj
  simpa [List.getD, hj] using this

/-- The place of a bare 13 or 10; -1. -/
def bareAt (l : List UInt8) : Int := match l.findIdx? crlf with
  | some i => (i : Int)
  | none => -1

theorem IndexFunc_spec {x : PV} {l : List UInt8} (hx : x.by = some l) (hl : l.length < 4611686018427387904) : call prog (.fn 29 []) [x, .fn 30 []] st = some (.int .i64 (bareAt l), st) := by
  refine call_of_W prog_29 ?_
  unfold F_slices_IndexFunc_s_byte_byte; dsimp only
  simp (maxSteps := 1000000) (disch := omega) only [len_by hx, W_seq, W_region, W_cond, W_block, W_skip, W_label, W_exit, W_goto, W_ret, WO_cons, WO_consG, WO_nil, wantedA_eq, wantB, evOp, ev_tmp, ev_const, ev_fn, WN_some, WN_none, updO_some, updO_none, upd_eq,
 ↓reduceIte, Nat.reduceEqDiff, List.nil_append, List.cons_append, List.append_nil, List.map_cons, List.map_nil, env0_zero, env0_succ, env0_nil, Option.map_some, Option.map_none, seqQ_normal, seqQ_ret, seqQ_exit, seqQ_goto, blockQ_normal, blockQ_ret, blockQ_exit, blockQ_goto, condW_bool, loopQ_ret, loopQ_exit, loopQ_goto, endQ_ret, endQ_normal,
 lss_i, leq_i, gtr_i, geq_i, eql_i, neq_i, eql_8, neq_8, lss_8, leq_8, gtr_8, geq_8, eql_s, neq_s, eql_b, neq_b, not_b, by_bys, by_nils, load_cp1, beq_true, beq_false, Bool.not_eq_true', decide_eq_true_eq, decide_eq_false_iff_not, decide_true, decide_false,
 Int.toNat_natCast, Int.ofNat_lt, Int.ofNat_le, Int.natCast_inj, Bool.false_eq_true, Bool.true_eq_false, extPV, List.getElem?_cons_zero, List.getElem?_cons_succ, nilckPV, Int.reduceToNat, Int.reduceLE, true_and, and_true, reduceCtorEq, or_false, false_or, or_true, Option.some.injEq, exists_eq_left', Bool.not_true, Bool.not_false, ne_eq, Int.reduceEq, not_true_eq_false, not_false_eq_true, Int.reduceLT, UInt8.reduceLT, UInt8.reduceLE, UInt8.reduceToNat]
  obtain ⟨I, hI⟩ : ∃ I : Nat → Env → St → Prop, I = fun n e s => ∃ i : Nat, n = l.length - i ∧ i ≤ l.length ∧ (∀ j, j < i → crlf (l.getD j 0) = false) ∧ s = { boxes := st.boxes, toks := st.toks, loops := st.loops, low := st.boxes.length } ∧ e 0 = x ∧ e 1 = .fn 30 [] ∧ e 7 = .int .i64 (l.length : Int) ∧ e 8 = .int .i64 (i : Int) := ⟨_, rfl⟩
  refine W_loop I ?_ (n := l.length) (by rw [hI]; exact ⟨0, rfl, by omega, fun j hj => by omega, rfl, rfl, rfl, rfl, rfl⟩)
  intro n e s h
  rw [hI] at h
  obtain ⟨i, rfl, hi, hn, rfl, h0, h1, h7, h8⟩ := h
  by_cases hlt : i < l.length
  · by_cases hc : crlf (l.getD i 0) = true
    · simp (maxSteps := 1000000) (disch := omega) only [h0, h1, h7, h8, hlt, hc, iaddr_by hx, dbare1_spec, W_seq, W_region, W_cond, W_block, W_skip, W_label, W_exit, W_goto, W_ret, WO_cons, WO_consG, WO_nil, wantedA_eq, wantB, evOp, ev_tmp, ev_const, ev_fn, WN_some, WN_none, updO_some, updO_none, upd_eq,
 ↓reduceIte, Nat.reduceEqDiff, List.nil_append, List.cons_append, List.append_nil, List.map_cons, List.map_nil, env0_zero, env0_succ, env0_nil, Option.map_some, Option.map_none, seqQ_normal, seqQ_ret, seqQ_exit, seqQ_goto, blockQ_normal, blockQ_ret, blockQ_exit, blockQ_goto, condW_bool, loopQ_ret, loopQ_exit, loopQ_goto, endQ_ret, endQ_normal,
 lss_i, leq_i, gtr_i, geq_i, eql_i, neq_i, eql_8, neq_8, lss_8, leq_8, gtr_8, geq_8, eql_s, neq_s, eql_b, neq_b, not_b, by_bys, by_nils, load_cp1, beq_true, beq_false, Bool.not_eq_true', decide_eq_true_eq, decide_eq_false_iff_not, decide_true, decide_false,
 Int.toNat_natCast, Int.ofNat_lt, Int.ofNat_le, Int.natCast_inj, Bool.false_eq_true, Bool.true_eq_false, extPV, List.getElem?_cons_zero, List.getElem?_cons_succ, nilckPV, Int.reduceToNat, Int.reduceLE, true_and, and_true, reduceCtorEq, or_false, false_or, or_true, Option.some.injEq, exists_eq_left', Bool.not_true, Bool.not_false, ne_eq, Int.reduceEq, not_true_eq_false, not_false_eq_true, Int.reduceLT, UInt8.reduceLT, UInt8.reduceLE, UInt8.reduceToNat]
      rw [show bareAt l = i by simp only [bareAt, find_at hlt hc hn]]
      exact end1 rfl Kp_int
    · simp (maxSteps := 1000000) (disch := omega) only [h0, h1, h7, h8, hlt, hc, iaddr_by hx, dbare1_spec, add_n, W_seq, W_region, W_cond, W_block, W_skip, W_label, W_exit, W_goto, W_ret, WO_cons, WO_consG, WO_nil, wantedA_eq, wantB, evOp, ev_tmp, ev_const, ev_fn, WN_some, WN_none, updO_some, updO_none, upd_eq,
 ↓reduceIte, Nat.reduceEqDiff, List.nil_append, List.cons_append, List.append_nil, List.map_cons, List.map_nil, env0_zero, env0_succ, env0_nil, Option.map_some, Option.map_none, seqQ_normal, seqQ_ret, seqQ_exit, seqQ_goto, blockQ_normal, blockQ_ret, blockQ_exit, blockQ_goto, condW_bool, loopQ_ret, loopQ_exit, loopQ_goto, endQ_ret, endQ_normal,
 lss_i, leq_i, gtr_i, geq_i, eql_i, neq_i, eql_8, neq_8, lss_8, leq_8, gtr_8, geq_8, eql_s, neq_s, eql_b, neq_b, not_b, by_bys, by_nils, load_cp1, beq_true, beq_false, Bool.not_eq_true', decide_eq_true_eq, decide_eq_false_iff_not, decide_true, decide_false,
 Int.toNat_natCast, Int.ofNat_lt, Int.ofNat_le, Int.natCast_inj, Bool.false_eq_true, Bool.true_eq_false, extPV, List.getElem?_cons_zero, List.getElem?_cons_succ, nilckPV, Int.reduceToNat, Int.reduceLE, true_and, and_true, reduceCtorEq, or_false, false_or, or_true, Option.some.injEq, exists_eq_left', Bool.not_true, Bool.not_false, ne_eq, Int.reduceEq, not_true_eq_false, not_false_eq_true, Int.reduceLT, UInt8.reduceLT, UInt8.reduceLE, UInt8.reduceToNat]
      refine loopQ_intro (m := l.length - (i + 1)) (by omega) ?_
      rw [hI]
      refine ⟨i + 1, rfl, by omega, fun j hj => ?_, rfl, h0, h1, h7, rfl⟩
      by_cases hji : j = i
      · subst hji; simpa using hc
      · exact hn j (by omega)
  · simp (maxSteps := 1000000) (disch := omega) only [h0, h1, h7, h8, hlt, W_seq, W_region, W_cond, W_block, W_skip, W_label, W_exit, W_goto, W_ret, WO_cons, WO_consG, WO_nil, wantedA_eq, wantB, evOp, ev_tmp, ev_const, ev_fn, WN_some, WN_none, updO_some, updO_none, upd_eq,
 ↓reduceIte, Nat.reduceEqDiff, List.nil_append, List.cons_append, List.append_nil, List.map_cons, List.map_nil, env0_zero, env0_succ, env0_nil, Option.map_some, Option.map_none, seqQ_normal, seqQ_ret, seqQ_exit, seqQ_goto, blockQ_normal, blockQ_ret, blockQ_exit, blockQ_goto, condW_bool, loopQ_ret, loopQ_exit, loopQ_goto, endQ_ret, endQ_normal,
 lss_i, leq_i, gtr_i, geq_i, eql_i, neq_i, eql_8, neq_8, lss_8, leq_8, gtr_8, geq_8, eql_s, neq_s, eql_b, neq_b, not_b, by_bys, by_nils, load_cp1, beq_true, beq_false, Bool.not_eq_true', decide_eq_true_eq, decide_eq_false_iff_not, decide_true, decide_false,
 Int.toNat_natCast, Int.ofNat_lt, Int.ofNat_le, Int.natCast_inj, Bool.false_eq_true, Bool.true_eq_false, extPV, List.getElem?_cons_zero, List.getElem?_cons_succ, nilckPV, Int.reduceToNat, Int.reduceLE, true_and, and_true, reduceCtorEq, or_false, false_or, or_true, Option.some.injEq, exists_eq_left', Bool.not_true, Bool.not_false, ne_eq, Int.reduceEq, not_true_eq_false, not_false_eq_true, Int.reduceLT, UInt8.reduceLT, UInt8.reduceLE, UInt8.reduceToNat]
    rw [show bareAt l = -1 by simp only [bareAt, find_none (fun j hj => hn j (by omega))]]
    exact end1 rfl Kp_int

theorem dbare_spec {x : PV} {l : List UInt8} (hx : x.by = some l) (hl : l.length < 4611686018427387904) : call prog (.fn 20 []) [x] st = some (.int .i64 (bareAt l), st) := by
  refine call_of_W prog_20 ?_
  unfold F_dots_bare; dsimp only
  simp (maxSteps := 1000000) (disch := omega) only [IndexFunc_spec hx hl, W_seq, W_region, W_cond, W_block, W_skip, W_label, W_exit, W_goto, W_ret, WO_cons, WO_consG, WO_nil, wantedA_eq, wantB, evOp, ev_tmp, ev_const, ev_fn, WN_some, WN_none, updO_some, updO_none, upd_eq,
 ↓reduceIte, Nat.reduceEqDiff, List.nil_append, List.cons_append, List.append_nil, List.map_cons, List.map_nil, env0_zero, env0_succ, env0_nil, Option.map_some, Option.map_none, seqQ_normal, seqQ_ret, seqQ_exit, seqQ_goto, blockQ_normal, blockQ_ret, blockQ_exit, blockQ_goto, condW_bool, loopQ_ret, loopQ_exit, loopQ_goto, endQ_ret, endQ_normal,
 lss_i, leq_i, gtr_i, geq_i, eql_i, neq_i, eql_8, neq_8, lss_8, leq_8, gtr_8, geq_8, eql_s, neq_s, eql_b, neq_b, not_b, by_bys, by_nils, load_cp1, beq_true, beq_false, Bool.not_eq_true', decide_eq_true_eq, decide_eq_false_iff_not, decide_true, decide_false,
 Int.toNat_natCast, Int.ofNat_lt, Int.ofNat_le, Int.natCast_inj, Bool.false_eq_true, Bool.true_eq_false, extPV, List.getElem?_cons_zero, List.getElem?_cons_succ, nilckPV, Int.reduceToNat, Int.reduceLE, true_and, and_true, reduceCtorEq, or_false, false_or, or_true, Option.some.injEq, exists_eq_left', Bool.not_true, Bool.not_false, ne_eq, Int.reduceEq, not_true_eq_false, not_false_eq_true, Int.reduceLT, UInt8.reduceLT, UInt8.reduceLE, UInt8.reduceToNat]
  exact end1 rfl Kp_int

theorem rbare_spec {x : PV} {l : List UInt8} (hx : x.by = some l) (hl : l.length < 4611686018427387904) : call prog (.fn 21 []) [x] st = some (.int .i64 (bareAt l), st) := by
  refine call_of_W prog_21 ?_
  unfold F_posthornref05_bare; dsimp only
  simp (maxSteps := 1000000) (disch := omega) only [len_by hx, W_seq, W_region, W_cond, W_block, W_skip, W_label, W_exit, W_goto, W_ret, WO_cons, WO_consG, WO_nil, wantedA_eq, wantB, evOp, ev_tmp, ev_const, ev_fn, WN_some, WN_none, updO_some, updO_none, upd_eq,
 ↓reduceIte, Nat.reduceEqDiff, List.nil_append, List.cons_append, List.append_nil, List.map_cons, List.map_nil, env0_zero, env0_succ, env0_nil, Option.map_some, Option.map_none, seqQ_normal, seqQ_ret, seqQ_exit, seqQ_goto, blockQ_normal, blockQ_ret, blockQ_exit, blockQ_goto, condW_bool, loopQ_ret, loopQ_exit, loopQ_goto, endQ_ret, endQ_normal,
 lss_i, leq_i, gtr_i, geq_i, eql_i, neq_i, eql_8, neq_8, lss_8, leq_8, gtr_8, geq_8, eql_s, neq_s, eql_b, neq_b, not_b, by_bys, by_nils, load_cp1, beq_true, beq_false, Bool.not_eq_true', decide_eq_true_eq, decide_eq_false_iff_not, decide_true, decide_false,
 Int.toNat_natCast, Int.ofNat_lt, Int.ofNat_le, Int.natCast_inj, Bool.false_eq_true, Bool.true_eq_false, extPV, List.getElem?_cons_zero, List.getElem?_cons_succ, nilckPV, Int.reduceToNat, Int.reduceLE, true_and, and_true, reduceCtorEq, or_false, false_or, or_true, Option.some.injEq, exists_eq_left', Bool.not_true, Bool.not_false, ne_eq, Int.reduceEq, not_true_eq_false, not_false_eq_true, Int.reduceLT, UInt8.reduceLT, UInt8.reduceLE, UInt8.reduceToNat]
  obtain ⟨I, hI⟩ : ∃ I : Nat → Env → St → Prop, I = fun n e s => ∃ i : Nat, n = l.length - i ∧ i ≤ l.length ∧ (∀ j, j < i → crlf (l.getD j 0) = false) ∧ s = { boxes := st.boxes, toks := st.toks, loops := st.loops, low := st.boxes.length } ∧ e 0 = x ∧ e 3 = .int .i64 (i : Int) := ⟨_, rfl⟩
  refine W_loop I ?_ (n := l.length) (by rw [hI]; exact ⟨0, rfl, by omega, fun j hj => by omega, rfl, rfl, rfl⟩)
  intro n e s h
  rw [hI] at h
  obtain ⟨i, rfl, hi, hn, rfl, h0, h3⟩ := h
  have next : crlf (l.getD i 0) = false → ∀ j, j < i + 1 → crlf (l.getD j 0) = false := fun hc j hj => by
    by_cases hji : j = i
    · subst hji; exact hc
    · exact hn j (by omega)
  by_cases hlt : i < l.length
  · by_cases h13 : l.getD i 0 = 13
    · simp (maxSteps := 1000000) (disch := omega) only [h0, h3, hlt, h13, len_by hx, iaddr_by hx, W_seq, W_region, W_cond, W_block, W_skip, W_label, W_exit, W_goto, W_ret, WO_cons, WO_consG, WO_nil, wantedA_eq, wantB, evOp, ev_tmp, ev_const, ev_fn, WN_some, WN_none, updO_some, updO_none, upd_eq,
 ↓reduceIte, Nat.reduceEqDiff, List.nil_append, List.cons_append, List.append_nil, List.map_cons, List.map_nil, env0_zero, env0_succ, env0_nil, Option.map_some, Option.map_none, seqQ_normal, seqQ_ret, seqQ_exit, seqQ_goto, blockQ_normal, blockQ_ret, blockQ_exit, blockQ_goto, condW_bool, loopQ_ret, loopQ_exit, loopQ_goto, endQ_ret, endQ_normal,
 lss_i, leq_i, gtr_i, geq_i, eql_i, neq_i, eql_8, neq_8, lss_8, leq_8, gtr_8, geq_8, eql_s, neq_s, eql_b, neq_b, not_b, by_bys, by_nils, load_cp1, beq_true, beq_false, Bool.not_eq_true', decide_eq_true_eq, decide_eq_false_iff_not, decide_true, decide_false,
 Int.toNat_natCast, Int.ofNat_lt, Int.ofNat_le, Int.natCast_inj, Bool.false_eq_true, Bool.true_eq_false, extPV, List.getElem?_cons_zero, List.getElem?_cons_succ, nilckPV, Int.reduceToNat, Int.reduceLE, true_and, and_true, reduceCtorEq, or_false, false_or, or_true, Option.some.injEq, exists_eq_left', Bool.not_true, Bool.not_false, ne_eq, Int.reduceEq, not_true_eq_false, not_false_eq_true, Int.reduceLT, UInt8.reduceLT, UInt8.reduceLE, UInt8.reduceToNat]
      rw [show bareAt l = i by simp only [bareAt, find_at hlt (p := crlf) (by simp only [crlf, h13, true_or, decide_true]) hn]]
      exact end1 rfl Kp_int
    · by_cases h10 : l.getD i 0 = 10
      · simp (maxSteps := 1000000) (disch := omega) only [h0, h3, hlt, h13, eq_true h10, len_by hx, iaddr_by hx, W_seq, W_region, W_cond, W_block, W_skip, W_label, W_exit, W_goto, W_ret, WO_cons, WO_consG, WO_nil, wantedA_eq, wantB, evOp, ev_tmp, ev_const, ev_fn, WN_some, WN_none, updO_some, updO_none, upd_eq,
 ↓reduceIte, Nat.reduceEqDiff, List.nil_append, List.cons_append, List.append_nil, List.map_cons, List.map_nil, env0_zero, env0_succ, env0_nil, Option.map_some, Option.map_none, seqQ_normal, seqQ_ret, seqQ_exit, seqQ_goto, blockQ_normal, blockQ_ret, blockQ_exit, blockQ_goto, condW_bool, loopQ_ret, loopQ_exit, loopQ_goto, endQ_ret, endQ_normal,
 lss_i, leq_i, gtr_i, geq_i, eql_i, neq_i, eql_8, neq_8, lss_8, leq_8, gtr_8, geq_8, eql_s, neq_s, eql_b, neq_b, not_b, by_bys, by_nils, load_cp1, beq_true, beq_false, Bool.not_eq_true', decide_eq_true_eq, decide_eq_false_iff_not, decide_true, decide_false,
 Int.toNat_natCast, Int.ofNat_lt, Int.ofNat_le, Int.natCast_inj, Bool.false_eq_true, Bool.true_eq_false, extPV, List.getElem?_cons_zero, List.getElem?_cons_succ, nilckPV, Int.reduceToNat, Int.reduceLE, true_and, and_true, reduceCtorEq, or_false, false_or, or_true, Option.some.injEq, exists_eq_left', Bool.not_true, Bool.not_false, ne_eq, Int.reduceEq, not_true_eq_false, not_false_eq_true, Int.reduceLT, UInt8.reduceLT, UInt8.reduceLE, UInt8.reduceToNat]
        rw [show bareAt l = i by simp only [bareAt, find_at hlt (p := crlf) (by simp only [crlf, h10, or_true, decide_true]) hn]]
        exact end1 rfl Kp_int
      · simp (maxSteps := 1000000) (disch := omega) only [h0, h3, hlt, h13, h10, len_by hx, iaddr_by hx, add_n, W_seq, W_region, W_cond, W_block, W_skip, W_label, W_exit, W_goto, W_ret, WO_cons, WO_consG, WO_nil, wantedA_eq, wantB, evOp, ev_tmp, ev_const, ev_fn, WN_some, WN_none, updO_some, updO_none, upd_eq,
 ↓reduceIte, Nat.reduceEqDiff, List.nil_append, List.cons_append, List.append_nil, List.map_cons, List.map_nil, env0_zero, env0_succ, env0_nil, Option.map_some, Option.map_none, seqQ_normal, seqQ_ret, seqQ_exit, seqQ_goto, blockQ_normal, blockQ_ret, blockQ_exit, blockQ_goto, condW_bool, loopQ_ret, loopQ_exit, loopQ_goto, endQ_ret, endQ_normal,
 lss_i, leq_i, gtr_i, geq_i, eql_i, neq_i, eql_8, neq_8, lss_8, leq_8, gtr_8, geq_8, eql_s, neq_s, eql_b, neq_b, not_b, by_bys, by_nils, load_cp1, beq_true, beq_false, Bool.not_eq_true', decide_eq_true_eq, decide_eq_false_iff_not, decide_true, decide_false,
 Int.toNat_natCast, Int.ofNat_lt, Int.ofNat_le, Int.natCast_inj, Bool.false_eq_true, Bool.true_eq_false, extPV, List.getElem?_cons_zero, List.getElem?_cons_succ, nilckPV, Int.reduceToNat, Int.reduceLE, true_and, and_true, reduceCtorEq, or_false, false_or, or_true, Option.some.injEq, exists_eq_left', Bool.not_true, Bool.not_false, ne_eq, Int.reduceEq, not_true_eq_false, not_false_eq_true, Int.reduceLT, UInt8.reduceLT, UInt8.reduceLE, UInt8.reduceToNat]
        refine loopQ_intro (m := l.length - (i + 1)) (by omega) ?_
        rw [hI]
        exact ⟨i + 1, rfl, by omega, next (by simp only [crlf, h13, h10, or_self, decide_false]), rfl, h0, rfl⟩
  · simp (maxSteps := 1000000) (disch := omega) only [h0, h3, hlt, len_by hx, W_seq, W_region, W_cond, W_block, W_skip, W_label, W_exit, W_goto, W_ret, WO_cons, WO_consG, WO_nil, wantedA_eq, wantB, evOp, ev_tmp, ev_const, ev_fn, WN_some, WN_none, updO_some, updO_none, upd_eq,
 ↓reduceIte, Nat.reduceEqDiff, List.nil_append, List.cons_append, List.append_nil, List.map_cons, List.map_nil, env0_zero, env0_succ, env0_nil, Option.map_some, Option.map_none, seqQ_normal, seqQ_ret, seqQ_exit, seqQ_goto, blockQ_normal, blockQ_ret, blockQ_exit, blockQ_goto, condW_bool, loopQ_ret, loopQ_exit, loopQ_goto, endQ_ret, endQ_normal,
 lss_i, leq_i, gtr_i, geq_i, eql_i, neq_i, eql_8, neq_8, lss_8, leq_8, gtr_8, geq_8, eql_s, neq_s, eql_b, neq_b, not_b, by_bys, by_nils, load_cp1, beq_true, beq_false, Bool.not_eq_true', decide_eq_true_eq, decide_eq_false_iff_not, decide_true, decide_false,
 Int.toNat_natCast, Int.ofNat_lt, Int.ofNat_le, Int.natCast_inj, Bool.false_eq_true, Bool.true_eq_false, extPV, List.getElem?_cons_zero, List.getElem?_cons_succ, nilckPV, Int.reduceToNat, Int.reduceLE, true_and, and_true, reduceCtorEq, or_false, false_or, or_true, Option.some.injEq, exists_eq_left', Bool.not_true, Bool.not_false, ne_eq, Int.reduceEq, not_true_eq_false, not_false_eq_true, Int.reduceLT, UInt8.reduceLT, UInt8.reduceLE, UInt8.reduceToNat]
    rw [show bareAt l = -1 by simp only [bareAt, find_none (fun j hj => hn j (by omega))]]
    exact end1 rfl Kp_int
/-! ### Copies: a new slice that owns its room -/
theorem app8_nils {x : PV} {l : List UInt8} (hx : x.by = some l) (h : l.length ≤ room) : app8 st .nils x = if l = [] then some (.nils, st) else some (.bys (.own st.toks.length) l, { st with toks := st.toks ++ [true] }) := by
  simp only [app8, src8_by hx, freshT, h, if_true]

/-- A copy: nothing of nothing. -/
def copyV (st : St) (l : List UInt8) : PV := if l = [] then .nils else .bys (.own st.toks.length) l
def copyS (st : St) (l : List UInt8) : St := if l = [] then st else { st with toks := st.toks ++ [true] }
theorem copyV_by {l : List UInt8} : (copyV st l).by = some l := by
  unfold copyV; split
  · rename_i h; rw [h]; rfl
  · rfl

/-- A new slice is handed back. -/
theorem leave_new {l : List UInt8} : leave st { boxes := st.boxes, toks := st.toks ++ [true], loops := st.loops, low := st.boxes.length } (.bys (.own st.toks.length) l) = (.bys (.own st.toks.length) l, { st with toks := st.toks ++ [true] }) := by
  simp [leave, PV.inB, keepRes, keepVal, keepLeaf, keepTok]

theorem Copy_spec {x : PV} {l : List UInt8} (hx : x.by = some l) (hl : l.length ≤ room) : call prog (.fn 14 []) [x] st = some (copyV st l, copyS st l) := by
  refine call_of_W prog_14 ?_
  unfold F_posthornref01_Copy; dsimp only
  by_cases h : l = []
  · simp (maxSteps := 1000000) (disch := omega) only [app8_nils hx hl, h, W_seq, W_region, W_cond, W_block, W_skip, W_label, W_exit, W_goto, W_ret, WO_cons, WO_consG, WO_nil, wantedA_eq, wantB, evOp, ev_tmp, ev_const, ev_fn, WN_some, WN_none, updO_some, updO_none, upd_eq,
 ↓reduceIte, Nat.reduceEqDiff, List.nil_append, List.cons_append, List.append_nil, List.map_cons, List.map_nil, env0_zero, env0_succ, env0_nil, Option.map_some, Option.map_none, seqQ_normal, seqQ_ret, seqQ_exit, seqQ_goto, blockQ_normal, blockQ_ret, blockQ_exit, blockQ_goto, condW_bool, loopQ_ret, loopQ_exit, loopQ_goto, endQ_ret, endQ_normal,
 lss_i, leq_i, gtr_i, geq_i, eql_i, neq_i, eql_8, neq_8, lss_8, leq_8, gtr_8, geq_8, eql_s, neq_s, eql_b, neq_b, not_b, by_bys, by_nils, load_cp1, beq_true, beq_false, Bool.not_eq_true', decide_eq_true_eq, decide_eq_false_iff_not, decide_true, decide_false,
 Int.toNat_natCast, Int.ofNat_lt, Int.ofNat_le, Int.natCast_inj, Bool.false_eq_true, Bool.true_eq_false, extPV, List.getElem?_cons_zero, List.getElem?_cons_succ, nilckPV, Int.reduceToNat, Int.reduceLE, true_and, and_true, reduceCtorEq, or_false, false_or, or_true, Option.some.injEq, exists_eq_left', Bool.not_true, Bool.not_false, ne_eq, Int.reduceEq, not_true_eq_false, not_false_eq_true, Int.reduceLT, UInt8.reduceLT, UInt8.reduceLE, UInt8.reduceToNat]
    simp only [copyV, copyS, if_true]
    exact end1 rfl Kp_nils
  · simp (maxSteps := 1000000) (disch := omega) only [app8_nils hx hl, h, W_seq, W_region, W_cond, W_block, W_skip, W_label, W_exit, W_goto, W_ret, WO_cons, WO_consG, WO_nil, wantedA_eq, wantB, evOp, ev_tmp, ev_const, ev_fn, WN_some, WN_none, updO_some, updO_none, upd_eq,
 ↓reduceIte, Nat.reduceEqDiff, List.nil_append, List.cons_append, List.append_nil, List.map_cons, List.map_nil, env0_zero, env0_succ, env0_nil, Option.map_some, Option.map_none, seqQ_normal, seqQ_ret, seqQ_exit, seqQ_goto, blockQ_normal, blockQ_ret, blockQ_exit, blockQ_goto, condW_bool, loopQ_ret, loopQ_exit, loopQ_goto, endQ_ret, endQ_normal,
 lss_i, leq_i, gtr_i, geq_i, eql_i, neq_i, eql_8, neq_8, lss_8, leq_8, gtr_8, geq_8, eql_s, neq_s, eql_b, neq_b, not_b, by_bys, by_nils, load_cp1, beq_true, beq_false, Bool.not_eq_true', decide_eq_true_eq, decide_eq_false_iff_not, decide_true, decide_false,
 Int.toNat_natCast, Int.ofNat_lt, Int.ofNat_le, Int.natCast_inj, Bool.false_eq_true, Bool.true_eq_false, extPV, List.getElem?_cons_zero, List.getElem?_cons_succ, nilckPV, Int.reduceToNat, Int.reduceLE, true_and, and_true, reduceCtorEq, or_false, false_or, or_true, Option.some.injEq, exists_eq_left', Bool.not_true, Bool.not_false, ne_eq, Int.reduceEq, not_true_eq_false, not_false_eq_true, Int.reduceLT, UInt8.reduceLT, UInt8.reduceLE, UInt8.reduceToNat]
    simp only [copyV, copyS, h, if_false]
    exact ⟨_, rfl, leave_new⟩
end Go.Ab

/-
  The document's lines.
-/
namespace Go.Ab
set_option linter.unusedVariables false
set_option linter.unusedSimpArgs false
variable {st : St} {e : Env}

/-- The lines of bytes, with whether each is ended; ahead of them stands what has been read of the first one. -/
def segs : List UInt8 → List UInt8 → List (List UInt8 × Bool)
  | [], acc => if acc = [] then [] else [(acc, false)]
  | [c], acc => [(acc ++ [c], false)]
  | c :: d :: r, acc => if c = 13 ∧ d = 10 then (acc, true) :: segs r [] else segs (d :: r) (acc ++ [c])

/-- Their places. -/
def place : Nat → List (List UInt8 × Bool) → List (Nat × List UInt8 × Bool)
  | _, [] => []
  | a, (b, w) :: r => (a, b, w) :: place (a + b.length + 2) r

def refLines (l : List UInt8) : List (Nat × List UInt8 × Bool) := place 0 (segs l [])

def lnV (q : Nat × List UInt8 × Bool) : PV := .agg [.int .i64 (q.1 : Int), .bys .no q.2.1, .bool q.2.2]

theorem segs_pair {l acc : List UInt8} {i : Nat} (h : pairAt l i = true) : segs (l.drop i) acc = (acc, true) :: segs (l.drop (i + 2)) [] := by
  simp only [pairAt, decide_eq_true_eq] at h
  obtain ⟨h1, h2, h3⟩ := h
  rw [List.drop_eq_getElem_cons (show i < l.length by omega), List.drop_eq_getElem_cons (show i + 1 < l.length by omega)]
  simp only [List.getD_eq_getElem?_getD, List.getElem?_eq_getElem (show i < l.length by omega), List.getElem?_eq_getElem (show i + 1 < l.length by omega), Option.getD_some] at h2 h3
  simp [segs, h2, h3]
theorem segs_step {l acc : List UInt8} {i : Nat} (h : pairAt l i = false) (hi : i < l.length) : segs (l.drop i) acc = segs (l.drop (i + 1)) (acc ++ [l.getD i 0]) := by
  simp only [pairAt, decide_eq_false_iff_not] at h
  rw [List.drop_eq_getElem_cons hi]
  have hg : l.getD i 0 = l[i] := by simp [List.getD, hi]
  rw [hg]
  by_cases h1 : i + 1 < l.length
  · rw [List.drop_eq_getElem_cons h1]
    have hg1 : l.getD (i + 1) 0 = l[i + 1] := by simp [List.getD, h1]
    rw [hg, hg1] at h
    simp only [segs]
    rw [if_neg (fun hc => h ⟨h1, hc⟩)]
  · rw [List.drop_of_length_le (show l.length ≤ i + 1 by omega)]
    simp [segs]
theorem segs_end {l acc : List UInt8} {i : Nat} (hi : l.length ≤ i) : segs (l.drop i) acc = if acc = [] then [] else [(acc, false)] := by
  rw [List.drop_of_length_le hi]; rfl

theorem take_drop_snoc {l : List UInt8} {a i : Nat} (ha : a ≤ i) (hi : i < l.length) : (l.take i).drop a ++ [l.getD i 0] = (l.take (i + 1)).drop a := by
  rw [List.take_succ_eq_append_getElem hi, List.drop_append_of_le_length (by simp; omega)]
  simp [List.getD, hi]

theorem Lines_big {x : PV} {l : List UInt8} (hx : x.by = some l) (hl : l.length ≤ 100000000) : call prog (.fn 8 []) [x] st = some (newSl st 3 ((refLines l).map lnV), newS st ((refLines l).map lnV).isEmpty) := by
  refine call_of_W prog_8 ?_
  unfold F_posthornref05_Lines; dsimp only
  simp (maxSteps := 1000000) (disch := omega) only [len_by hx, W_seq, W_region, W_cond, W_block, W_skip, W_label, W_exit, W_goto, W_ret, WO_cons, WO_consG, WO_nil, wantedA_eq, wantB, evOp, ev_tmp, ev_const, ev_fn, WN_some, WN_none, updO_some, updO_none, upd_eq,
 ↓reduceIte, Nat.reduceEqDiff, List.nil_append, List.cons_append, List.append_nil, List.map_cons, List.map_nil, env0_zero, env0_succ, env0_nil, Option.map_some, Option.map_none, seqQ_normal, seqQ_ret, seqQ_exit, seqQ_goto, blockQ_normal, blockQ_ret, blockQ_exit, blockQ_goto, condW_bool, loopQ_ret, loopQ_exit, loopQ_goto, endQ_ret, endQ_normal,
 lss_i, leq_i, gtr_i, geq_i, eql_i, neq_i, eql_8, neq_8, lss_8, leq_8, gtr_8, geq_8, eql_s, neq_s, eql_b, neq_b, not_b, by_bys, by_nils, load_cp1, beq_true, beq_false, Bool.not_eq_true', decide_eq_true_eq, decide_eq_false_iff_not, decide_true, decide_false,
 Int.toNat_natCast, Int.ofNat_lt, Int.ofNat_le, Int.natCast_inj, Bool.false_eq_true, Bool.true_eq_false, extPV, List.getElem?_cons_zero, List.getElem?_cons_succ, nilckPV, Int.reduceToNat, Int.reduceLE, true_and, and_true, reduceCtorEq, or_false, false_or, or_true, Option.some.injEq, exists_eq_left', Bool.not_true, Bool.not_false, ne_eq, Int.reduceEq, not_true_eq_false, not_false_eq_true, Int.reduceLT, UInt8.reduceLT, UInt8.reduceLE, UInt8.reduceToNat]
  obtain ⟨I, hI⟩ : ∃ I : Nat → Env → St → Prop, I = fun n e s => ∃ (i a : Nat) (out : List (Nat × List UInt8 × Bool)) (v : PV), n = l.length - i ∧ a ≤ i ∧ i ≤ l.length ∧ out.length ≤ i ∧ refLines l = out ++ place a (segs (l.drop i) ((l.take i).drop a)) ∧
      Grew st s ∧ Own st s 3 v (out.map lnV) ∧ (out.map lnV = [] → v = .nils) ∧ e 0 = x ∧ e 3 = v ∧ e 4 = .int .i64 (a : Int) ∧ e 5 = .int .i64 (i : Int) := ⟨_, rfl⟩
  refine W_loop I ?_ (n := l.length) (by rw [hI]; exact ⟨0, 0, [], .nils, rfl, by omega, by omega, by simp, by simp [refLines], Grew.start, .inl ⟨rfl, rfl⟩, fun _ => rfl, rfl, rfl, rfl, rfl⟩)
  intro n e s h
  rw [hI] at h
  obtain ⟨i, a, out, v, rfl, hai, hil, hol, hr, hg, hown, hnil, h0, h3, h4, h5⟩ := h
  by_cases hlt : i < l.length
  · cases hp : pairAt l i with
    | true =>
      have hmid := midB_by (i := a) (j := i) hx
      have hxs : ∃ t, x = .bys t l := by
        rcases by_cases' hx with ⟨rfl, rfl⟩ | h
        · simp at hlt
        · exact h
      obtain ⟨t, rfl⟩ := hxs
      have hp2 : i + 1 < l.length := by simp only [pairAt, decide_eq_true_eq] at hp; exact hp.1
      have happ := appV_own (u := lnV (a, (l.take i).drop a, true)) (t := .own s.toks.length) hown.tok1 (by simp [room]; omega)
      obtain ⟨hg2, hown2⟩ := Own.app (ys := out.map lnV ++ [lnV (a, (l.take i).drop a, true)]) hg.tok1 hown.tok1
      have hlit : ∀ z, litFill 3 (List.replicate 1 z) [(0, .agg [.int .i64 (a : Int), (PV.bys t l).midB a i, .bool true])] = some [lnV (a, (l.take i).drop a, true)] := fun z => lit1 rfl rfl
      simp (maxSteps := 1000000) (disch := omega) only [h0, h3, h4, h5, hlt, hp, len_by hx, Pair_spec hx, slc_lohi hx, add_n, build3 Leaf_int (Leaf_by hmid) Leaf_bool, hlit, freshT_eq, happ, W_seq, W_region, W_cond, W_block, W_skip, W_label, W_exit, W_goto, W_ret, WO_cons, WO_consG, WO_nil, wantedA_eq, wantB, evOp, ev_tmp, ev_const, ev_fn, WN_some, WN_none, updO_some, updO_none, upd_eq,
 ↓reduceIte, Nat.reduceEqDiff, List.nil_append, List.cons_append, List.append_nil, List.map_cons, List.map_nil, env0_zero, env0_succ, env0_nil, Option.map_some, Option.map_none, seqQ_normal, seqQ_ret, seqQ_exit, seqQ_goto, blockQ_normal, blockQ_ret, blockQ_exit, blockQ_goto, condW_bool, loopQ_ret, loopQ_exit, loopQ_goto, endQ_ret, endQ_normal,
 lss_i, leq_i, gtr_i, geq_i, eql_i, neq_i, eql_8, neq_8, lss_8, leq_8, gtr_8, geq_8, eql_s, neq_s, eql_b, neq_b, not_b, by_bys, by_nils, load_cp1, beq_true, beq_false, Bool.not_eq_true', decide_eq_true_eq, decide_eq_false_iff_not, decide_true, decide_false,
 Int.toNat_natCast, Int.ofNat_lt, Int.ofNat_le, Int.natCast_inj, Bool.false_eq_true, Bool.true_eq_false, extPV, List.getElem?_cons_zero, List.getElem?_cons_succ, nilckPV, Int.reduceToNat, Int.reduceLE, true_and, and_true, reduceCtorEq, or_false, false_or, or_true, Option.some.injEq, exists_eq_left', Bool.not_true, Bool.not_false, ne_eq, Int.reduceEq, not_true_eq_false, not_false_eq_true, Int.reduceLT, UInt8.reduceLT, UInt8.reduceLE, UInt8.reduceToNat]
      refine loopQ_intro (m := l.length - (i + 2)) (by omega) ?_
      rw [hI]
      refine ⟨i + 2, i + 2, out ++ [(a, (l.take i).drop a, true)], _, rfl, by omega, by omega, by simp; omega, ?_, hg2, by rw [List.map_append]; exact hown2, fun hm => by simp at hm, h0, rfl, ?_, ?_⟩
      · rw [hr, segs_pair hp]
        simp only [place, List.append_assoc, List.cons_append, List.nil_append]
        rw [show a + ((l.take i).drop a).length + 2 = i + 2 by simp; omega, List.drop_take_self]
      · rfl
      · rfl
    | false =>
      simp (maxSteps := 1000000) (disch := omega) only [h0, h3, h4, h5, hlt, hp, len_by hx, Pair_spec hx, add_n, W_seq, W_region, W_cond, W_block, W_skip, W_label, W_exit, W_goto, W_ret, WO_cons, WO_consG, WO_nil, wantedA_eq, wantB, evOp, ev_tmp, ev_const, ev_fn, WN_some, WN_none, updO_some, updO_none, upd_eq,
 ↓reduceIte, Nat.reduceEqDiff, List.nil_append, List.cons_append, List.append_nil, List.map_cons, List.map_nil, env0_zero, env0_succ, env0_nil, Option.map_some, Option.map_none, seqQ_normal, seqQ_ret, seqQ_exit, seqQ_goto, blockQ_normal, blockQ_ret, blockQ_exit, blockQ_goto, condW_bool, loopQ_ret, loopQ_exit, loopQ_goto, endQ_ret, endQ_normal,
 lss_i, leq_i, gtr_i, geq_i, eql_i, neq_i, eql_8, neq_8, lss_8, leq_8, gtr_8, geq_8, eql_s, neq_s, eql_b, neq_b, not_b, by_bys, by_nils, load_cp1, beq_true, beq_false, Bool.not_eq_true', decide_eq_true_eq, decide_eq_false_iff_not, decide_true, decide_false,
 Int.toNat_natCast, Int.ofNat_lt, Int.ofNat_le, Int.natCast_inj, Bool.false_eq_true, Bool.true_eq_false, extPV, List.getElem?_cons_zero, List.getElem?_cons_succ, nilckPV, Int.reduceToNat, Int.reduceLE, true_and, and_true, reduceCtorEq, or_false, false_or, or_true, Option.some.injEq, exists_eq_left', Bool.not_true, Bool.not_false, ne_eq, Int.reduceEq, not_true_eq_false, not_false_eq_true, Int.reduceLT, UInt8.reduceLT, UInt8.reduceLE, UInt8.reduceToNat]
      refine loopQ_intro (m := l.length - (i + 1)) (by omega) ?_
      rw [hI]
      exact ⟨i + 1, a, out, v, rfl, by omega, by omega, by omega, by rw [hr, segs_step hp hlt, take_drop_snoc hai hlt], hg, hown, hnil, h0, h3, h4, rfl⟩
  · obtain rfl : i = l.length := by omega
    rw [segs_end (Nat.le_refl _), List.take_length] at hr
    by_cases hal : a < l.length
    · have hmid := dropB_by (i := a) hx
      have hxs : ∃ t, x = .bys t l := by
        rcases by_cases' hx with ⟨rfl, rfl⟩ | h
        · simp at hal
        · exact h
      obtain ⟨t, rfl⟩ := hxs
      have happ := appV_own (u := lnV (a, l.drop a, false)) (t := .own s.toks.length) hown.tok1 (by simp [room]; omega)
      obtain ⟨hg2, hown2⟩ := Own.app (ys := out.map lnV ++ [lnV (a, l.drop a, false)]) hg.tok1 hown.tok1
      have hlit : ∀ z, litFill 3 (List.replicate 1 z) [(0, .agg [.int .i64 (a : Int), (PV.bys t l).dropB a, .bool false])] = some [lnV (a, l.drop a, false)] := fun z => lit1 rfl rfl
      simp (maxSteps := 1000000) (disch := omega) only [h0, h3, h4, h5, hal, hlt, len_by hx, slc_lo hx, build3 Leaf_int (Leaf_by hmid) Leaf_bool, hlit, freshT_eq, happ, W_seq, W_region, W_cond, W_block, W_skip, W_label, W_exit, W_goto, W_ret, WO_cons, WO_consG, WO_nil, wantedA_eq, wantB, evOp, ev_tmp, ev_const, ev_fn, WN_some, WN_none, updO_some, updO_none, upd_eq,
 ↓reduceIte, Nat.reduceEqDiff, List.nil_append, List.cons_append, List.append_nil, List.map_cons, List.map_nil, env0_zero, env0_succ, env0_nil, Option.map_some, Option.map_none, seqQ_normal, seqQ_ret, seqQ_exit, seqQ_goto, blockQ_normal, blockQ_ret, blockQ_exit, blockQ_goto, condW_bool, loopQ_ret, loopQ_exit, loopQ_goto, endQ_ret, endQ_normal,
 lss_i, leq_i, gtr_i, geq_i, eql_i, neq_i, eql_8, neq_8, lss_8, leq_8, gtr_8, geq_8, eql_s, neq_s, eql_b, neq_b, not_b, by_bys, by_nils, load_cp1, beq_true, beq_false, Bool.not_eq_true', decide_eq_true_eq, decide_eq_false_iff_not, decide_true, decide_false,
 Int.toNat_natCast, Int.ofNat_lt, Int.ofNat_le, Int.natCast_inj, Bool.false_eq_true, Bool.true_eq_false, extPV, List.getElem?_cons_zero, List.getElem?_cons_succ, nilckPV, Int.reduceToNat, Int.reduceLE, true_and, and_true, reduceCtorEq, or_false, false_or, or_true, Option.some.injEq, exists_eq_left', Bool.not_true, Bool.not_false, ne_eq, Int.reduceEq, not_true_eq_false, not_false_eq_true, Int.reduceLT, UInt8.reduceLT, UInt8.reduceLE, UInt8.reduceToNat]
      have hne : l.drop a ≠ [] := fun h => by
        have := congrArg List.length h
        simp at this; omega
      rw [if_neg hne] at hr
      simp only [place] at hr
      rw [hr, List.map_append]
      exact ⟨_, rfl, leave_own hg2 hown2 (fun hm => by simp at hm)⟩
    · simp (maxSteps := 1000000) (disch := omega) only [h0, h3, h4, h5, hal, hlt, len_by hx, W_seq, W_region, W_cond, W_block, W_skip, W_label, W_exit, W_goto, W_ret, WO_cons, WO_consG, WO_nil, wantedA_eq, wantB, evOp, ev_tmp, ev_const, ev_fn, WN_some, WN_none, updO_some, updO_none, upd_eq,
 ↓reduceIte, Nat.reduceEqDiff, List.nil_append, List.cons_append, List.append_nil, List.map_cons, List.map_nil, env0_zero, env0_succ, env0_nil, Option.map_some, Option.map_none, seqQ_normal, seqQ_ret, seqQ_exit, seqQ_goto, blockQ_normal, blockQ_ret, blockQ_exit, blockQ_goto, condW_bool, loopQ_ret, loopQ_exit, loopQ_goto, endQ_ret, endQ_normal,
 lss_i, leq_i, gtr_i, geq_i, eql_i, neq_i, eql_8, neq_8, lss_8, leq_8, gtr_8, geq_8, eql_s, neq_s, eql_b, neq_b, not_b, by_bys, by_nils, load_cp1, beq_true, beq_false, Bool.not_eq_true', decide_eq_true_eq, decide_eq_false_iff_not, decide_true, decide_false,
 Int.toNat_natCast, Int.ofNat_lt, Int.ofNat_le, Int.natCast_inj, Bool.false_eq_true, Bool.true_eq_false, extPV, List.getElem?_cons_zero, List.getElem?_cons_succ, nilckPV, Int.reduceToNat, Int.reduceLE, true_and, and_true, reduceCtorEq, or_false, false_or, or_true, Option.some.injEq, exists_eq_left', Bool.not_true, Bool.not_false, ne_eq, Int.reduceEq, not_true_eq_false, not_false_eq_true, Int.reduceLT, UInt8.reduceLT, UInt8.reduceLE, UInt8.reduceToNat]
      rw [List.drop_of_length_le (by omega)] at hr
      simp only [if_true, place, List.append_nil] at hr
      rw [hr]
      exact ⟨v, by rcases hown with ⟨rfl, _⟩ | ⟨i, rfl, _⟩ <;> rfl, leave_own hg hown hnil⟩
theorem Lines_spec {x : PV} {l : List UInt8} (hx : x.by = some l) (hl : l.length ≤ 1000000) : call prog (.fn 8 []) [x] st = some (newSl st 3 ((refLines l).map lnV), newS st ((refLines l).map lnV).isEmpty) := Lines_big hx (by omega)
end Go.Ab

/-
  Lines of a written header: the plain law.
-/
namespace Go.Ab
set_option linter.unusedVariables false
set_option linter.unusedSimpArgs false
variable {st s : St} {e : Env}

theorem segs_clean : ∀ (y rest acc : List UInt8), (∀ c ∈ y, c ≠ 13) → segs (y ++ 13 :: 10 :: rest) acc = (acc ++ y, true) :: segs rest [] := by
  intro y
  induction y with
  | nil => intro rest acc _; simp [segs]
  | cons c r ih =>
    intro rest acc h
    have hc : c ≠ 13 := h c (by simp)
    have h2 := ih rest (acc ++ [c]) (fun d hd => h d (by simp [hd]))
    cases r with
    | nil => 
      simp only [List.nil_append, List.cons_append] at h2 ⊢
      simp only [segs, hc, false_and, if_false]
      simp [segs]
    | cons d r =>
      simp only [List.cons_append] at h2 ⊢
      rw [segs, if_neg (by simp [hc]), h2]
      simp

theorem segs_all : ∀ (ps : List (List UInt8)), (∀ p ∈ ps, ∀ c ∈ p, c ≠ 13) → segs (ps.flatMap crl2 ++ [13, 10]) [] = ps.map (fun p => (p, true)) ++ [([], true)] := by
  intro ps
  induction ps with
  | nil => intro _; simp [segs]
  | cons p r ih =>
    intro h
    have := segs_clean p (r.flatMap crl2 ++ [13, 10]) [] (h p (by simp))
    simp only [List.flatMap_cons, crl2, List.append_assoc, List.cons_append, List.nil_append, List.map_cons] at this ih ⊢
    rw [this]
    rw [ih (fun q hq => h q (by simp [hq]))]

theorem plc_none {l : List UInt8} {f : Nat} : ∀ m, plc l f m = -1 → ∀ k, k < m → f ≤ k → l.getD k 0 ≠ 32 := by
  intro m
  induction m with
  | zero => intro _ k hk; omega
  | succ m ih =>
    intro h k hk hf hb
    rw [plc_succ] at h
    have hb1 := plc_le (l := l) (f := f) m
    split at h
    · omega
    · rename_i hn
      by_cases hkm : k = m
      · subst hkm
        exact hn ⟨hf, hb, .inr (by omega)⟩
      · exact ih h k (by omega) hf hb
theorem plc_blank {l : List UInt8} {f : Nat} : ∀ m, 0 ≤ plc l f m → l.getD (plc l f m).toNat 0 = 32 := by
  intro m
  induction m with
  | zero => intro h; simp [plc] at h
  | succ m ih =>
    intro h
    rw [plc_succ] at h ⊢
    split
    · rename_i hc; simp only [Int.toNat_natCast]; exact hc.2.1
    · rename_i hc; rw [if_neg hc] at h; exact ih h

def noBlank (p : List UInt8) (f : Nat) : Prop := ∀ k, f ≤ k → k ≤ 76 → p.getD k 0 ≠ 32
theorem getD_take {l : List UInt8} {n k : Nat} (h : k < n) : (l.take n).getD k 0 = l.getD k 0 := by simp [List.getD, List.getElem?_take, h]

theorem foldF_good : ∀ (n : Nat) (l : List UInt8) (f : Nat), l.length ≤ n → 1 ≤ f → f ≤ 77 → ∀ p ∈ foldF n l f, 76 < p.length → (p <+: l ∧ noBlank p f) ∨ (p.getD 0 0 = 32 ∧ noBlank p 1) := by
  intro n
  induction n with
  | zero =>
    intro l f hn _ _ p hp h76
    simp only [foldF, List.mem_singleton] at hp
    subst hp; omega
  | succ n ih =>
    intro l f hn hf1 hf2 p hp h76
    simp only [foldF] at hp
    by_cases hl : 76 < l.length
    · rw [if_pos hl] at hp
      have hple := plc_le (l := l) (f := f) l.length
      by_cases hneg : plc l f l.length < 0
      · rw [if_pos hneg] at hp
        simp only [List.mem_singleton] at hp
        rw [hp]
        exact .inl ⟨List.prefix_rfl, fun k h1 h2 => plc_none l.length (by omega) k (by omega) h1⟩
      · rw [if_neg hneg] at hp
        obtain ⟨pn, hpn⟩ : ∃ pn : Nat, plc l f l.length = (pn : Int) := ⟨(plc l f l.length).toNat, by omega⟩
        have hbk := plc_blank (l := l) (f := f) l.length (by omega)
        rw [hpn, Int.toNat_natCast] at hp hbk
        rw [hpn] at hple
        have hfp : f ≤ pn := by have := hple.2.2 (by omega); omega
        rcases List.mem_cons.1 hp with rfl | hp
        · refine .inl ⟨List.take_prefix _ _, fun k h1 h2 => ?_⟩
          have hlen : (l.take pn).length = pn := by simp; omega
          rw [hlen] at h76
          rw [getD_take (by omega)]
          have h77 : plc l f 77 = -1 := by
            have hb := plc_le (l := l) (f := f) 77
            by_cases h0 : 0 ≤ plc l f 77
            · have := plc_stay h0 (l.length - 77)
              rw [show 77 + (l.length - 77) = l.length by omega, hpn] at this
              omega
            · omega
          exact plc_none 77 h77 k (by omega) h1
        · rcases ih (l.drop pn) 1 (by simp; omega) (by omega) (by omega) p hp h76 with ⟨h1, h2⟩ | h1
          · refine .inr ⟨?_, h2⟩
            obtain ⟨r, hr⟩ := h1
            have : (l.drop pn).getD 0 0 = p.getD 0 0 := by
              rw [← hr]
              simp only [List.getD]
              rw [List.getElem?_append_left (by omega)]
            rw [← this, getD_drop0]; exact hbk
          · exact .inr h1
    · rw [if_neg hl] at hp
      simp only [List.mem_singleton] at hp
      subst hp; omega

/-- A line that is too long has no place to be folded at. -/
def goodP (p : List UInt8) : Prop := 76 < p.length → (p.getD 0 0 = 32 ∧ noBlank p 1) ∨ (p.getD 0 0 ≠ 32 ∧ ∃ n, n < p.length ∧ n ≤ 64 ∧ p.getD n 0 = 58 ∧ (∀ j, j < n → p.getD j 0 ≠ 58) ∧ noBlank p (n + 3))

theorem nameC_ne {c : UInt8} (h : nameC c = true) : c ≠ 32 ∧ c ≠ 58 ∧ c ≠ 13 := by
  simp only [nameC, Bool.and_eq_true, Bool.not_eq_true', decide_eq_false_iff_not] at h
  refine ⟨?_, h.2, ?_⟩
  · rintro rfl; exact h.1.1 (by decide)
  · rintro rfl; exact h.1.1 (by decide)
theorem valC_ne {c : UInt8} (h : valC c = true) : c ≠ 13 := by
  rintro rfl; revert h; decide

theorem line_clean {f : Fld} (h : okFd f = true) : ∀ c ∈ lineOf f, c ≠ 13 := by
  intro c hc
  simp only [okFd, nameB, valB, Bool.and_eq_true, List.all_eq_true] at h
  simp only [lineOf, List.mem_append, List.mem_singleton] at hc
  rcases hc with (hc | rfl) | hc
  · exact (nameC_ne (h.1.2 c hc)).2.2
  · decide
  · split at hc
    · cases hc
    · rcases List.mem_cons.1 hc with rfl | hc
      · decide
      · exact valC_ne (h.2.1.1 c hc)
theorem piece_clean {f : Fld} (h : okFd f = true) : ∀ p ∈ piecesOf f, ∀ c ∈ p, c ≠ 13 := by
  intro p hp c hc
  have hfl := foldF_flat (lineOf f).length (lineOf f) (f.1.length + 3)
  refine line_clean h c ?_
  rw [← hfl]
  exact List.mem_flatten.2 ⟨p, hp, hc⟩

theorem pieces_good {f : Fld} (h : okFd f = true) : ∀ p ∈ piecesOf f, goodP p := by
  intro p hp h76
  have hn := h
  simp only [okFd, nameB, Bool.and_eq_true, decide_eq_true_eq, List.all_eq_true] at hn
  obtain ⟨⟨⟨hn1, hn2⟩, hn3⟩, -⟩ := hn
  rcases foldF_good _ _ _ (Nat.le_refl _) (by omega) (by omega) p hp h76 with ⟨h1, h2⟩ | h1
  · obtain ⟨r, hr⟩ := h1
    have hg : ∀ k, k < p.length → p.getD k 0 = (lineOf f).getD k 0 := fun k hk => by
      rw [← hr]; simp only [List.getD]; rw [List.getElem?_append_left hk]
    have hnm : ∀ k, k < f.1.length → nameC (p.getD k 0) = true := fun k hk => by
      rw [hg k (by omega)]
      have : (lineOf f).getD k 0 = f.1.getD k 0 := by
        unfold lineOf
        simp only [List.getD, List.append_assoc]
        rw [List.getElem?_append_left hk]
      rw [this]
      exact hn3 _ (by simp [List.getD, hk])
    refine .inr ⟨(nameC_ne (hnm 0 (by omega))).1, f.1.length, by omega, hn2, ?_, fun j hj => (nameC_ne (hnm j hj)).2.1, h2⟩
    rw [hg _ (by omega)]
    unfold lineOf
    simp only [List.getD, List.append_assoc]
    rw [List.getElem?_append_right (Nat.le_refl _)]; simp
  · exact .inl h1

/-- The lines of a written header. -/
def allPieces (fs : List Fld) : List (List UInt8) := fs.flatMap piecesOf
theorem flat_pieces : ∀ (fs : List Fld), fs.flatMap fieldBytes = (allPieces fs).flatMap crl2 := by
  intro fs
  induction fs with
  | nil => rfl
  | cons f r ih => simp only [allPieces, List.flatMap_cons, List.flatMap_append] at ih ⊢; rw [ih]; rfl
theorem place_map3 : ∀ (q : List (List UInt8 × Bool)) (a : Nat), (place a q).map (fun z => z.2) = q := by
  intro q
  induction q with
  | nil => intro a; rfl
  | cons x r ih => intro a; obtain ⟨b, w⟩ := x; simp [place, ih]
theorem written_lines {fs : List Fld} (h : fs.all okFd = true) : (refLines (fs.flatMap fieldBytes ++ [13, 10])).map (fun z => z.2) = (allPieces fs).map (fun p => (p, true)) ++ [([], true)] := by
  unfold refLines
  rw [place_map3, flat_pieces, segs_all]
  intro p hp
  obtain ⟨f, hf, hp⟩ := List.mem_flatMap.1 hp
  exact piece_clean (List.all_eq_true.1 h f hf) p hp
theorem lines_good {fs : List Fld} (h : fs.all okFd = true) : ∀ z ∈ refLines (fs.flatMap fieldBytes ++ [13, 10]), goodP z.2.1 := by
  intro z hz
  have hm : z.2 ∈ (refLines (fs.flatMap fieldBytes ++ [13, 10])).map (fun z => z.2) := List.mem_map.2 ⟨z, hz, rfl⟩
  rw [written_lines h] at hm
  rcases List.mem_append.1 hm with hm | hm
  · obtain ⟨p, hp, he⟩ := List.mem_map.1 hm
    obtain ⟨f, hf, hp⟩ := List.mem_flatMap.1 hp
    rw [← he]
    exact pieces_good (List.all_eq_true.1 h f hf) p hp
  · simp only [List.mem_singleton] at hm
    rw [hm]; intro h76; simp at h76
end Go.Ab

/-
  The law FieldsFolds.
-/
namespace Go.Ab
set_option linter.unusedVariables false
set_option linter.unusedSimpArgs false
variable {st s : St} {e : Env}

theorem iaddr_ln {x : PV} {L : List (Nat × List UInt8 × Bool)} {k : IntKind} {c : Int} (h : x.vs 3 = some (L.map lnV)) (h1 : 0 ≤ c) (h2 : c.toNat < L.length) : iaddrPV 3 x (.int k c) = some (.cp [.int .i64 ((L.getD c.toNat (0, [], false)).1 : Int), .bys .no (L.getD c.toNat (0, [], false)).2.1, .bool (L.getD c.toNat (0, [], false)).2.2]) := by
  rw [iaddr_vs h h1 (by simpa using h2)]
  simp [List.getD, h2, lnV, PV.cells]

set_option maxHeartbeats 1000000 in
theorem law_FieldsFolds {x : PV} {fs : List Fld} (hx : x.vs 2 = some (fs.map fV)) (hm : ∀ f ∈ fs, f.1.length ≤ maxLen ∧ f.2.length ≤ maxLen) (hl : fs.length ≤ maxLen) :
    ∃ s', call prog (.fn 154 []) [x] ⟨[], [], [], 0⟩ = some (.bool true, s') := by
  have hML : maxLen ≤ 9223372036854775807 := by decide
  refine law_of_W prog_154 rfl ?_
  unfold F_posthornlaw06_FieldsFolds; dsimp only
  obtain ⟨g, hg, hgb⟩ := Great_spec (st := ⟨[], [], [], 0⟩) hx (fun f hf => ⟨by have := (hm f hf).1; omega, by have := (hm f hf).2; omega⟩) (by omega)
  cases g with
  | true =>
    simp (maxSteps := 1000000) (disch := omega) only [List.length_nil, hg, al06_e, W_seq, W_region, W_cond, W_block, W_skip, W_label, W_exit, W_goto, W_ret, WO_cons, WO_consG, WO_nil, wantedA_eq, wantB, evOp, ev_tmp, ev_const, ev_fn, WN_some, WN_none, updO_some, updO_none, upd_eq,
 ↓reduceIte, Nat.reduceEqDiff, List.nil_append, List.cons_append, List.append_nil, List.map_cons, List.map_nil, env0_zero, env0_succ, env0_nil, Option.map_some, Option.map_none, seqQ_normal, seqQ_ret, seqQ_exit, seqQ_goto, blockQ_normal, blockQ_ret, blockQ_exit, blockQ_goto, condW_bool, loopQ_ret, loopQ_exit, loopQ_goto, endQ_ret, endQ_normal,
 lss_i, leq_i, gtr_i, geq_i, eql_i, neq_i, eql_8, neq_8, lss_8, leq_8, gtr_8, geq_8, eql_s, neq_s, eql_b, neq_b, not_b, by_bys, by_nils, load_cp1, beq_true, beq_false, Bool.not_eq_true', decide_eq_true_eq, decide_eq_false_iff_not, decide_true, decide_false,
 Int.toNat_natCast, Int.ofNat_lt, Int.ofNat_le, Int.natCast_inj, Bool.false_eq_true, Bool.true_eq_false, extPV, List.getElem?_cons_zero, List.getElem?_cons_succ, nilckPV, Int.reduceToNat, Int.reduceLE, true_and, and_true, reduceCtorEq, or_false, false_or, or_true, Option.some.injEq, exists_eq_left', Bool.not_true, Bool.not_false, ne_eq, Int.reduceEq, not_true_eq_false, not_false_eq_true, Int.reduceLT, UInt8.reduceLT, UInt8.reduceLE, UInt8.reduceToNat]
  | false =>
  obtain ⟨hl2, hf⟩ := hgb rfl
  have hW := Write_spec (st := ⟨[], [], [], 0⟩) hx hf (by omega)
  by_cases hz : (writeOf fs).1 = 0
  · obtain ⟨h128, hall, hbs⟩ : fs.length ≤ 128 ∧ fs.all okFd = true ∧ writeOf fs = (0, fs.flatMap fieldBytes ++ [13, 10]) := by
      unfold writeOf at hz ⊢
      split at hz
      · simp at hz
      · rename_i h1
        split at hz
        · rename_i h2
          split at hz
          · simp at hz
          · rename_i h3
            exact ⟨by omega, h2, by rw [if_neg h1, if_pos h2, if_neg h3]⟩
        · simp at hz
    have hgood := lines_good hall
    have hbl := bytes_len hf
    have hbl2 : (fs.flatMap fieldBytes ++ [13, 10]).length ≤ 100000000 := by
      have h3 : fs.length * 30000 ≤ 128 * 30000 := Nat.mul_le_mul_right _ h128
      have h4 : 128 * 30000 = 3840000 := by decide
      rw [List.length_append]; simp only [List.length_cons, List.length_nil]; omega
    obtain ⟨B, hB⟩ : ∃ B, B = fs.flatMap fieldBytes ++ [13, 10] := ⟨_, rfl⟩
    rw [← hB] at hbs hgood hbl2
    rw [hbs] at hW
    simp only [outV, if_true, List.length_nil, St.tok1, List.nil_append] at hW
    have hLn := Lines_big (st := ⟨[], [true], [], 0⟩) (x := .bys (.own 0) B) (l := B) rfl hbl2
    have hne : ((refLines B).map lnV).isEmpty = false := by
      have := congrArg List.length (written_lines hall)
      rw [← hB] at this
      simp at this
      cases hq : refLines B with
      | nil => rw [hq] at this; simp at this
      | cons a r => rfl
    obtain ⟨L, hL⟩ : ∃ L, L = refLines B := ⟨_, rfl⟩
    rw [← hL] at hLn hne hgood
    have hLl : L.length ≤ 100000000 := by
      have h1 := congrArg List.length (written_lines hall)
      rw [← hB, ← hL] at h1
      simp only [List.length_map, List.length_append, List.length_cons, List.length_nil] at h1
      have h2 := crl2_len (allPieces fs)
      rw [← flat_pieces] at h2
      rw [hB, List.length_append] at hbl2
      simp only [List.length_cons, List.length_nil] at hbl2
      omega
    have hvs : (newSl ⟨[], [true], [], 0⟩ 3 (L.map lnV)).vs 3 = some (L.map lnV) := newSl_vs
    obtain ⟨lv, hlv⟩ : ∃ lv, lv = newSl ⟨[], [true], [], 0⟩ 3 (L.map lnV) := ⟨_, rfl⟩
    rw [← hlv] at hLn hvs
    rw [hne] at hLn
    simp only [newS, Bool.false_eq_true, if_false, St.tok1, List.cons_append, List.nil_append] at hLn
    have hlen := len_vs hvs
    rw [List.length_map] at hlen
    simp (maxSteps := 1000000) (disch := omega) only [List.length_nil, hg, hW, hLn, W_seq, W_region, W_cond, W_block, W_skip, W_label, W_exit, W_goto, W_ret, WO_cons, WO_consG, WO_nil, wantedA_eq, wantB, evOp, ev_tmp, ev_const, ev_fn, WN_some, WN_none, updO_some, updO_none, upd_eq,
 ↓reduceIte, Nat.reduceEqDiff, List.nil_append, List.cons_append, List.append_nil, List.map_cons, List.map_nil, env0_zero, env0_succ, env0_nil, Option.map_some, Option.map_none, seqQ_normal, seqQ_ret, seqQ_exit, seqQ_goto, blockQ_normal, blockQ_ret, blockQ_exit, blockQ_goto, condW_bool, loopQ_ret, loopQ_exit, loopQ_goto, endQ_ret, endQ_normal,
 lss_i, leq_i, gtr_i, geq_i, eql_i, neq_i, eql_8, neq_8, lss_8, leq_8, gtr_8, geq_8, eql_s, neq_s, eql_b, neq_b, not_b, by_bys, by_nils, load_cp1, beq_true, beq_false, Bool.not_eq_true', decide_eq_true_eq, decide_eq_false_iff_not, decide_true, decide_false,
 Int.toNat_natCast, Int.ofNat_lt, Int.ofNat_le, Int.natCast_inj, Bool.false_eq_true, Bool.true_eq_false, extPV, List.getElem?_cons_zero, List.getElem?_cons_succ, nilckPV, Int.reduceToNat, Int.reduceLE, true_and, and_true, reduceCtorEq, or_false, false_or, or_true, Option.some.injEq, exists_eq_left', Bool.not_true, Bool.not_false, ne_eq, Int.reduceEq, not_true_eq_false, not_false_eq_true, Int.reduceLT, UInt8.reduceLT, UInt8.reduceLE, UInt8.reduceToNat]
    obtain ⟨I, hI⟩ : ∃ I : Nat → Env → St → Prop, I = fun k e s' => ∃ (i : Nat), k = L.length - i ∧ i ≤ L.length ∧ s' = ⟨[], [true, true], [], 0⟩ ∧ e 5 = lv ∧ e 6 = .int .i64 (i : Int) := ⟨_, rfl⟩
    refine W_loop I ?_ (n := L.length) (by
      rw [hI]
      exact ⟨0, rfl, by omega, rfl, rfl, rfl⟩)
    intro k e s' hh
    rw [hI] at hh
    obtain ⟨i, rfl, hi, rfl, h5, h6⟩ := hh
    by_cases hlt : i < L.length
    · obtain ⟨p, hp⟩ : ∃ p, p = (L.getD i (0, [], false)).2.1 := ⟨_, rfl⟩
      have hpg : goodP p := by
        rw [hp]; exact hgood _ (by simp [List.getD, hlt])
      have hia : iaddrPV 3 lv (.int .i64 (i : Int)) = some (.cp [.int .i64 ((L.getD i (0, [], false)).1 : Int), .bys .no p, .bool (L.getD i (0, [], false)).2.2]) := by
        rw [hp]; exact iaddr_ln hvs (by omega) (by simpa using hlt)
      have hnext : ∀ (E : Env), E 5 = lv → E 6 = .int .i64 ((i + 1 : Nat) : Int) → I (L.length - (i + 1)) E ⟨[], [true, true], [], 0⟩ := by
        intro E k5 k6
        rw [hI]; exact ⟨i + 1, rfl, by omega, rfl, k5, k6⟩
      by_cases h76 : p.length ≤ 76
      · have e1 : (p.length : Int) ≤ 76 := by omega
        simp (maxSteps := 1000000) (disch := omega) only [h5, h6, hlen, hlt, hia, fa_cp, load_cp1', len_by by_bys, e1, add_n, W_seq, W_region, W_cond, W_block, W_skip, W_label, W_exit, W_goto, W_ret, WO_cons, WO_consG, WO_nil, wantedA_eq, wantB, evOp, ev_tmp, ev_const, ev_fn, WN_some, WN_none, updO_some, updO_none, upd_eq,
 ↓reduceIte, Nat.reduceEqDiff, List.nil_append, List.cons_append, List.append_nil, List.map_cons, List.map_nil, env0_zero, env0_succ, env0_nil, Option.map_some, Option.map_none, seqQ_normal, seqQ_ret, seqQ_exit, seqQ_goto, blockQ_normal, blockQ_ret, blockQ_exit, blockQ_goto, condW_bool, loopQ_ret, loopQ_exit, loopQ_goto, endQ_ret, endQ_normal,
 lss_i, leq_i, gtr_i, geq_i, eql_i, neq_i, eql_8, neq_8, lss_8, leq_8, gtr_8, geq_8, eql_s, neq_s, eql_b, neq_b, not_b, by_bys, by_nils, load_cp1, beq_true, beq_false, Bool.not_eq_true', decide_eq_true_eq, decide_eq_false_iff_not, decide_true, decide_false,
 Int.toNat_natCast, Int.ofNat_lt, Int.ofNat_le, Int.natCast_inj, Bool.false_eq_true, Bool.true_eq_false, extPV, List.getElem?_cons_zero, List.getElem?_cons_succ, nilckPV, Int.reduceToNat, Int.reduceLE, true_and, and_true, reduceCtorEq, or_false, false_or, or_true, Option.some.injEq, exists_eq_left', Bool.not_true, Bool.not_false, ne_eq, Int.reduceEq, not_true_eq_false, not_false_eq_true, Int.reduceLT, UInt8.reduceLT, UInt8.reduceLE, UInt8.reduceToNat]
        exact loopQ_intro (m := L.length - (i + 1)) (by omega) (hnext _ h5 rfl)
      · have e1 : ¬ (p.length : Int) ≤ 76 := by omega
        refine W_cut (fun E S => S = ⟨[], [true, true], [], 0⟩ ∧ E 5 = lv ∧ E 6 = .int .i64 (i : Int)) ?_ ?_
        · simp (maxSteps := 1000000) (disch := omega) only [h5, h6, hlen, hlt, W_seq, W_region, W_cond, W_block, W_skip, W_label, W_exit, W_goto, W_ret, WO_cons, WO_consG, WO_nil, wantedA_eq, wantB, evOp, ev_tmp, ev_const, ev_fn, WN_some, WN_none, updO_some, updO_none, upd_eq,
 ↓reduceIte, Nat.reduceEqDiff, List.nil_append, List.cons_append, List.append_nil, List.map_cons, List.map_nil, env0_zero, env0_succ, env0_nil, Option.map_some, Option.map_none, seqQ_normal, seqQ_ret, seqQ_exit, seqQ_goto, blockQ_normal, blockQ_ret, blockQ_exit, blockQ_goto, condW_bool, loopQ_ret, loopQ_exit, loopQ_goto, endQ_ret, endQ_normal,
 lss_i, leq_i, gtr_i, geq_i, eql_i, neq_i, eql_8, neq_8, lss_8, leq_8, gtr_8, geq_8, eql_s, neq_s, eql_b, neq_b, not_b, by_bys, by_nils, load_cp1, beq_true, beq_false, Bool.not_eq_true', decide_eq_true_eq, decide_eq_false_iff_not, decide_true, decide_false,
 Int.toNat_natCast, Int.ofNat_lt, Int.ofNat_le, Int.natCast_inj, Bool.false_eq_true, Bool.true_eq_false, extPV, List.getElem?_cons_zero, List.getElem?_cons_succ, nilckPV, Int.reduceToNat, Int.reduceLE, true_and, and_true, reduceCtorEq, or_false, false_or, or_true, Option.some.injEq, exists_eq_left', Bool.not_true, Bool.not_false, ne_eq, Int.reduceEq, not_true_eq_false, not_false_eq_true, Int.reduceLT, UInt8.reduceLT, UInt8.reduceLE, UInt8.reduceToNat]
        clear h5 h6
        rintro e S ⟨rfl, h5, h6⟩
        rw [W_seq, W_block]
        refine W_cut (fun E S => S = ⟨[], [true, true], [], 0⟩ ∧ E 5 = lv ∧ E 6 = .int .i64 (i : Int) ∧ E 7 = .bys .no p) ?_ ?_
        · simp (maxSteps := 1000000) (disch := omega) only [h5, h6, hia, fa_cp, load_cp1', W_seq, W_region, W_cond, W_block, W_skip, W_label, W_exit, W_goto, W_ret, WO_cons, WO_consG, WO_nil, wantedA_eq, wantB, evOp, ev_tmp, ev_const, ev_fn, WN_some, WN_none, updO_some, updO_none, upd_eq,
 ↓reduceIte, Nat.reduceEqDiff, List.nil_append, List.cons_append, List.append_nil, List.map_cons, List.map_nil, env0_zero, env0_succ, env0_nil, Option.map_some, Option.map_none, seqQ_normal, seqQ_ret, seqQ_exit, seqQ_goto, blockQ_normal, blockQ_ret, blockQ_exit, blockQ_goto, condW_bool, loopQ_ret, loopQ_exit, loopQ_goto, endQ_ret, endQ_normal,
 lss_i, leq_i, gtr_i, geq_i, eql_i, neq_i, eql_8, neq_8, lss_8, leq_8, gtr_8, geq_8, eql_s, neq_s, eql_b, neq_b, not_b, by_bys, by_nils, load_cp1, beq_true, beq_false, Bool.not_eq_true', decide_eq_true_eq, decide_eq_false_iff_not, decide_true, decide_false,
 Int.toNat_natCast, Int.ofNat_lt, Int.ofNat_le, Int.natCast_inj, Bool.false_eq_true, Bool.true_eq_false, extPV, List.getElem?_cons_zero, List.getElem?_cons_succ, nilckPV, Int.reduceToNat, Int.reduceLE, true_and, and_true, reduceCtorEq, or_false, false_or, or_true, Option.some.injEq, exists_eq_left', Bool.not_true, Bool.not_false, ne_eq, Int.reduceEq, not_true_eq_false, not_false_eq_true, Int.reduceLT, UInt8.reduceLT, UInt8.reduceLE, UInt8.reduceToNat]
        clear h5 h6
        rintro e S ⟨rfl, h5, h6, h7⟩
        refine W_cut (fun E S => S = ⟨[], [true, true], [], 0⟩ ∧ E 5 = lv ∧ E 6 = .int .i64 (i : Int) ∧ E 7 = .bys .no p) ?_ ?_
        · simp (maxSteps := 1000000) (disch := omega) only [h5, h6, h7, len_by by_bys, e1, W_seq, W_region, W_cond, W_block, W_skip, W_label, W_exit, W_goto, W_ret, WO_cons, WO_consG, WO_nil, wantedA_eq, wantB, evOp, ev_tmp, ev_const, ev_fn, WN_some, WN_none, updO_some, updO_none, upd_eq,
 ↓reduceIte, Nat.reduceEqDiff, List.nil_append, List.cons_append, List.append_nil, List.map_cons, List.map_nil, env0_zero, env0_succ, env0_nil, Option.map_some, Option.map_none, seqQ_normal, seqQ_ret, seqQ_exit, seqQ_goto, blockQ_normal, blockQ_ret, blockQ_exit, blockQ_goto, condW_bool, loopQ_ret, loopQ_exit, loopQ_goto, endQ_ret, endQ_normal,
 lss_i, leq_i, gtr_i, geq_i, eql_i, neq_i, eql_8, neq_8, lss_8, leq_8, gtr_8, geq_8, eql_s, neq_s, eql_b, neq_b, not_b, by_bys, by_nils, load_cp1, beq_true, beq_false, Bool.not_eq_true', decide_eq_true_eq, decide_eq_false_iff_not, decide_true, decide_false,
 Int.toNat_natCast, Int.ofNat_lt, Int.ofNat_le, Int.natCast_inj, Bool.false_eq_true, Bool.true_eq_false, extPV, List.getElem?_cons_zero, List.getElem?_cons_succ, nilckPV, Int.reduceToNat, Int.reduceLE, true_and, and_true, reduceCtorEq, or_false, false_or, or_true, Option.some.injEq, exists_eq_left', Bool.not_true, Bool.not_false, ne_eq, Int.reduceEq, not_true_eq_false, not_false_eq_true, Int.reduceLT, UInt8.reduceLT, UInt8.reduceLE, UInt8.reduceToNat]
        clear h5 h6 h7
        rintro e S ⟨rfl, h5, h6, h7⟩
        refine W_cut (fun E S => S = ⟨[], [true, true], [], 0⟩ ∧ E 5 = lv ∧ E 6 = .int .i64 (i : Int) ∧ E 7 = .bys .no p ∧ E 8 = .int .i64 ((1 : Nat) : Int)) ?_ ?_
        · simp (maxSteps := 1000000) (disch := omega) only [h5, h6, h7, W_seq, W_region, W_cond, W_block, W_skip, W_label, W_exit, W_goto, W_ret, WO_cons, WO_consG, WO_nil, wantedA_eq, wantB, evOp, ev_tmp, ev_const, ev_fn, WN_some, WN_none, updO_some, updO_none, upd_eq,
 ↓reduceIte, Nat.reduceEqDiff, List.nil_append, List.cons_append, List.append_nil, List.map_cons, List.map_nil, env0_zero, env0_succ, env0_nil, Option.map_some, Option.map_none, seqQ_normal, seqQ_ret, seqQ_exit, seqQ_goto, blockQ_normal, blockQ_ret, blockQ_exit, blockQ_goto, condW_bool, loopQ_ret, loopQ_exit, loopQ_goto, endQ_ret, endQ_normal,
 lss_i, leq_i, gtr_i, geq_i, eql_i, neq_i, eql_8, neq_8, lss_8, leq_8, gtr_8, geq_8, eql_s, neq_s, eql_b, neq_b, not_b, by_bys, by_nils, load_cp1, beq_true, beq_false, Bool.not_eq_true', decide_eq_true_eq, decide_eq_false_iff_not, decide_true, decide_false,
 Int.toNat_natCast, Int.ofNat_lt, Int.ofNat_le, Int.natCast_inj, Bool.false_eq_true, Bool.true_eq_false, extPV, List.getElem?_cons_zero, List.getElem?_cons_succ, nilckPV, Int.reduceToNat, Int.reduceLE, true_and, and_true, reduceCtorEq, or_false, false_or, or_true, Option.some.injEq, exists_eq_left', Bool.not_true, Bool.not_false, ne_eq, Int.reduceEq, not_true_eq_false, not_false_eq_true, Int.reduceLT, UInt8.reduceLT, UInt8.reduceLE, UInt8.reduceToNat]
          rfl
        clear h5 h6 h7
        rintro e S ⟨rfl, h5, h6, h7, h8⟩
        obtain ⟨J, hJ⟩ : ∃ J : Env → St → Prop, J = fun E S => S = ⟨[], [true, true], [], 0⟩ ∧ E 5 = lv ∧ E 6 = .int .i64 (i : Int) ∧ E 7 = .bys .no p ∧ ∃ f0 : Nat, f0 ≤ 77 ∧ noBlank p f0 ∧ E 8 = .int .i64 (f0 : Int) := ⟨_, rfl⟩
        have hi0 : iaddrPV 1 (.bys .no p) (.int .i64 0) = some (.cp [.b8 (p.getD 0 0)]) := iaddr_by by_bys (by omega) (by simp; omega)
        refine W_cut J ?_ ?_
        · rcases hpg (by omega) with ⟨g1, g2⟩ | ⟨g1, n, g2, g3, g4, g5, g6⟩
          · simp (maxSteps := 1000000) (disch := omega) only [h5, h6, h7, h8, hi0, load_cp1, eq_true g1, hJ, W_seq, W_region, W_cond, W_block, W_skip, W_label, W_exit, W_goto, W_ret, WO_cons, WO_consG, WO_nil, wantedA_eq, wantB, evOp, ev_tmp, ev_const, ev_fn, WN_some, WN_none, updO_some, updO_none, upd_eq,
 ↓reduceIte, Nat.reduceEqDiff, List.nil_append, List.cons_append, List.append_nil, List.map_cons, List.map_nil, env0_zero, env0_succ, env0_nil, Option.map_some, Option.map_none, seqQ_normal, seqQ_ret, seqQ_exit, seqQ_goto, blockQ_normal, blockQ_ret, blockQ_exit, blockQ_goto, condW_bool, loopQ_ret, loopQ_exit, loopQ_goto, endQ_ret, endQ_normal,
 lss_i, leq_i, gtr_i, geq_i, eql_i, neq_i, eql_8, neq_8, lss_8, leq_8, gtr_8, geq_8, eql_s, neq_s, eql_b, neq_b, not_b, by_bys, by_nils, load_cp1, beq_true, beq_false, Bool.not_eq_true', decide_eq_true_eq, decide_eq_false_iff_not, decide_true, decide_false,
 Int.toNat_natCast, Int.ofNat_lt, Int.ofNat_le, Int.natCast_inj, Bool.false_eq_true, Bool.true_eq_false, extPV, List.getElem?_cons_zero, List.getElem?_cons_succ, nilckPV, Int.reduceToNat, Int.reduceLE, true_and, and_true, reduceCtorEq, or_false, false_or, or_true, Option.some.injEq, exists_eq_left', Bool.not_true, Bool.not_false, ne_eq, Int.reduceEq, not_true_eq_false, not_false_eq_true, Int.reduceLT, UInt8.reduceLT, UInt8.reduceLE, UInt8.reduceToNat]
            exact ⟨1, by omega, g2, rfl⟩
          · simp (maxSteps := 1000000) (disch := omega) only [h5, h6, h7, h8, hi0, load_cp1, g1, W_seq, W_region, W_cond, W_block, W_skip, W_label, W_exit, W_goto, W_ret, WO_cons, WO_consG, WO_nil, wantedA_eq, wantB, evOp, ev_tmp, ev_const, ev_fn, WN_some, WN_none, updO_some, updO_none, upd_eq,
 ↓reduceIte, Nat.reduceEqDiff, List.nil_append, List.cons_append, List.append_nil, List.map_cons, List.map_nil, env0_zero, env0_succ, env0_nil, Option.map_some, Option.map_none, seqQ_normal, seqQ_ret, seqQ_exit, seqQ_goto, blockQ_normal, blockQ_ret, blockQ_exit, blockQ_goto, condW_bool, loopQ_ret, loopQ_exit, loopQ_goto, endQ_ret, endQ_normal,
 lss_i, leq_i, gtr_i, geq_i, eql_i, neq_i, eql_8, neq_8, lss_8, leq_8, gtr_8, geq_8, eql_s, neq_s, eql_b, neq_b, not_b, by_bys, by_nils, load_cp1, beq_true, beq_false, Bool.not_eq_true', decide_eq_true_eq, decide_eq_false_iff_not, decide_true, decide_false,
 Int.toNat_natCast, Int.ofNat_lt, Int.ofNat_le, Int.natCast_inj, Bool.false_eq_true, Bool.true_eq_false, extPV, List.getElem?_cons_zero, List.getElem?_cons_succ, nilckPV, Int.reduceToNat, Int.reduceLE, true_and, and_true, reduceCtorEq, or_false, false_or, or_true, Option.some.injEq, exists_eq_left', Bool.not_true, Bool.not_false, ne_eq, Int.reduceEq, not_true_eq_false, not_false_eq_true, Int.reduceLT, UInt8.reduceLT, UInt8.reduceLE, UInt8.reduceToNat]
            obtain ⟨II, hII⟩ : ∃ II : Nat → Env → St → Prop, II = fun k E S => ∃ f0 : Nat, k = n + 1 - f0 ∧ 1 ≤ f0 ∧ f0 ≤ n + 1 ∧ S = ⟨[], [true, true], [], 0⟩ ∧ E 5 = lv ∧ E 6 = .int .i64 (i : Int) ∧ E 7 = .bys .no p ∧ E 8 = .int .i64 (f0 : Int) := ⟨_, rfl⟩
            refine W_loop II ?_ (n := n) (by
              rw [hII]
              exact ⟨1, by omega, by omega, by omega, rfl, h5, h6, h7, h8⟩)
            clear h5 h6 h7 h8
            intro k e S hh
            rw [hII] at hh
            obtain ⟨f0, rfl, q1, q2, rfl, h5, h6, h7, h8⟩ := hh
            have hlt3 : f0 < p.length := by omega
            have hif : iaddrPV 1 (.bys .no p) (.int .i64 ((f0 - 1 : Nat) : Int)) = some (.cp [.b8 (p.getD (f0 - 1) 0)]) := by
              have := iaddr_by (k := .i64) (c := ((f0 - 1 : Nat) : Int)) (by_bys (t := .no) (l := p)) (by omega) (by simp; omega)
              simpa using this
            by_cases qn : f0 = n + 1
            · have g4' : p.getD (f0 - 1) 0 = 58 := by rw [qn]; exact g4
              simp (maxSteps := 1000000) (disch := omega) only [h5, h6, h7, h8, len_by by_bys, hlt3, sub_n, Int.reduceToNat, hif, load_cp1, eq_true g4', add_n, hJ, W_seq, W_region, W_cond, W_block, W_skip, W_label, W_exit, W_goto, W_ret, WO_cons, WO_consG, WO_nil, wantedA_eq, wantB, evOp, ev_tmp, ev_const, ev_fn, WN_some, WN_none, updO_some, updO_none, upd_eq,
 ↓reduceIte, Nat.reduceEqDiff, List.nil_append, List.cons_append, List.append_nil, List.map_cons, List.map_nil, env0_zero, env0_succ, env0_nil, Option.map_some, Option.map_none, seqQ_normal, seqQ_ret, seqQ_exit, seqQ_goto, blockQ_normal, blockQ_ret, blockQ_exit, blockQ_goto, condW_bool, loopQ_ret, loopQ_exit, loopQ_goto, endQ_ret, endQ_normal,
 lss_i, leq_i, gtr_i, geq_i, eql_i, neq_i, eql_8, neq_8, lss_8, leq_8, gtr_8, geq_8, eql_s, neq_s, eql_b, neq_b, not_b, by_bys, by_nils, load_cp1, beq_true, beq_false, Bool.not_eq_true', decide_eq_true_eq, decide_eq_false_iff_not, decide_true, decide_false,
 Int.toNat_natCast, Int.ofNat_lt, Int.ofNat_le, Int.natCast_inj, Bool.false_eq_true, Bool.true_eq_false, extPV, List.getElem?_cons_zero, List.getElem?_cons_succ, nilckPV, Int.reduceToNat, Int.reduceLE, true_and, and_true, reduceCtorEq, or_false, false_or, or_true, Option.some.injEq, exists_eq_left', Bool.not_true, Bool.not_false, ne_eq, Int.reduceEq, not_true_eq_false, not_false_eq_true, Int.reduceLT, UInt8.reduceLT, UInt8.reduceLE, UInt8.reduceToNat]
              exact ⟨f0 + 2, by omega, by rw [qn]; exact g6, rfl⟩
            · have g4' : ¬ p.getD (f0 - 1) 0 = 58 := g5 (f0 - 1) (by omega)
              simp (maxSteps := 1000000) (disch := omega) only [h5, h6, h7, h8, len_by by_bys, hlt3, sub_n, Int.reduceToNat, hif, load_cp1, g4', add_n, W_seq, W_region, W_cond, W_block, W_skip, W_label, W_exit, W_goto, W_ret, WO_cons, WO_consG, WO_nil, wantedA_eq, wantB, evOp, ev_tmp, ev_const, ev_fn, WN_some, WN_none, updO_some, updO_none, upd_eq,
 ↓reduceIte, Nat.reduceEqDiff, List.nil_append, List.cons_append, List.append_nil, List.map_cons, List.map_nil, env0_zero, env0_succ, env0_nil, Option.map_some, Option.map_none, seqQ_normal, seqQ_ret, seqQ_exit, seqQ_goto, blockQ_normal, blockQ_ret, blockQ_exit, blockQ_goto, condW_bool, loopQ_ret, loopQ_exit, loopQ_goto, endQ_ret, endQ_normal,
 lss_i, leq_i, gtr_i, geq_i, eql_i, neq_i, eql_8, neq_8, lss_8, leq_8, gtr_8, geq_8, eql_s, neq_s, eql_b, neq_b, not_b, by_bys, by_nils, load_cp1, beq_true, beq_false, Bool.not_eq_true', decide_eq_true_eq, decide_eq_false_iff_not, decide_true, decide_false,
 Int.toNat_natCast, Int.ofNat_lt, Int.ofNat_le, Int.natCast_inj, Bool.false_eq_true, Bool.true_eq_false, extPV, List.getElem?_cons_zero, List.getElem?_cons_succ, nilckPV, Int.reduceToNat, Int.reduceLE, true_and, and_true, reduceCtorEq, or_false, false_or, or_true, Option.some.injEq, exists_eq_left', Bool.not_true, Bool.not_false, ne_eq, Int.reduceEq, not_true_eq_false, not_false_eq_true, Int.reduceLT, UInt8.reduceLT, UInt8.reduceLE, UInt8.reduceToNat]
              refine loopQ_intro (m := n + 1 - (f0 + 1)) (by omega) ?_
              rw [hII]
              exact ⟨f0 + 1, rfl, by omega, by omega, rfl, h5, h6, h7, rfl⟩
        clear h5 h6 h7 h8
        intro e S hj
        rw [hJ] at hj
        obtain ⟨rfl, h5, h6, h7, f0, q1, q2, h8⟩ := hj
        simp (maxSteps := 1000000) (disch := omega) only [h5, h6, h7, h8, W_seq, W_region, W_cond, W_block, W_skip, W_label, W_exit, W_goto, W_ret, WO_cons, WO_consG, WO_nil, wantedA_eq, wantB, evOp, ev_tmp, ev_const, ev_fn, WN_some, WN_none, updO_some, updO_none, upd_eq,
 ↓reduceIte, Nat.reduceEqDiff, List.nil_append, List.cons_append, List.append_nil, List.map_cons, List.map_nil, env0_zero, env0_succ, env0_nil, Option.map_some, Option.map_none, seqQ_normal, seqQ_ret, seqQ_exit, seqQ_goto, blockQ_normal, blockQ_ret, blockQ_exit, blockQ_goto, condW_bool, loopQ_ret, loopQ_exit, loopQ_goto, endQ_ret, endQ_normal,
 lss_i, leq_i, gtr_i, geq_i, eql_i, neq_i, eql_8, neq_8, lss_8, leq_8, gtr_8, geq_8, eql_s, neq_s, eql_b, neq_b, not_b, by_bys, by_nils, load_cp1, beq_true, beq_false, Bool.not_eq_true', decide_eq_true_eq, decide_eq_false_iff_not, decide_true, decide_false,
 Int.toNat_natCast, Int.ofNat_lt, Int.ofNat_le, Int.natCast_inj, Bool.false_eq_true, Bool.true_eq_false, extPV, List.getElem?_cons_zero, List.getElem?_cons_succ, nilckPV, Int.reduceToNat, Int.reduceLE, true_and, and_true, reduceCtorEq, or_false, false_or, or_true, Option.some.injEq, exists_eq_left', Bool.not_true, Bool.not_false, ne_eq, Int.reduceEq, not_true_eq_false, not_false_eq_true, Int.reduceLT, UInt8.reduceLT, UInt8.reduceLE, UInt8.reduceToNat]
        obtain ⟨II, hII⟩ : ∃ II : Nat → Env → St → Prop, II = fun k E S => ∃ q : Nat, k = 77 - q ∧ f0 ≤ q ∧ q ≤ 77 ∧ S = ⟨[], [true, true], [], 0⟩ ∧ E 5 = lv ∧ E 6 = .int .i64 (i : Int) ∧ E 7 = .bys .no p ∧ E 9 = .int .i64 (q : Int) := ⟨_, rfl⟩
        refine W_loop II ?_ (n := 77 - f0) (by
          rw [hII]
          exact ⟨f0, by omega, by omega, by omega, rfl, h5, h6, h7, rfl⟩)
        clear h5 h6 h7 h8
        intro k e S hh
        rw [hII] at hh
        obtain ⟨q, rfl, hfq, hq77, rfl, h5, h6, h7, h9⟩ := hh
        by_cases hq : q ≤ 76
        · have e2 : (q : Int) ≤ 76 := by omega
          have hb := q2 q hfq hq
          have hiq : iaddrPV 1 (.bys .no p) (.int .i64 (q : Int)) = some (.cp [.b8 (p.getD q 0)]) := by
            have := iaddr_by (k := .i64) (c := ((q : Nat) : Int)) (by_bys (t := .no) (l := p)) (by omega) (by simp; omega)
            simpa using this
          simp (maxSteps := 1000000) (disch := omega) only [h5, h6, h7, h9, e2, hiq, load_cp1, hb, add_n, W_seq, W_region, W_cond, W_block, W_skip, W_label, W_exit, W_goto, W_ret, WO_cons, WO_consG, WO_nil, wantedA_eq, wantB, evOp, ev_tmp, ev_const, ev_fn, WN_some, WN_none, updO_some, updO_none, upd_eq,
 ↓reduceIte, Nat.reduceEqDiff, List.nil_append, List.cons_append, List.append_nil, List.map_cons, List.map_nil, env0_zero, env0_succ, env0_nil, Option.map_some, Option.map_none, seqQ_normal, seqQ_ret, seqQ_exit, seqQ_goto, blockQ_normal, blockQ_ret, blockQ_exit, blockQ_goto, condW_bool, loopQ_ret, loopQ_exit, loopQ_goto, endQ_ret, endQ_normal,
 lss_i, leq_i, gtr_i, geq_i, eql_i, neq_i, eql_8, neq_8, lss_8, leq_8, gtr_8, geq_8, eql_s, neq_s, eql_b, neq_b, not_b, by_bys, by_nils, load_cp1, beq_true, beq_false, Bool.not_eq_true', decide_eq_true_eq, decide_eq_false_iff_not, decide_true, decide_false,
 Int.toNat_natCast, Int.ofNat_lt, Int.ofNat_le, Int.natCast_inj, Bool.false_eq_true, Bool.true_eq_false, extPV, List.getElem?_cons_zero, List.getElem?_cons_succ, nilckPV, Int.reduceToNat, Int.reduceLE, true_and, and_true, reduceCtorEq, or_false, false_or, or_true, Option.some.injEq, exists_eq_left', Bool.not_true, Bool.not_false, ne_eq, Int.reduceEq, not_true_eq_false, not_false_eq_true, Int.reduceLT, UInt8.reduceLT, UInt8.reduceLE, UInt8.reduceToNat]
          refine loopQ_intro (m := 77 - (q + 1)) (by omega) ?_
          rw [hII]
          exact ⟨q + 1, rfl, by omega, by omega, rfl, h5, h6, h7, rfl⟩
        · have e2 : ¬ (q : Int) ≤ 76 := by omega
          simp (maxSteps := 1000000) (disch := omega) only [h5, h6, h7, h9, e2, add_n, W_seq, W_region, W_cond, W_block, W_skip, W_label, W_exit, W_goto, W_ret, WO_cons, WO_consG, WO_nil, wantedA_eq, wantB, evOp, ev_tmp, ev_const, ev_fn, WN_some, WN_none, updO_some, updO_none, upd_eq,
 ↓reduceIte, Nat.reduceEqDiff, List.nil_append, List.cons_append, List.append_nil, List.map_cons, List.map_nil, env0_zero, env0_succ, env0_nil, Option.map_some, Option.map_none, seqQ_normal, seqQ_ret, seqQ_exit, seqQ_goto, blockQ_normal, blockQ_ret, blockQ_exit, blockQ_goto, condW_bool, loopQ_ret, loopQ_exit, loopQ_goto, endQ_ret, endQ_normal,
 lss_i, leq_i, gtr_i, geq_i, eql_i, neq_i, eql_8, neq_8, lss_8, leq_8, gtr_8, geq_8, eql_s, neq_s, eql_b, neq_b, not_b, by_bys, by_nils, load_cp1, beq_true, beq_false, Bool.not_eq_true', decide_eq_true_eq, decide_eq_false_iff_not, decide_true, decide_false,
 Int.toNat_natCast, Int.ofNat_lt, Int.ofNat_le, Int.natCast_inj, Bool.false_eq_true, Bool.true_eq_false, extPV, List.getElem?_cons_zero, List.getElem?_cons_succ, nilckPV, Int.reduceToNat, Int.reduceLE, true_and, and_true, reduceCtorEq, or_false, false_or, or_true, Option.some.injEq, exists_eq_left', Bool.not_true, Bool.not_false, ne_eq, Int.reduceEq, not_true_eq_false, not_false_eq_true, Int.reduceLT, UInt8.reduceLT, UInt8.reduceLE, UInt8.reduceToNat]
          exact loopQ_intro (m := L.length - (i + 1)) (by omega) (hnext _ h5 rfl)
    · obtain rfl : i = L.length := by omega
      simp (maxSteps := 1000000) (disch := omega) only [h5, h6, hlen, hlt, al06_e2, W_seq, W_region, W_cond, W_block, W_skip, W_label, W_exit, W_goto, W_ret, WO_cons, WO_consG, WO_nil, wantedA_eq, wantB, evOp, ev_tmp, ev_const, ev_fn, WN_some, WN_none, updO_some, updO_none, upd_eq,
 ↓reduceIte, Nat.reduceEqDiff, List.nil_append, List.cons_append, List.append_nil, List.map_cons, List.map_nil, env0_zero, env0_succ, env0_nil, Option.map_some, Option.map_none, seqQ_normal, seqQ_ret, seqQ_exit, seqQ_goto, blockQ_normal, blockQ_ret, blockQ_exit, blockQ_goto, condW_bool, loopQ_ret, loopQ_exit, loopQ_goto, endQ_ret, endQ_normal,
 lss_i, leq_i, gtr_i, geq_i, eql_i, neq_i, eql_8, neq_8, lss_8, leq_8, gtr_8, geq_8, eql_s, neq_s, eql_b, neq_b, not_b, by_bys, by_nils, load_cp1, beq_true, beq_false, Bool.not_eq_true', decide_eq_true_eq, decide_eq_false_iff_not, decide_true, decide_false,
 Int.toNat_natCast, Int.ofNat_lt, Int.ofNat_le, Int.natCast_inj, Bool.false_eq_true, Bool.true_eq_false, extPV, List.getElem?_cons_zero, List.getElem?_cons_succ, nilckPV, Int.reduceToNat, Int.reduceLE, true_and, and_true, reduceCtorEq, or_false, false_or, or_true, Option.some.injEq, exists_eq_left', Bool.not_true, Bool.not_false, ne_eq, Int.reduceEq, not_true_eq_false, not_false_eq_true, Int.reduceLT, UInt8.reduceLT, UInt8.reduceLE, UInt8.reduceToNat]
  · simp only [outV, hz, if_false] at hW
    simp (maxSteps := 1000000) (disch := omega) only [List.length_nil, hg, hW, hz, al06_e, W_seq, W_region, W_cond, W_block, W_skip, W_label, W_exit, W_goto, W_ret, WO_cons, WO_consG, WO_nil, wantedA_eq, wantB, evOp, ev_tmp, ev_const, ev_fn, WN_some, WN_none, updO_some, updO_none, upd_eq,
 ↓reduceIte, Nat.reduceEqDiff, List.nil_append, List.cons_append, List.append_nil, List.map_cons, List.map_nil, env0_zero, env0_succ, env0_nil, Option.map_some, Option.map_none, seqQ_normal, seqQ_ret, seqQ_exit, seqQ_goto, blockQ_normal, blockQ_ret, blockQ_exit, blockQ_goto, condW_bool, loopQ_ret, loopQ_exit, loopQ_goto, endQ_ret, endQ_normal,
 lss_i, leq_i, gtr_i, geq_i, eql_i, neq_i, eql_8, neq_8, lss_8, leq_8, gtr_8, geq_8, eql_s, neq_s, eql_b, neq_b, not_b, by_bys, by_nils, load_cp1, beq_true, beq_false, Bool.not_eq_true', decide_eq_true_eq, decide_eq_false_iff_not, decide_true, decide_false,
 Int.toNat_natCast, Int.ofNat_lt, Int.ofNat_le, Int.natCast_inj, Bool.false_eq_true, Bool.true_eq_false, extPV, List.getElem?_cons_zero, List.getElem?_cons_succ, nilckPV, Int.reduceToNat, Int.reduceLE, true_and, and_true, reduceCtorEq, or_false, false_or, or_true, Option.some.injEq, exists_eq_left', Bool.not_true, Bool.not_false, ne_eq, Int.reduceEq, not_true_eq_false, not_false_eq_true, Int.reduceLT, UInt8.reduceLT, UInt8.reduceLE, UInt8.reduceToNat]
end Go.Ab

/-
  The library's searches as primitives, out of the shelf's contracts.
-/
namespace Go.Ab
open Go.Shelf Go.Proofs
set_option linter.unusedVariables false
set_option linter.unusedSimpArgs false
variable {P : Program} {g : GMap} {ρ : Go.Shelf.Ren}

def numsOf (a : List UInt8) : List Int := a.map fun b => (b.toNat : Int)
theorem bytesOf_nums (a : List UInt8) : Lib.bytesOf (numsOf a) = a := by
  simp [Lib.bytesOf, numsOf, Function.comp_def]
theorem nums_range (a : List UInt8) : ∀ x ∈ numsOf a, 0 ≤ x ∧ x < 256 := by
  intro x hx
  simp only [numsOf, List.mem_map] at hx
  obtain ⟨b, _, rfl⟩ := hx
  have := b.toNat_lt
  omega
theorem nums_getD (a : List UInt8) {i : Nat} (h : i < a.length) : (numsOf a).getD i 0 = ((a[i]).toNat : Int) := by
  simp [numsOf, List.getD, h]

theorem cells_of {κ : K} {w : World} (hC : ∀ b i u, κ.C b i = some u → w.cell? ⟨b, i, none⟩ = some u) {blk off : Nat} {a : List UInt8} (hb : ∀ (i : Nat) (b : UInt8), a[i]? = some b → κ.C blk (off + i) = some (.int .u8 b.toNat)) :
    ∀ i, i < a.length → w.cell? ((⟨blk, off, none⟩ : Addr).add i) = some (.int .u8 ((numsOf a).getD i 0)) := by
  intro i hi
  rw [add_eq, nums_getD a hi]
  exact hC _ _ _ (hb i _ (by simp [hi]))

theorem primIndex (L : Lays.n185 P ρ) (hm : ∀ κ, g.inv κ → ∃ m, κ.C (ρ.g 1) 0 = some (.int .i64 m)) {pf : Func} (hpf : P.funcs[ρ.f 185]? = some pf) (hb : pf.body.isSome = true) (hn : pf.name ≠ "runtime.NumGoroutine") : PrimOK P g (ρ.f 185) pBytesIndex := by
  refine prim_of_calls hpf hb hn (fun κ w args ps v hi hC hsz hargs hp => ?_)
  obtain ⟨m, hm⟩ := hm κ hi
  have hmc := hC _ _ _ hm
  match ps, hp with
  | [x, y], hp =>
    simp only [pBytesIndex] at hp
    cases hx : x.by with
    | none => simp [hx] at hp
    | some a =>
      cases hy : y.by with
      | none => simp [hx, hy] at hp
      | some b =>
        simp only [hx, hy] at hp
        split at hp
        · rename_i hlen
          cases hp
          obtain ⟨u1, u2, rfl⟩ : ∃ u1 u2, args = #[u1, u2] := by
            obtain ⟨l⟩ := args
            match l, hsz with
            | [u1, u2], _ => exact ⟨u1, u2, rfl⟩
          have r1 := hargs 0 u1 x rfl rfl
          have r2 := hargs 1 u2 y rfl rfl
          have post : ∀ (n : Int), n = Lib.index a b → ∀ (e : Ending) (w' : World), (e = .returned (.int .i64 n) ∧ ∃ q, w' = w.drewN q) → ∃ z, e = .returned z ∧ (∀ κ', R g κ' z (.int .i64 (Lib.index a b))) ∧ w'.heap = w.heap ∧ w'.os = w.os ∧ w'.tape = w.tape ∧ w'.output = w.output := by
            rintro n rfl e w' ⟨rfl, q, rfl⟩
            exact ⟨_, rfl, fun κ' => .int .i64 _ (by decide), rfl, rfl, rfl, rfl⟩
          have post0 : ∀ (n : Int), n = Lib.index a b → ∀ (e : Ending) (w' : World), (e = .returned (.int .i64 n) ∧ w' = w) → ∃ z, e = .returned z ∧ (∀ κ', R g κ' z (.int .i64 (Lib.index a b))) ∧ w'.heap = w.heap ∧ w'.os = w.os ∧ w'.tape = w.tape ∧ w'.output = w.output := by
            rintro n rfl e w' ⟨rfl, rfl⟩
            exact ⟨_, rfl, fun κ' => .int .i64 _ (by decide), rfl, rfl, rfl, rfl⟩
          rcases by_cases' hx with ⟨rfl, rfl⟩ | ⟨t, rfl⟩
          · cases r1
            rcases by_cases' hy with ⟨rfl, rfl⟩ | ⟨t2, rfl⟩
            · cases r2
              exact (Any.bytes_Index_none L none none 0 0 0 w).mono (post0 0 (by simp [Lib.index]))
            · cases r2 with
              | bys blk off n c _ _ h1 h2 h3 h4 _ =>
                subst h1
                refine (Any.bytes_Index_nil L (some ⟨blk, off, none⟩) b.length c w (by omega) (fun h1 => ?_)).mono (post0 _ ?_)
                · have := cells_of hC h3 0 (by omega)
                  rw [add_eq] at this
                  exact ⟨blk, off, _, rfl, this⟩
                · cases b <;> simp [Lib.index]
          · cases r1 with
            | bys blk off n c _ _ h1 h2 h3 h4 _ =>
              subst h1
              rcases by_cases' hy with ⟨rfl, rfl⟩ | ⟨t2, rfl⟩
              · cases r2
                exact (Any.bytes_Index_none L (some ⟨blk, off, none⟩) none a.length c 0 w).mono (post0 0 (Lib.index_empty a).symm)
              · cases r2 with
                | bys blk2 off2 n2 c2 _ _ k1 k2 k3 k4 _ =>
                  subst k1
                  refine (Any.bytes_Index_at L ⟨blk, off, none⟩ ⟨blk2, off2, none⟩ a.length c b.length c2 (numsOf a) (numsOf b) m w (by simp [numsOf]) (by simp [numsOf]) (nums_range a) (nums_range b) (cells_of hC h3) (cells_of hC k3) h2 hlen.1 (by omega) hmc).mono (post _ ?_)
                  rw [bytesOf_nums, bytesOf_nums]
        · cases hp
  | [], hp => simp [pBytesIndex] at hp
  | [_], hp => simp [pBytesIndex] at hp
  | _ :: _ :: _ :: _, hp => simp [pBytesIndex] at hp
end Go.Ab

/-
  A Builder's text: the walk of the library's function, its end said whole (after the shelf's own proof).
-/
namespace Go.Proofs
open Go.Shelf Go.RowKit
set_option linter.unusedVariables false
variable {P : Program} {ρ : Ren}

set_option maxHeartbeats 2000000 in
set_option maxRecDepth 100000 in
/-- A Builder's text, and all that turns: the shelf's proof, its end turned. -/
theorem bstring_walk (L : Lays.n169 P ρ) (X : Builder.Extra P ρ) (b g cap cells : Nat) (l : List UInt8) (w : World) (h0 : l ≠ []) (hcap : l.length ≤ cap) (hcc : l.length ≤ cells) (hmax : l.length ≤ 9223372036854775807)
    (hb : w.cell? ⟨b, 1, none⟩ = some (.slice (some ⟨g, 0, none⟩) l.length cap)) (hsh : w.shape? g = some (ρ.t 5, cells)) (hcell : ∀ j x, l[j]? = some x → w.cell? ⟨g, j, none⟩ = some (.int .u8 x.toNat)) :
    Calls P (ρ.f 169) #[.pointer (some ⟨b, 0, none⟩)] w fun e w' => e = .returned (.string ⟨l.toArray⟩) ∧ w' = w.drew.freeze ⟨g, 0, none⟩ l.length := by
  have hl0 : l.length ≠ 0 := by simpa using h0
  have c1 : w.drew.cell? ⟨b, 1, none⟩ = some (.slice (some ⟨g, 0, none⟩) l.length cap) := hb
  have hSD : (Builtin.unsafeSliceData_ #[(ρ.t 37)] (ρ.t 127) #[.slice (some ⟨g, 0, none⟩) l.length cap]).run P w.drew = .ok (.pointer (some ⟨g, 0, none⟩)) w.drew :=
    Lib.run_unsafeSliceData_row _ _ _ _ _ _ (by omega)
  have hUS : (Builtin.unsafeString_ #[(ρ.t 127), (ρ.t 3)] (ρ.t 9) #[.pointer (some ⟨g, 0, none⟩), .int .i64 l.length]).run P w.drew = .ok (.string ⟨l.toArray⟩) (w.drew.freeze ⟨g, 0, none⟩ l.length) := by
    refine Lib.run_unsafeString_row w.drew (ρ.t 127) (ρ.t 3) (ρ.t 9) (ρ.t 5) L.t127 X.cellsByte g cells hsh l h0 hcc hmax ?_
    intro j x hx
    have := hcell j x hx
    simp only [Addr.add]
    split
    · rename_i h; subst h; exact this
    · simpa using this
  clear hcell hsh hb
  have mixed := L.mixed
  have t72 := L.t72; have a72 := L.a72; have z72 := L.z72; have v72 := L.v72; have u72 := run_underlying L.t72
  have t70 := L.t70; have a70 := L.a70; have z70 := L.z70; have v70 := L.v70; have u70 := run_underlying L.t70
  have t37 := L.t37; have a37 := L.a37; have z37 := L.z37; have v37 := L.v37; have u37 := run_underlying L.t37
  have t127 := L.t127; have a127 := L.a127; have z127 := L.z127; have v127 := L.v127; have u127 := run_underlying L.t127
  have t3 := L.t3; have a3 := L.a3; have z3 := L.z3; have v3 := L.v3; have u3 := run_underlying L.t3
  have t9 := L.t9; have a9 := L.a9; have z9 := L.z9; have v9 := L.v9; have u9 := run_underlying L.t9
  have t5 := X.t5; have a5 := X.a5; have z5 := X.z5; have v5 := X.v5; have u5 := run_underlying X.t5
  go_enter L.f169, Body.n169_ntmps ρ
  go_wp2
  go_region_o
  all_goals (go_wp2; go_ret; exact ⟨rfl, rfl⟩)

set_option maxHeartbeats 2000000 in
set_option maxRecDepth 100000 in
theorem bstring_nil (L : Lays.n169 P ρ) (X : Builder.Extra P ρ) (b : Nat) (w : World) (hb : w.cell? ⟨b, 1, none⟩ = some (.slice none 0 0)) :
    Calls P (ρ.f 169) #[.pointer (some ⟨b, 0, none⟩)] w fun e w' => e = .returned (.string ⟨#[]⟩) ∧ w' = w.drew := by
  have hUS := Any.unsafeString_none L X
  have hSD : (Builtin.unsafeSliceData_ #[(ρ.t 37)] (ρ.t 127) #[.slice none 0 0]).run P w.drew = .ok (.pointer none) w.drew := rfl
  have c1 : w.drew.cell? ⟨b, 1, none⟩ = some (.slice none 0 0) := hb
  have mixed := L.mixed
  have t72 := L.t72; have a72 := L.a72; have z72 := L.z72; have v72 := L.v72; have u72 := run_underlying L.t72
  have t70 := L.t70; have a70 := L.a70; have z70 := L.z70; have v70 := L.v70; have u70 := run_underlying L.t70
  have t37 := L.t37; have a37 := L.a37; have z37 := L.z37; have v37 := L.v37; have u37 := run_underlying L.t37
  have t127 := L.t127; have a127 := L.a127; have z127 := L.z127; have v127 := L.v127; have u127 := run_underlying L.t127
  have t3 := L.t3; have a3 := L.a3; have z3 := L.z3; have v3 := L.v3; have u3 := run_underlying L.t3
  have t9 := L.t9; have a9 := L.a9; have z9 := L.z9; have v9 := L.v9; have u9 := run_underlying L.t9
  have t5 := X.t5; have a5 := X.a5; have z5 := X.z5; have v5 := X.v5; have u5 := run_underlying X.t5
  go_enter L.f169, Body.n169_ntmps ρ
  go_wp2
  go_region_o
  all_goals (go_wp2; go_ret; exact ⟨rfl, rfl⟩)

/-- What copyCheck names. -/
structure CCLay (P : Program) (ρ : Ren) : Prop where
  mixed : P.follows .mixedOrders = true
  f240 : P.funcs[ρ.f 240]? = some (Body.n240 ρ)
  f276 : P.funcs[ρ.f 276]? = some (Body.n276 ρ)
  t4 : P.underlying (ρ.t 4) = some (TypeDesc.bool)
  a4 : ∀ w, (isAgg (ρ.t 4)).run P w = .ok false w
  z4 : ∀ w, (Go.sizeOf (ρ.t 4)).run P w = .ok 1 w
  v4 : ∀ w, (zeroValue (ρ.t 4)).run P w = .ok (Value.bool false) w
  t70 : P.underlying (ρ.t 70) = some (TypeDesc.pointer (ρ.t 72))
  a70 : ∀ w, (isAgg (ρ.t 70)).run P w = .ok false w
  z70 : ∀ w, (Go.sizeOf (ρ.t 70)).run P w = .ok 1 w
  v70 : ∀ w, (zeroValue (ρ.t 70)).run P w = .ok (Value.pointer none) w
  t72 : P.underlying (ρ.t 72) = some (TypeDesc.struct #[{ name := "addr", type := ρ.t 70, offset := 0, embedded := false, tag := "", pkgPath := "strings", byteOffset := 0 }, { name := "buf", type := ρ.t 37, offset := 1, embedded := false, tag := "", pkgPath := "strings", byteOffset := 8 }])
  a72 : ∀ w, (isAgg (ρ.t 72)).run P w = .ok true w
  z72 : ∀ w, (Go.sizeOf (ρ.t 72)).run P w = .ok 2 w
  v72 : ∀ w, (zeroValue (ρ.t 72)).run P w = .ok (Value.agg #[Value.pointer none, Value.slice none 0 0]) w
  t164 : P.underlying (ρ.t 164) = some (TypeDesc.unsafePointer)
  a164 : ∀ w, (isAgg (ρ.t 164)).run P w = .ok false w
  z164 : ∀ w, (Go.sizeOf (ρ.t 164)).run P w = .ok 1 w
  v164 : ∀ w, (zeroValue (ρ.t 164)).run P w = .ok (Value.pointer none) w

set_option maxHeartbeats 1000000 in
set_option maxRecDepth 100000 in
/-- copyCheck at a builder that has been used: nothing turns (after the shelf's proof). -/
theorem cc_used (L : CCLay P ρ) (X : Builder.X72 P ρ) (b : Nat) (w : World) (h0 : w.cell? ⟨b, 0, none⟩ = some (.pointer (some ⟨b, 0, none⟩))) :
    Calls P (ρ.f 240) #[.pointer (some ⟨b, 0, none⟩)] w fun e w' => e = .returned (.tuple #[]) ∧ w' = w := by
  obtain ⟨j, hj, _⟩ := Option.map_eq_some_iff.1 X.sizeBuilder
  have mixed := L.mixed
  have t72 := L.t72; have a72 := L.a72; have z72 := L.z72; have v72 := L.v72; have u72 := run_underlying L.t72
  have t70 := L.t70; have a70 := L.a70; have z70 := L.z70; have v70 := L.v70; have u70 := run_underlying L.t70
  have t4 := L.t4; have a4 := L.a4; have z4 := L.z4; have v4 := L.v4; have u4 := run_underlying L.t4
  have t164 := L.t164; have a164 := L.a164; have z164 := L.z164; have v164 := L.v164; have u164 := run_underlying L.t164
  go_enter L.f240, Body.n240_ntmps ρ
  go_wp2
  rw [Lib.run_neq_ptr_same w _ L.t70 hj]
  go_wp2
  go_end0
  exact ⟨rfl, rfl⟩

set_option maxHeartbeats 1000000 in
set_option maxRecDepth 100000 in
/-- copyCheck at a fresh builder: it stores its own address (after the shelf's proof). -/
theorem cc_fresh (L : CCLay P ρ) (X : Builder.X72 P ρ) (b : Nat) (w : World) (h0 : w.cell? ⟨b, 0, none⟩ = some (.pointer none)) (hsh : w.shape? b = some ((ρ.t 72), 2)) (hfz : w.frozen? ⟨b, 0, none⟩ = false) :
    Calls P (ρ.f 240) #[.pointer (some ⟨b, 0, none⟩)] w fun e w' => e = .returned (.tuple #[]) ∧ w' = w.setCell ⟨b, 0, none⟩ (.pointer (some ⟨b, 0, none⟩)) := by
  obtain ⟨j, hj, hjs⟩ := Option.map_eq_some_iff.1 X.sizeBuilder
  have mixed := L.mixed
  have t72 := L.t72; have a72 := L.a72; have z72 := L.z72; have v72 := L.v72; have u72 := run_underlying L.t72
  have t70 := L.t70; have a70 := L.a70; have z70 := L.z70; have v70 := L.v70; have u70 := run_underlying L.t70
  have t4 := L.t4; have a4 := L.a4; have z4 := L.z4; have v4 := L.v4; have u4 := run_underlying L.t4
  have t164 := L.t164; have a164 := L.a164; have z164 := L.z164; have v164 := L.v164; have u164 := run_underlying L.t164
  go_enter L.f240, Body.n240_ntmps ρ
  go_wp2
  rw [Lib.run_to_unsafe w ⟨b, 0, none⟩ L.t70 L.t164 hj (by rw [hjs]; decide) hsh (Nat.zero_lt_succ 1)]
  simp only [Result.andThen]
  rw [Oper.upon_value]
  go_wp2
  rw [run_callFunc_extern L.f276 (by kernel_rfl) (by kernel_rfl) (by kernel_rfl) (e := Extern.AbiNoEscape.same) (by kernel_rfl)]
  rw [Lib.run_noEscape]
  simp only [Result.andThen]
  rw [Oper.upon_value]
  go_wp2
  rw [Lib.run_from_unsafe w ⟨b, 0, none⟩ L.t164 L.t70 hj hsh X.liesBuilder]
  simp only [Result.andThen]
  rw [Oper.upon_value]
  go_wp2
  go_end0
  exact ⟨rfl, rfl⟩
end Go.Proofs

/-
  The library's functions on texts as primitives, out of the shelf's contracts.
-/
namespace Go.Ab
open Go.Shelf Go.Proofs
set_option linter.unusedVariables false
set_option linter.unusedSimpArgs false
variable {P : Program} {g : GMap} {ρ : Go.Shelf.Ren}

theorem primStrIndex (L : Lays.n219 P ρ) (hm : ∀ κ, g.inv κ → ∃ m, κ.C (ρ.g 1) 0 = some (.int .i64 m)) {pf : Func} (hpf : P.funcs[ρ.f 219]? = some pf) (hb : pf.body.isSome = true) (hn : pf.name ≠ "runtime.NumGoroutine") : PrimOK P g (ρ.f 219) pStrIndex := by
  refine prim_of_calls hpf hb hn (fun κ w args ps v hi hC hsz hargs hp => ?_)
  obtain ⟨m, hm⟩ := hm κ hi
  have hmc := hC _ _ _ hm
  unfold pStrIndex at hp
  split at hp
  · rename_i a b
    split at hp
    · rename_i hlen
      cases hp
      obtain ⟨u1, u2, rfl⟩ : ∃ u1 u2, args = #[u1, u2] := by
        obtain ⟨l⟩ := args
        match l, hsz with
        | [u1, u2], _ => exact ⟨u1, u2, rfl⟩
      have r1 := hargs 0 u1 _ rfl rfl
      have r2 := hargs 1 u2 _ rfl rfl
      cases r1 with | str sa _ ha => cases r2 with | str sb _ hb =>
      refine (Any.stringslite_Index L sa sb m w (by rw [← ha] at hlen; simpa using hlen) hmc).mono ?_
      rintro e w' ⟨rfl, rfl⟩
      exact ⟨_, rfl, fun κ' => by rw [ha, hb]; exact .int .i64 _ (by decide), rfl, rfl, rfl, rfl⟩
    · cases hp
  · cases hp

theorem primStrIndexByte (L : Lays.n137 P ρ) {pf : Func} (hpf : P.funcs[ρ.f 137]? = some pf) (hb : pf.body.isSome = true) (hn : pf.name ≠ "runtime.NumGoroutine") : PrimOK P g (ρ.f 137) pStrIndexByte := by
  refine prim_of_calls hpf hb hn (fun κ w args ps v hi hC hsz hargs hp => ?_)
  unfold pStrIndexByte at hp
  split at hp
  · rename_i a c
    cases hp
    obtain ⟨u1, u2, rfl⟩ : ∃ u1 u2, args = #[u1, u2] := by
      obtain ⟨l⟩ := args
      match l, hsz with
      | [u1, u2], _ => exact ⟨u1, u2, rfl⟩
    have r1 := hargs 0 u1 _ rfl rfl
    have r2 := hargs 1 u2 _ rfl rfl
    cases r1 with | str sa _ ha => cases r2 with | b8 _ n hn =>
    refine (Any.strings_IndexByte L sa n w).mono ?_
    rintro e w' ⟨rfl, rfl⟩
    refine ⟨_, rfl, fun κ' => ?_, rfl, rfl, rfl, rfl⟩
    have : n.toNat.toUInt8 = c := by rw [hn]; simp
    rw [ha, this]; exact .int .i64 _ (by decide)
  · cases hp

/-- A primitive that may put a cell, out of a contract. -/
theorem primS_of_calls {f' : FuncId} {p : List PV → List (List PV) → Option (PV × Upd)} {pf : Func} (hpf : P.funcs[f']? = some pf) (hb : pf.body.isSome = true) (hn : pf.name ≠ "runtime.NumGoroutine")
    (h : ∀ (base : Nat) (κ : K) (w : World) (st : St) (args : Array Value) (ps : List PV) (v : PV) (u : Upd) (st' : St), SR P g base κ w st → args.size = ps.length → (∀ (i : Nat) (u : Value) (q : PV), args[i]? = some u → ps[i]? = some q → R g κ u q) → p ps st.boxes = some (v, u) → updS st u = some st' →
      Calls P f' args w fun e w' => ∃ z, e = .returned z ∧ R g κ z v ∧ SR P g base κ w' st' ∧ Fr base κ.lam w w') : PrimSOK P g f' p := by
  intro base κ w st args ps v u st' hsr hsz hargs hp hu F hF nn o a next Q hnext
  have hrun : (callFunc f' args).run P w = .ok (.enter f' args) w := by
    have hb2 : pf.body.isNone = false := by
      cases hbb : pf.body with
      | none => rw [hbb] at hb; cases hb
      | some c => rfl
    have hn2 : (pf.name == "runtime.NumGoroutine") = false := by simpa using hn
    unfold callFunc
    simp only [Sem.run_bind, Go.program, Sem.run, Result.andThen, hpf, hn2, hb2]
    rfl
  rw [hrun]
  refine ⟨hF.deep, callsIn_of_calls hF ?_⟩
  refine (h base κ w st args ps v u st' hsr hsz hargs hp hu).mono ?_
  rintro e w' ⟨z, rfl, hz, hs, hf⟩
  exact hnext κ z w' (K.le.refl κ) rfl hs hz hf

theorem setCell_eq {w : World} {blk off : Nat} {v : Value} {rs : Array Value} {el : TypeId} {fz : Nat × Nat} (hw : w.heap[blk]? = some (.cells rs el fz)) : w.setCell ⟨blk, off, none⟩ v = setBlk w blk (setA rs off [v]) el fz := by
  have hlt := (Array.getElem?_eq_some_iff.1 hw).1
  simp only [World.setCell, setBlk]
  congr 1
  apply Array.ext_getElem?
  intro j
  rw [Array.getElem?_modify]
  by_cases hj : blk = j
  · subst hj
    rw [if_pos rfl, hw]
    simp [hlt, setA]
  · rw [if_neg hj, Array.getElem?_setIfInBounds_ne hj]

theorem primCopyCheck (L : CCLay P ρ) (X : Builder.X72 P ρ) (htB : g.tB = ρ.t 72) {pf : Func} (hpf : P.funcs[ρ.f 240]? = some pf) (hb : pf.body.isSome = true) (hn : pf.name ≠ "runtime.NumGoroutine") : PrimSOK P g (ρ.f 240) pCopyCheck := by
  refine primS_of_calls hpf hb hn (fun base κ w st args ps v u st' hsr hsz hargs hp hu => ?_)
  unfold pCopyCheck at hp
  split at hp
  · rename_i bs b
    obtain ⟨u1, rfl⟩ : ∃ u1, args = #[u1] := by
      obtain ⟨l⟩ := args
      match l, hsz with
      | [u1], _ => exact ⟨u1, rfl⟩
    have r1 := hargs 0 u1 _ rfl rfl
    cases r1 with | ptr _ _ blk hφ =>
    split at hp
    · -- fresh
      rename_i x hbx
      simp only [Option.some.injEq, Prod.mk.injEq] at hp
      obtain ⟨rfl, rfl⟩ := hp
      have hB := hsr.bx b blk _ hbx hφ
      obtain ⟨rs, ⟨el, lo, hi, hw, hf⟩, hl, hr⟩ := hB.ex
      obtain ⟨v0, h0, hr0⟩ := hr 0 .bslot rfl
      cases hr0
      have hsh := hB.sb (by simp)
      rw [htB] at hsh
      have hc0 : w.cell? ⟨blk, 0, none⟩ = some (.pointer none) := by simp [World.cell?, hw, h0]
      have hrs : rs.size = 2 := by
        simp only [World.shape?, hw, Option.some.injEq, Prod.mk.injEq] at hsh; exact hsh.2
      have hfz : w.frozen? ⟨blk, 0, none⟩ = false := by
        simp only [World.frozen?, hw, Bool.and_eq_false_iff, decide_eq_false_iff_not]
        rcases hf with h | h
        · subst h; omega
        · left; omega
      refine (cc_fresh L X blk w hc0 hsh hfz).mono ?_
      rintro e w' ⟨rfl, rfl⟩
      -- the store's own law
      have hst : storePV st 1 (.ptr b 0) (.ptr b 0) = some st' := hu
      simp only [storePV, hbx] at hst
      split at hst
      · cases hst
        refine ⟨_, rfl, .tup #[] [] rfl rfl (fun i v p a => by simp at a), ?_, ?_⟩
        · rw [setCell_eq hw]
          have := hsr.setBox (rs' := setA rs 0 [.pointer (some ⟨blk, 0, none⟩)]) (cs' := setCells [.bslot, x] 0 [.ptr b 0]) (if hasTok [PV.ptr b 0] then min st.low b else st.low) hbx hφ hw hf (setA_size _ _ _) (by rw [setCells_length]; exact hl) (fun i c hc => ?_) ?_ (fun c hc => ?_) (fun hm => ?_)
          · exact this
          · simp only [setCells, List.set_cons_zero] at hc
            match i with
            | 0 =>
              simp at hc; subst hc
              exact ⟨.pointer (some ⟨blk, 0, none⟩), by simp [setA, hrs], .ptr b 0 blk hφ⟩
            | i + 1 =>
              have hc' : [PV.bslot, x][i + 1]? = some c := by simpa using hc
              obtain ⟨v1, h1, hr1⟩ := hr (i + 1) c hc'
              refine ⟨v1, ?_, hr1⟩
              simp [setA]; exact h1
          · have := hB.lf
            simp only [setCells, List.set_cons_zero, List.all_cons, leafB] at this ⊢
            simpa using this
          · simp only [setCells, List.set_cons_zero, List.mem_cons, List.not_mem_nil, or_false] at hc
            rcases hc with rfl | rfl
            · simp [PV.inB]
            · exact hB.lw _ (by simp)
          · simp
        · rw [setCell_eq hw]
          exact Fr.setBlk hw hB.ge
      · cases hst
    · -- used
      rename_i b' x hbx
      split at hp
      · rename_i hbb
        subst hbb
        simp only [Option.some.injEq, Prod.mk.injEq] at hp
        obtain ⟨rfl, rfl⟩ := hp
        simp only [updS, Option.some.injEq] at hu
        subst hu
        have hB := hsr.bx b' blk _ hbx hφ
        obtain ⟨rs, ⟨el, lo, hi, hw, hf⟩, hl, hr⟩ := hB.ex
        obtain ⟨v0, h0, hr0⟩ := hr 0 _ rfl
        cases hr0 with | ptr _ _ blk' hφ' =>
        rw [hφ] at hφ'; cases hφ'
        have hc0 : w.cell? ⟨blk, 0, none⟩ = some (.pointer (some ⟨blk, 0, none⟩)) := by simp [World.cell?, hw, h0]
        refine (cc_used L X blk w hc0).mono ?_
        rintro e w' ⟨rfl, rfl⟩
        exact ⟨_, rfl, .tup #[] [] rfl rfl (fun i v p a => by simp at a), hsr, Fr.refl _ _⟩
      · cases hp
    · cases hp
  · cases hp


/-- A room that is nobody's more: its row may be frozen. -/
theorem SR.kill {base : Nat} {κ : K} {w w' : World} {st : St} (h : SR P g base κ w st) {i blk e ce : Nat} {rs : Array Value} {el : TypeId} {fz fz' : Nat × Nat} (hi : st.toks[i]? = some true) (hτ : κ.τ[i]? = some (blk, e, ce))
    (hw : w.heap[blk]? = some (.cells rs el fz)) (hw' : w'.heap = (setBlk w blk rs el fz').heap) : SR P g base κ w' { st with toks := st.toks.set i false } := by
  have hk := h.tk i blk e ce hi hτ
  suffices hs : SR P g base κ (setBlk w blk rs el fz') { st with toks := st.toks.set i false } from hs.heap hw'
  have hcell : ∀ b i, (setBlk w blk rs el fz').cell? ⟨b, i, none⟩ = w.cell? ⟨b, i, none⟩ := fun b i => by
    by_cases hb : b = blk
    · subst hb
      have hlt := (Array.getElem?_eq_some_iff.1 hw).1
      have h2 : (setBlk w b rs el fz').heap[b]? = some (.cells rs el fz') := by simp [setBlk, hlt]
      simp only [World.cell?]
      rw [h2, hw]
    · exact cell_setBlk_other hb
  have hobj : ∀ (k : Nat) (o : Obj), w.heap[k]? = some o → isCells o = false → (setBlk w blk rs el fz').heap[k]? = some o := fun k o ho hc => by
    rw [setBlk_other]
    · exact ho
    · rintro rfl; rw [hw] at ho; cases ho; simp [isCells] at hc
  have hset : ∀ j : Nat, (st.toks.set i false)[j]? = some true → st.toks[j]? = some true ∧ j ≠ i := fun j hj => by
    by_cases hji : j = i
    · subst hji
      rw [List.getElem?_set] at hj
      simp at hj
    · rw [List.getElem?_set_ne (fun h => hji h.symm)] at hj
      exact ⟨hj, hji⟩
  refine { cC := fun b i v hc => by rw [hcell]; exact h.cC b i v hc, sh := fun b t hb => (h.sh b t hb).imp fun n hn => (by rw [shape_setBlk hw rfl]; exact hn), bl := h.bl, bn := h.bn, bx := fun b k cs h1 h2 => ?_, tl := by simp [h.tl], tk := fun j k e ce h1 h2 => ?_,
           td := fun a b ba ea ca bb eb cb h1 h2 h3 h4 h5 => h.td a b ba ea ca bb eb cb (hset a h1).1 (hset b h2).1 h3 h4 h5, ll := h.ll, ln := h.ln, lb := h.lb, lp := fun k l D r h1 h2 => (h.lp k l D r h1 h2).mono (K.le.refl _) hobj, hb := by simpa [setBlk] using h.hb, gv := h.gv }
  · have hx := h.bx b k cs h1 h2
    have hne : k ≠ blk := by rintro rfl; exact hk.nb (List.mem_of_getElem? h2)
    obtain ⟨rs', hc, h3, h4⟩ := hx.ex
    exact ⟨hx.ge, hx.nc, ⟨rs', hc.congr (setBlk_other hne), h3, h4⟩, hx.lf, hx.lw, fun hm => by rw [← hx.sb hm]; exact shape_congr (setBlk_other hne)⟩
  · obtain ⟨q1, q2⟩ := hset j h1
    have hx := h.tk j k e ce q1 h2
    have hne : k ≠ blk := h.td j i k e ce blk _ _ q1 hi h2 hτ q2
    obtain ⟨rs', hc, h3⟩ := hx.ex
    exact ⟨hx.ge, hx.nb, hx.nc, ⟨rs', hc.congr (setBlk_other hne), h3⟩⟩

theorem primBuilderString (L : Lays.n169 P ρ) (X : Builder.Extra P ρ) (htU : g.tU = ρ.t 5) {pf : Func} (hpf : P.funcs[ρ.f 169]? = some pf) (hb : pf.body.isSome = true) (hn : pf.name ≠ "runtime.NumGoroutine") : PrimSOK P g (ρ.f 169) pBuilderString := by
  refine primS_of_calls hpf hb hn (fun base κ w st args ps v u st' hsr hsz hargs hp hu => ?_)
  unfold pBuilderString at hp
  split at hp
  · rename_i bs b
    obtain ⟨u1, rfl⟩ : ∃ u1, args = #[u1] := by
      obtain ⟨l⟩ := args
      match l, hsz with
      | [u1], _ => exact ⟨u1, rfl⟩
    have r1 := hargs 0 u1 _ rfl rfl
    cases r1 with | ptr _ _ blk hφ =>
    split at hp
    · -- nothing was written
      rename_i c0 hbx
      simp only [Option.some.injEq, Prod.mk.injEq] at hp
      obtain ⟨rfl, rfl⟩ := hp
      simp only [updS, Option.some.injEq] at hu
      subst hu
      have hB := hsr.bx b blk _ hbx hφ
      obtain ⟨rs, ⟨el, lo, hi, hw, hf⟩, hl, hr⟩ := hB.ex
      obtain ⟨v0, h0, hr0⟩ := hr 1 .nils rfl
      cases hr0
      have hc : w.cell? ⟨blk, 1, none⟩ = some (.slice none 0 0) := by simp [World.cell?, hw, h0]
      refine (bstring_nil L X blk w hc).mono ?_
      rintro e w' ⟨rfl, rfl⟩
      exact ⟨_, rfl, .str _ _ rfl, hsr.heap rfl, Fr.same rfl rfl rfl rfl⟩
    · rename_i c0 i l hbx
      split at hp
      · cases hp
      · rename_i hne0
        obtain ⟨hne, hrm⟩ : l ≠ [] ∧ l.length ≤ room := by simpa [not_or] using hne0
        simp only [Option.some.injEq, Prod.mk.injEq] at hp
        obtain ⟨rfl, rfl⟩ := hp
        simp only [updS] at hu
        split at hu
        · rename_i hti
          cases hu
          have hB := hsr.bx b blk _ hbx hφ
          obtain ⟨rs, ⟨el, lo, hi, hw, hf⟩, hl, hr⟩ := hB.ex
          obtain ⟨v0, h0, hr0⟩ := hr 1 _ rfl
          cases hr0 with
          | bys blk' off n c _ _ hn2 hc hbb ht hz =>
            obtain ⟨rfl, hS⟩ := hz i rfl
            subst hn2
            obtain ⟨n', hsh⟩ := hsr.sh blk' _ hS
            obtain ⟨e', ce, hτ, hroom⟩ := ht
            have hTK := hsr.tk i blk' e' ce hti hτ
            obtain ⟨rs', ⟨el', lo', hi', hw', hf'⟩, hce⟩ := hTK.ex
            have hn' : n' = rs'.size ∧ el' = g.tU := by
              simp only [World.shape?, hw', Option.some.injEq, Prod.mk.injEq] at hsh
              exact ⟨hsh.2.symm, hsh.1⟩
            have hcl : ∀ j x, l[j]? = some x → w.cell? ⟨blk', j, none⟩ = some (.int .u8 x.toNat) := fun j x hx => by
              have := hsr.cC _ _ _ (hbb j x hx)
              simpa using this
            have hcells : l.length ≤ n' := by
              rcases Nat.lt_or_ge n' l.length with h1 | h1
              · exfalso
                have h2 := hcl n' l[n'] (by simp [h1])
                simp only [World.cell?, hw'] at h2
                simp [hn'.1] at h2
              · exact h1
            have hmax : l.length ≤ 9223372036854775807 := by have e : room = 68719476736 := rfl; omega
            have hcell : w.cell? ⟨blk, 1, none⟩ = some (.slice (some ⟨blk', 0, none⟩) l.length c) := by simp [World.cell?, hw, h0]
            refine (bstring_walk L X blk blk' c n' l w hne hc hcells hmax hcell (by rw [hsh, htU]) hcl).mono ?_
            rintro e w1 ⟨rfl, rfl⟩
            have hlt := (Array.getElem?_eq_some_iff.1 hw').1
            have hfr : ∃ fz, (w.drew.freeze ⟨blk', 0, none⟩ l.length).heap = (setBlk w blk' rs' el' fz).heap := by
              refine ⟨if lo' == hi' then (0, 0 + l.length) else (min lo' 0, max hi' (0 + l.length)), ?_⟩
              simp only [World.freeze, setBlk, World.drew]
              rw [if_neg (by simpa using hne)]
              apply Array.ext_getElem?
              intro j
              rw [Array.getElem?_modify]
              by_cases hj : blk' = j
              · subst hj; rw [if_pos rfl, hw']; simp [hlt]
              · rw [if_neg hj, Array.getElem?_setIfInBounds_ne hj]
            obtain ⟨fz, hfr⟩ := hfr
            refine ⟨_, rfl, .str _ _ rfl, hsr.kill hti hτ hw' hfr, ?_⟩
            refine Fr.of ⟨?_, ?_, ?_, ?_, fun k hk => ?_⟩ fun k o ho hc => ?_
            · simp only [World.freeze]; split <;> rfl
            · simp only [World.freeze]; split <;> rfl
            · simp only [World.freeze]; split <;> rfl
            · rw [hfr]; simp [setBlk]
            · rw [hfr]; exact setBlk_other (by have := hTK.ge; omega)
            · rw [hfr, setBlk_other]
              · exact ho
              · rintro rfl; rw [hw'] at ho; cases ho; simp [isCells] at hc
        · cases hu
    · cases hp
  · cases hp
end Go.Ab
