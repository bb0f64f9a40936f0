/-
  Dates are read: the iterator over words.
-/
import Derived.Test.YteblngbleioncaaDoorA4
import Derived.Test.YteblngbleioncaaDoorA2
import Derived.Test.YteblngbleioncaaDoorA3
import Derived.Shelf.Bytes.SlIndexWhole
import Derived.Shelf.Bytes.IndexByte
import Derived.Shelf.Strings.Builder1
import Derived.Shelf.Strings.Search2
import Derived.Shelf.Small.Strs
import Derived.Shelf.Strings.Split
import Derived.HandedShaped
import Derived.LaidLaws
import Derived.Lay
namespace Go.Ab
set_option linter.unusedVariables false
set_option linter.unusedSimpArgs false
set_option maxRecDepth 20000
variable {st s : St} {e : Env}

theorem words_spec {l : Bs} : call prog (.fn 285 []) [.str l] st = some (.fn 310 [.ptr st.boxes.length 0], { boxes := st.boxes ++ [[.str l]], toks := st.toks, loops := st.loops, low := min st.low st.boxes.length }) := by
  refine call_of_W prog_285 ?_
  unfold F_date_words; dsimp only
  have h1 : (PV.str l).inB st.boxes.length = true := rfl
  have h2 : (PV.str l).cells = [.str l] := rfl
  have h3 : leafOk (.str l) = true := rfl
  simp (maxSteps := 1000000) (disch := omega) only [h1, h2, h3, and_self, allocPV, capOk, List.all_cons, List.all_nil, Bool.and_true, W_seq, W_region, W_cond, W_block, W_skip, W_label, W_exit, W_goto, W_ret, WO_cons, WO_consG, WO_nil, wantedA_eq, wantB, evOp, ev_tmp, ev_const, ev_fn, WN_some, WN_none, updO_some, updO_none, upd_eq,
 ↓reduceIte, Nat.reduceEqDiff, List.nil_append, List.cons_append, List.append_nil, List.map_cons, List.map_nil, env0_zero, env0_succ, env0_nil, Option.map_some, Option.map_none, seqQ_normal, seqQ_ret, seqQ_exit, seqQ_goto, blockQ_normal, blockQ_ret, blockQ_exit, blockQ_goto, condW_bool, loopQ_ret, loopQ_exit, loopQ_goto, endQ_ret, endQ_normal, keep_mk, keep_st,
 lss_i, leq_i, gtr_i, geq_i, eql_i, neq_i, eql_8, neq_8, lss_8, leq_8, gtr_8, geq_8, eql_s, neq_s, eql_b, neq_b, not_b, by_bys, by_nils, load_cp1, beq_true, beq_false, Bool.not_eq_true', decide_eq_true_eq, decide_eq_false_iff_not, decide_true, decide_false,
 Int.toNat_natCast, Int.ofNat_lt, Int.ofNat_le, Int.natCast_inj, Bool.false_eq_true, Bool.true_eq_false, extPV, List.getElem?_cons_zero, List.getElem?_cons_succ, nilckPV, Int.reduceToNat, Int.reduceLE, true_and, and_true, reduceCtorEq, or_false, false_or, or_true, Option.some.injEq, exists_eq_left', Bool.not_true, Bool.not_false, ne_eq, Int.reduceEq, not_true_eq_false, not_false_eq_true, Int.reduceLT, UInt8.reduceLT, UInt8.reduceLE, UInt8.reduceToNat]
  exact ⟨.fn 310 [.ptr st.boxes.length 0], rfl, by simp [leave, PV.inB, PV.inB.inBAll]⟩

set_option maxHeartbeats 2000000 in
theorem words_iter {l : Bs} (hl : l.length ≤ 1000000) {b k : Nat} {P : List Bs → St → Prop} {D : St → Prop}
    (hbox : ∀ r s, P r s → s.boxes[b]? = some [.str l])
    (hY : ∀ w r s, P (w :: r) s → ∃ s', call prog (.yld k) [.str w] s = some (.bool true, s') ∧ P r s')
    (hD : ∀ s, P [] s → D s)
    (h0 : P (wordsG l []) { st with low := st.boxes.length }) : ∃ s1, D s1 ∧ call prog (.fn 310 [.ptr b 0]) [.yld k] st = some (leave st s1 (.tup [])) := by
  have key : W prog F_date_words_c1.body (env0 ([.yld k] ++ [.ptr b 0])) { st with low := st.boxes.length } (fun xx e1 s1 => (xx = .normal ∨ xx = .ret) ∧ D s1) := by
    obtain ⟨QQ, hQQ⟩ : ∃ QQ : Ex → Env → St → Prop, QQ = fun xx e1 s1 => (xx = .normal ∨ xx = .ret) ∧ D s1 := ⟨_, rfl⟩
    rw [← hQQ]
    unfold F_date_words_c1; dsimp only
    have hb0 := hbox _ _ h0
    have hld0 : loadPV { st with low := st.boxes.length } false 1 (.ptr b 0) = some (.str l) := by
      simp only at hb0
      simp [loadPV, hb0, readCells]
    simp (maxSteps := 1000000) (disch := omega) only [hld0, len_s, W_seq, W_region, W_cond, W_block, W_skip, W_label, W_exit, W_goto, W_ret, WO_cons, WO_consG, WO_nil, wantedA_eq, wantB, evOp, ev_tmp, ev_const, ev_fn, WN_some, WN_none, updO_some, updO_none, upd_eq,
 ↓reduceIte, Nat.reduceEqDiff, List.nil_append, List.cons_append, List.append_nil, List.map_cons, List.map_nil, env0_zero, env0_succ, env0_nil, Option.map_some, Option.map_none, seqQ_normal, seqQ_ret, seqQ_exit, seqQ_goto, blockQ_normal, blockQ_ret, blockQ_exit, blockQ_goto, condW_bool, loopQ_ret, loopQ_exit, loopQ_goto, endQ_ret, endQ_normal, keep_mk, keep_st,
 lss_i, leq_i, gtr_i, geq_i, eql_i, neq_i, eql_8, neq_8, lss_8, leq_8, gtr_8, geq_8, eql_s, neq_s, eql_b, neq_b, not_b, by_bys, by_nils, load_cp1, beq_true, beq_false, Bool.not_eq_true', decide_eq_true_eq, decide_eq_false_iff_not, decide_true, decide_false,
 Int.toNat_natCast, Int.ofNat_lt, Int.ofNat_le, Int.natCast_inj, Bool.false_eq_true, Bool.true_eq_false, extPV, List.getElem?_cons_zero, List.getElem?_cons_succ, nilckPV, Int.reduceToNat, Int.reduceLE, true_and, and_true, reduceCtorEq, or_false, false_or, or_true, Option.some.injEq, exists_eq_left', Bool.not_true, Bool.not_false, ne_eq, Int.reduceEq, not_true_eq_false, not_false_eq_true, Int.reduceLT, UInt8.reduceLT, UInt8.reduceLE, UInt8.reduceToNat]
    obtain ⟨I, hI⟩ : ∃ I : Nat → Env → St → Prop, I = fun n E s => ∃ (i : Nat) (now : Bs), n = l.length - i ∧ i ≤ l.length ∧ now.length ≤ i ∧ P (wordsG (l.drop i) now) s ∧ E 0 = .yld k ∧ E 1 = .ptr b 0 ∧ E 3 = .str now ∧ E 6 = .int .i64 (l.length : Int) ∧ E 7 = .int .i64 (i : Int) := ⟨_, rfl⟩
    refine W_loop I ?_ (n := l.length) (by rw [hI]; exact ⟨0, [], rfl, by omega, by simp, h0, rfl, rfl, rfl, rfl, rfl⟩)
    intro n E s h
    rw [hI] at h
    obtain ⟨i, now, rfl, hi, hno, hP, e0, e1, e3, e6, e7⟩ := h
    have hb := hbox _ _ hP
    have hld : loadPV s false 1 (.ptr b 0) = some (.str l) := by simp [loadPV, hb, readCells]
    by_cases hlt : i < l.length
    · obtain ⟨c, hc⟩ : ∃ c, c = l.getD i 0 := ⟨_, rfl⟩
      have hd : l.drop i = c :: l.drop (i + 1) := by rw [List.drop_eq_getElem_cons hlt, hc]; simp [List.getD, hlt]
      have next : ∀ (now' : Bs) (s' : St), now'.length ≤ i + 1 → P (wordsG (l.drop (i + 1)) now') s' → ∀ E : Env, E 0 = .yld k → E 1 = .ptr b 0 → E 3 = .str now' → E 6 = .int .i64 (l.length : Int) → E 7 = .int .i64 ((i + 1 : Nat) : Int) → ∃ m, m < l.length - i ∧ I m E s' := fun now' s' q1 q2 E k0 k1 k3 k6 k7 =>
        ⟨l.length - (i + 1), by omega, by rw [hI]; exact ⟨i + 1, now', rfl, by omega, q1, q2, k0, k1, k3, k6, k7⟩⟩
      rw [hd] at hP
      by_cases hw : c = 32 ∨ c = 9
      · by_cases hn : now = []
        · subst hn
          rw [words_bl0 hw] at hP
          by_cases c1 : c = 32
          · simp (maxSteps := 1000000) (disch := omega) only [e0, e1, e3, e6, e7, hlt, hld, idx_s, ← hc, eq_true c1, add_n, loopQ_normal, W_seq, W_region, W_cond, W_block, W_skip, W_label, W_exit, W_goto, W_ret, WO_cons, WO_consG, WO_nil, wantedA_eq, wantB, evOp, ev_tmp, ev_const, ev_fn, WN_some, WN_none, updO_some, updO_none, upd_eq,
 ↓reduceIte, Nat.reduceEqDiff, List.nil_append, List.cons_append, List.append_nil, List.map_cons, List.map_nil, env0_zero, env0_succ, env0_nil, Option.map_some, Option.map_none, seqQ_normal, seqQ_ret, seqQ_exit, seqQ_goto, blockQ_normal, blockQ_ret, blockQ_exit, blockQ_goto, condW_bool, loopQ_ret, loopQ_exit, loopQ_goto, endQ_ret, endQ_normal, keep_mk, keep_st,
 lss_i, leq_i, gtr_i, geq_i, eql_i, neq_i, eql_8, neq_8, lss_8, leq_8, gtr_8, geq_8, eql_s, neq_s, eql_b, neq_b, not_b, by_bys, by_nils, load_cp1, beq_true, beq_false, Bool.not_eq_true', decide_eq_true_eq, decide_eq_false_iff_not, decide_true, decide_false,
 Int.toNat_natCast, Int.ofNat_lt, Int.ofNat_le, Int.natCast_inj, Bool.false_eq_true, Bool.true_eq_false, extPV, List.getElem?_cons_zero, List.getElem?_cons_succ, nilckPV, Int.reduceToNat, Int.reduceLE, true_and, and_true, reduceCtorEq, or_false, false_or, or_true, Option.some.injEq, exists_eq_left', Bool.not_true, Bool.not_false, ne_eq, Int.reduceEq, not_true_eq_false, not_false_eq_true, Int.reduceLT, UInt8.reduceLT, UInt8.reduceLE, UInt8.reduceToNat]
            exact next [] s (by simp) hP _ e0 e1 rfl e6 rfl
          · have c2 : c = 9 := hw.resolve_left c1
            simp (maxSteps := 1000000) (disch := omega) only [e0, e1, e3, e6, e7, hlt, hld, idx_s, ← hc, c1, eq_true c2, add_n, loopQ_normal, W_seq, W_region, W_cond, W_block, W_skip, W_label, W_exit, W_goto, W_ret, WO_cons, WO_consG, WO_nil, wantedA_eq, wantB, evOp, ev_tmp, ev_const, ev_fn, WN_some, WN_none, updO_some, updO_none, upd_eq,
 ↓reduceIte, Nat.reduceEqDiff, List.nil_append, List.cons_append, List.append_nil, List.map_cons, List.map_nil, env0_zero, env0_succ, env0_nil, Option.map_some, Option.map_none, seqQ_normal, seqQ_ret, seqQ_exit, seqQ_goto, blockQ_normal, blockQ_ret, blockQ_exit, blockQ_goto, condW_bool, loopQ_ret, loopQ_exit, loopQ_goto, endQ_ret, endQ_normal, keep_mk, keep_st,
 lss_i, leq_i, gtr_i, geq_i, eql_i, neq_i, eql_8, neq_8, lss_8, leq_8, gtr_8, geq_8, eql_s, neq_s, eql_b, neq_b, not_b, by_bys, by_nils, load_cp1, beq_true, beq_false, Bool.not_eq_true', decide_eq_true_eq, decide_eq_false_iff_not, decide_true, decide_false,
 Int.toNat_natCast, Int.ofNat_lt, Int.ofNat_le, Int.natCast_inj, Bool.false_eq_true, Bool.true_eq_false, extPV, List.getElem?_cons_zero, List.getElem?_cons_succ, nilckPV, Int.reduceToNat, Int.reduceLE, true_and, and_true, reduceCtorEq, or_false, false_or, or_true, Option.some.injEq, exists_eq_left', Bool.not_true, Bool.not_false, ne_eq, Int.reduceEq, not_true_eq_false, not_false_eq_true, Int.reduceLT, UInt8.reduceLT, UInt8.reduceLE, UInt8.reduceToNat]
            exact next [] s (by simp) hP _ e0 e1 rfl e6 rfl
        · rw [words_bl hw hn] at hP
          obtain ⟨s', y1, y2⟩ := hY _ _ _ hP
          by_cases c1 : c = 32
          · simp (maxSteps := 1000000) (disch := omega) only [e0, e1, e3, e6, e7, hlt, hld, idx_s, ← hc, eq_true c1, hn, y1, add_n, loopQ_normal, W_seq, W_region, W_cond, W_block, W_skip, W_label, W_exit, W_goto, W_ret, WO_cons, WO_consG, WO_nil, wantedA_eq, wantB, evOp, ev_tmp, ev_const, ev_fn, WN_some, WN_none, updO_some, updO_none, upd_eq,
 ↓reduceIte, Nat.reduceEqDiff, List.nil_append, List.cons_append, List.append_nil, List.map_cons, List.map_nil, env0_zero, env0_succ, env0_nil, Option.map_some, Option.map_none, seqQ_normal, seqQ_ret, seqQ_exit, seqQ_goto, blockQ_normal, blockQ_ret, blockQ_exit, blockQ_goto, condW_bool, loopQ_ret, loopQ_exit, loopQ_goto, endQ_ret, endQ_normal, keep_mk, keep_st,
 lss_i, leq_i, gtr_i, geq_i, eql_i, neq_i, eql_8, neq_8, lss_8, leq_8, gtr_8, geq_8, eql_s, neq_s, eql_b, neq_b, not_b, by_bys, by_nils, load_cp1, beq_true, beq_false, Bool.not_eq_true', decide_eq_true_eq, decide_eq_false_iff_not, decide_true, decide_false,
 Int.toNat_natCast, Int.ofNat_lt, Int.ofNat_le, Int.natCast_inj, Bool.false_eq_true, Bool.true_eq_false, extPV, List.getElem?_cons_zero, List.getElem?_cons_succ, nilckPV, Int.reduceToNat, Int.reduceLE, true_and, and_true, reduceCtorEq, or_false, false_or, or_true, Option.some.injEq, exists_eq_left', Bool.not_true, Bool.not_false, ne_eq, Int.reduceEq, not_true_eq_false, not_false_eq_true, Int.reduceLT, UInt8.reduceLT, UInt8.reduceLE, UInt8.reduceToNat]
            exact next [] s' (by simp) y2 _ e0 e1 rfl e6 rfl
          · have c2 : c = 9 := hw.resolve_left c1
            simp (maxSteps := 1000000) (disch := omega) only [e0, e1, e3, e6, e7, hlt, hld, idx_s, ← hc, c1, eq_true c2, hn, y1, add_n, loopQ_normal, W_seq, W_region, W_cond, W_block, W_skip, W_label, W_exit, W_goto, W_ret, WO_cons, WO_consG, WO_nil, wantedA_eq, wantB, evOp, ev_tmp, ev_const, ev_fn, WN_some, WN_none, updO_some, updO_none, upd_eq,
 ↓reduceIte, Nat.reduceEqDiff, List.nil_append, List.cons_append, List.append_nil, List.map_cons, List.map_nil, env0_zero, env0_succ, env0_nil, Option.map_some, Option.map_none, seqQ_normal, seqQ_ret, seqQ_exit, seqQ_goto, blockQ_normal, blockQ_ret, blockQ_exit, blockQ_goto, condW_bool, loopQ_ret, loopQ_exit, loopQ_goto, endQ_ret, endQ_normal, keep_mk, keep_st,
 lss_i, leq_i, gtr_i, geq_i, eql_i, neq_i, eql_8, neq_8, lss_8, leq_8, gtr_8, geq_8, eql_s, neq_s, eql_b, neq_b, not_b, by_bys, by_nils, load_cp1, beq_true, beq_false, Bool.not_eq_true', decide_eq_true_eq, decide_eq_false_iff_not, decide_true, decide_false,
 Int.toNat_natCast, Int.ofNat_lt, Int.ofNat_le, Int.natCast_inj, Bool.false_eq_true, Bool.true_eq_false, extPV, List.getElem?_cons_zero, List.getElem?_cons_succ, nilckPV, Int.reduceToNat, Int.reduceLE, true_and, and_true, reduceCtorEq, or_false, false_or, or_true, Option.some.injEq, exists_eq_left', Bool.not_true, Bool.not_false, ne_eq, Int.reduceEq, not_true_eq_false, not_false_eq_true, Int.reduceLT, UInt8.reduceLT, UInt8.reduceLE, UInt8.reduceToNat]
            exact next [] s' (by simp) y2 _ e0 e1 rfl e6 rfl
      · have n1 : ¬ c = 32 := fun h => hw (.inl h)
        have n2 : ¬ c = 9 := fun h => hw (.inr h)
        rw [wordsG, if_neg hw] at hP
        have hs : slcPV 0 (.str l) (some (.int .i64 (i : Int))) (some (.int .i64 ((i + 1 : Nat) : Int))) none = some (.str [c]) := by
          rw [slc_s (by omega) (by omega) (by omega), Int.toNat_natCast, Int.toNat_natCast, hc]
          congr 2
          rw [List.take_add_one, List.drop_append_of_le_length (by simp; omega), List.drop_of_length_le (by simp; omega)]
          simp [List.getD, hlt]
        have ha : binPV .add .no (.str now) (.str [c]) = some (.str (now ++ [c])) := adds (by simp; omega)
        simp (maxSteps := 1000000) (disch := omega) only [e0, e1, e3, e6, e7, hlt, hld, idx_s, ← hc, n1, n2, hs, ha, add_n, loopQ_normal, W_seq, W_region, W_cond, W_block, W_skip, W_label, W_exit, W_goto, W_ret, WO_cons, WO_consG, WO_nil, wantedA_eq, wantB, evOp, ev_tmp, ev_const, ev_fn, WN_some, WN_none, updO_some, updO_none, upd_eq,
 ↓reduceIte, Nat.reduceEqDiff, List.nil_append, List.cons_append, List.append_nil, List.map_cons, List.map_nil, env0_zero, env0_succ, env0_nil, Option.map_some, Option.map_none, seqQ_normal, seqQ_ret, seqQ_exit, seqQ_goto, blockQ_normal, blockQ_ret, blockQ_exit, blockQ_goto, condW_bool, loopQ_ret, loopQ_exit, loopQ_goto, endQ_ret, endQ_normal, keep_mk, keep_st,
 lss_i, leq_i, gtr_i, geq_i, eql_i, neq_i, eql_8, neq_8, lss_8, leq_8, gtr_8, geq_8, eql_s, neq_s, eql_b, neq_b, not_b, by_bys, by_nils, load_cp1, beq_true, beq_false, Bool.not_eq_true', decide_eq_true_eq, decide_eq_false_iff_not, decide_true, decide_false,
 Int.toNat_natCast, Int.ofNat_lt, Int.ofNat_le, Int.natCast_inj, Bool.false_eq_true, Bool.true_eq_false, extPV, List.getElem?_cons_zero, List.getElem?_cons_succ, nilckPV, Int.reduceToNat, Int.reduceLE, true_and, and_true, reduceCtorEq, or_false, false_or, or_true, Option.some.injEq, exists_eq_left', Bool.not_true, Bool.not_false, ne_eq, Int.reduceEq, not_true_eq_false, not_false_eq_true, Int.reduceLT, UInt8.reduceLT, UInt8.reduceLE, UInt8.reduceToNat]
        exact next (now ++ [c]) s (by simp; omega) hP _ e0 e1 rfl e6 rfl
    · obtain rfl : i = l.length := by omega
      rw [List.drop_length] at hP
      by_cases hn : now = []
      · subst hn
        have hP0 : P [] s := by simpa [wordsG] using hP
        simp (maxSteps := 1000000) (disch := omega) only [e0, e1, e3, e6, e7, hlt, W_seq, W_region, W_cond, W_block, W_skip, W_label, W_exit, W_goto, W_ret, WO_cons, WO_consG, WO_nil, wantedA_eq, wantB, evOp, ev_tmp, ev_const, ev_fn, WN_some, WN_none, updO_some, updO_none, upd_eq,
 ↓reduceIte, Nat.reduceEqDiff, List.nil_append, List.cons_append, List.append_nil, List.map_cons, List.map_nil, env0_zero, env0_succ, env0_nil, Option.map_some, Option.map_none, seqQ_normal, seqQ_ret, seqQ_exit, seqQ_goto, blockQ_normal, blockQ_ret, blockQ_exit, blockQ_goto, condW_bool, loopQ_ret, loopQ_exit, loopQ_goto, endQ_ret, endQ_normal, keep_mk, keep_st,
 lss_i, leq_i, gtr_i, geq_i, eql_i, neq_i, eql_8, neq_8, lss_8, leq_8, gtr_8, geq_8, eql_s, neq_s, eql_b, neq_b, not_b, by_bys, by_nils, load_cp1, beq_true, beq_false, Bool.not_eq_true', decide_eq_true_eq, decide_eq_false_iff_not, decide_true, decide_false,
 Int.toNat_natCast, Int.ofNat_lt, Int.ofNat_le, Int.natCast_inj, Bool.false_eq_true, Bool.true_eq_false, extPV, List.getElem?_cons_zero, List.getElem?_cons_succ, nilckPV, Int.reduceToNat, Int.reduceLE, true_and, and_true, reduceCtorEq, or_false, false_or, or_true, Option.some.injEq, exists_eq_left', Bool.not_true, Bool.not_false, ne_eq, Int.reduceEq, not_true_eq_false, not_false_eq_true, Int.reduceLT, UInt8.reduceLT, UInt8.reduceLE, UInt8.reduceToNat]
        rw [hQQ]; exact ⟨.inl rfl, hD _ hP0⟩
      · rw [words_end hn] at hP
        obtain ⟨s', y1, y2⟩ := hY _ _ _ hP
        simp (maxSteps := 1000000) (disch := omega) only [e0, e1, e3, e6, e7, hlt, hn, y1, W_seq, W_region, W_cond, W_block, W_skip, W_label, W_exit, W_goto, W_ret, WO_cons, WO_consG, WO_nil, wantedA_eq, wantB, evOp, ev_tmp, ev_const, ev_fn, WN_some, WN_none, updO_some, updO_none, upd_eq,
 ↓reduceIte, Nat.reduceEqDiff, List.nil_append, List.cons_append, List.append_nil, List.map_cons, List.map_nil, env0_zero, env0_succ, env0_nil, Option.map_some, Option.map_none, seqQ_normal, seqQ_ret, seqQ_exit, seqQ_goto, blockQ_normal, blockQ_ret, blockQ_exit, blockQ_goto, condW_bool, loopQ_ret, loopQ_exit, loopQ_goto, endQ_ret, endQ_normal, keep_mk, keep_st,
 lss_i, leq_i, gtr_i, geq_i, eql_i, neq_i, eql_8, neq_8, lss_8, leq_8, gtr_8, geq_8, eql_s, neq_s, eql_b, neq_b, not_b, by_bys, by_nils, load_cp1, beq_true, beq_false, Bool.not_eq_true', decide_eq_true_eq, decide_eq_false_iff_not, decide_true, decide_false,
 Int.toNat_natCast, Int.ofNat_lt, Int.ofNat_le, Int.natCast_inj, Bool.false_eq_true, Bool.true_eq_false, extPV, List.getElem?_cons_zero, List.getElem?_cons_succ, nilckPV, Int.reduceToNat, Int.reduceLE, true_and, and_true, reduceCtorEq, or_false, false_or, or_true, Option.some.injEq, exists_eq_left', Bool.not_true, Bool.not_false, ne_eq, Int.reduceEq, not_true_eq_false, not_false_eq_true, Int.reduceLT, UInt8.reduceLT, UInt8.reduceLE, UInt8.reduceToNat]
        rw [hQQ]; exact ⟨.inl rfl, hD _ y2⟩
  obtain ⟨⟨xx, e1, s1⟩, h1, h2, h3⟩ := key
  refine ⟨s1, h3, ?_⟩
  rw [call_fn prog_310, h1]
  have hr : resOf e1 s1 F_date_words_c1.results = some (.tup []) := rfl
  rcases h2 with rfl | rfl <;> simp [finish, hr]
end Go.Ab

/-
  Dates are read: a day's name ahead of the words, plain; a written date's words.
-/
namespace Go.Ab
set_option linter.unusedVariables false
set_option linter.unusedSimpArgs false
set_option maxRecDepth 20000

def wdGo (first rest : Bs) (r : List Bs) : Int × List Bs := if nmD first 7 dayT < 0 then (-2, []) else (nmD first 7 dayT, if rest = [] then r else rest :: r)
/-- A day's name taken off words; -1: there is none; -2: it is wrong. -/
def wdD : List Bs → Int × List Bs
  | [] => (-2, [])
  | w :: r =>
    if 0 ≤ Lib.index w [44] then wdGo (w.take (Lib.index w [44]).toNat) (w.drop ((Lib.index w [44]).toNat + 1)) r
    else match r with
      | v :: r' => if v.head? = some 44 then wdGo w (v.drop 1) r' else (-1, w :: r)
      | [] => (-1, w :: r)

theorem nm_day {w : Nat} (h : w < 7) : nmD (dayT w) 7 dayT = w := by
  have := List.all_eq_true.1 (show (List.range 7).all (fun w => nmD (dayT w) 7 dayT == (w : Int)) = true by kernel_rfl) w (List.mem_range.2 h)
  simpa only [beq_iff_eq] using this
theorem nm_mon {m : Nat} (h0 : 1 ≤ m) (h : m ≤ 12) : nmD (monT m) 13 monT = m := by
  have := List.all_eq_true.1 (show (List.range 13).all (fun m => m == 0 || nmD (monT m) 13 monT == (m : Int)) = true by kernel_rfl) m (List.mem_range.2 (by omega))
  simp only [Bool.or_eq_true, beq_iff_eq] at this
  rcases this with h1 | h1
  · omega
  · exact h1
theorem dg_fact (n : Nat) : isDg (dg n) = true ∧ ((dg n - 48).toNat) = n % 10 ∧ dg n ≠ 32 ∧ dg n ≠ 9 ∧ dg n ≠ 40 ∧ dg n ≠ 58 := by
  have := List.all_eq_true.1 (show (List.range 10).all (fun n => isDg (UInt8.ofNat (48 + n)) && (UInt8.ofNat (48 + n) - 48).toNat == n && UInt8.ofNat (48 + n) != 32 && UInt8.ofNat (48 + n) != 9 && UInt8.ofNat (48 + n) != 40 && UInt8.ofNat (48 + n) != 58) = true by kernel_rfl) (n % 10) (List.mem_range.2 (Nat.mod_lt _ (by omega)))
  simp only [Bool.and_eq_true, beq_iff_eq, bne_iff_ne, and_assoc] at this
  exact this
end Go.Ab

/-
  Dates are read: a written date is read as it was, plain.
-/
namespace Go.Ab
set_option linter.unusedVariables false
set_option linter.unusedSimpArgs false
set_option maxRecDepth 20000

/-- What is found out of a date's parts. -/
def finD (wd : Int) (n : Int × Int) (c : Int) (z : Int × Bool) : Int × Int × Int :=
  if n.2 ≠ 0 ∨ c < 0 ∨ z.2 = false ∨ ¬ (0 ≤ n.1 * 86400 + c - z.1 ∧ n.1 * 86400 + c - z.1 ≤ 253402300799) then (0, 0, 110)
  else if 0 ≤ wd ∧ wd ≠ (wkOf n.1).1 then (0, 0, 110) else (n.1 * 86400 + c - z.1, z.1, 0)
def lstD (wd : Int) (l : List Bs) : Int × Int × Int :=
  if wd = -2 ∨ l.length < 4 ∨ 5 < l.length then (0, 0, 110)
  else finD wd (daysD (yrD (l.getD 2 [])) (nmD (l.getD 1 []) 13 monT) (digD (l.getD 0 []) 1 2)) (clkD (l.getD 3 [])) (zoneD (l.getD 4 []))
/-- A date: time, shift, what is wrong. -/
def parseD (s : Bs) : Int × Int × Int := lstD (wdD (wordsG (bareT s) [])).1 (wdD (wordsG (bareT s) [])).2

/-- No blanks, no brackets. -/
def clW (w : Bs) : Prop := ∀ c ∈ w, c ≠ 32 ∧ c ≠ 9 ∧ c ≠ 40
theorem clW.app {a b : Bs} (h : clW a) (k : clW b) : clW (a ++ b) := fun c hc => by
  rcases List.mem_append.1 hc with h1 | h1
  · exact h c h1
  · exact k c h1
theorem clW.bl {a : Bs} (h : clW a) : noBl a := fun c hc => ⟨(h c hc).1, (h c hc).2.1⟩
theorem clW_two (n : Nat) : clW (twoT n) := by
  intro c hc
  simp only [twoT, List.mem_cons, List.not_mem_nil, or_false] at hc
  rcases hc with rfl | rfl
  · have := dg_fact (n / 10); exact ⟨this.2.2.1, this.2.2.2.1, this.2.2.2.2.1⟩
  · have := dg_fact n; exact ⟨this.2.2.1, this.2.2.2.1, this.2.2.2.2.1⟩
theorem clW_one {c : UInt8} (h : c ≠ 32 ∧ c ≠ 9 ∧ c ≠ 40) : clW [c] := fun d hd => by
  rw [List.mem_singleton.1 hd]; exact h
theorem day_cl {w : Nat} (h : w < 7) : clW (dayT w) ∧ ∀ c ∈ dayT w, c ≠ 44 := by
  have := List.all_eq_true.1 (show (List.range 7).all (fun w => (dayT w).all fun c => c != 32 && c != 9 && c != 40 && c != 44) = true by kernel_rfl) w (List.mem_range.2 h)
  rw [List.all_eq_true] at this
  simp only [Bool.and_eq_true, bne_iff_ne, and_assoc] at this
  exact ⟨fun c hc => ⟨(this c hc).1, (this c hc).2.1, (this c hc).2.2.1⟩, fun c hc => (this c hc).2.2.2⟩
theorem mon_cl {m : Nat} (h : m ≤ 12) : clW (monT m) := by
  have := List.all_eq_true.1 (show (List.range 13).all (fun w => (monT w).all fun c => c != 32 && c != 9 && c != 40) = true by kernel_rfl) m (List.mem_range.2 (by omega))
  rw [List.all_eq_true] at this
  simp only [Bool.and_eq_true, bne_iff_ne, and_assoc] at this
  exact this
theorem clk_cl (c : Nat) : clW (clkT c) :=
  ((((clW_two _).app (clW_one (by decide))).app (clW_two _)).app (clW_one (by decide))).app (clW_two _)
theorem zone_cl (z : Int) : clW (zoneT z) := by
  refine (clW.app ?_ (clW_two _)).app (clW_two _)
  split
  · exact clW_one (by decide)
  · exact clW_one (by decide)

/-- The words of a written date. -/
def dateW (y m d w c : Nat) (z : Int) : List Bs := [dayT w ++ [44], twoT d, monT m, twoT (y / 100) ++ twoT y, clkT c, zoneT z]
theorem date_eq (y m d w c : Nat) (z : Int) (u : Bs) : dateT y m d w c z ++ u = (dayT w ++ [44]) ++ 32 :: (twoT d ++ 32 :: (monT m ++ 32 :: ((twoT (y / 100) ++ twoT y) ++ 32 :: (clkT c ++ 32 :: (zoneT z ++ u))))) := by
  simp [dateT, frontT]
theorem zone_ne (z : Int) : zoneT z ≠ [] := by unfold zoneT; split <;> simp
theorem words_date5 {y m d w c : Nat} {z : Int} (hw : w < 7) (hm0 : 1 ≤ m) (hm : m ≤ 12) (u : Bs) :
    wordsG (dateT y m d w c z ++ u) [] = (dayT w ++ [44]) :: twoT d :: monT m :: (twoT (y / 100) ++ twoT y) :: clkT c :: wordsG (zoneT z ++ u) [] := by
  rw [date_eq]
  rw [words_one ((day_cl hw).1.app (clW_one (by decide))).bl (by simp)]
  rw [words_one (clW_two d).bl (by simp [twoT])]
  rw [words_one (mon_cl hm).bl (by intro h; have := monT_len hm0 hm; rw [h] at this; simp at this)]
  rw [words_one ((clW_two _).app (clW_two _)).bl (by simp [twoT])]
  rw [words_one (clk_cl c).bl (by simp [clkT, twoT])]
theorem words_date {y m d w c : Nat} {z : Int} (hw : w < 7) (hm0 : 1 ≤ m) (hm : m ≤ 12) : wordsG (dateT y m d w c z) [] = dateW y m d w c z := by
  have := words_date5 (y := y) (d := d) (c := c) (z := z) hw hm0 hm []
  rw [List.append_nil, List.append_nil, words_last (zone_cl z).bl (zone_ne z)] at this
  exact this
theorem words_date3 {y m d w c : Nat} {z : Int} (hw : w < 7) (hm0 : 1 ≤ m) (hm : m ≤ 12) : wordsG (32 :: 9 :: (dateT y m d w c z ++ [32, 32, 32])) [] = dateW y m d w c z := by
  rw [words_bl0 (.inl rfl), words_bl0 (.inr rfl), words_date5 hw hm0 hm, words_one (zone_cl z).bl (zone_ne z), words_bl0 (.inl rfl), words_bl0 (.inl rfl)]
  rfl

theorem date_cl {y m d w c : Nat} {z : Int} (hw : w < 7) (hm : m ≤ 12) : ∀ x ∈ dateT y m d w c z, x ≠ 40 := by
  have h1 := (day_cl hw).1; have h2 := clW_two d; have h3 := mon_cl hm; have h4 := (clW_two (y / 100)).app (clW_two y); have h5 := clk_cl c; have h6 := zone_cl z
  have he := date_eq y m d w c z []
  rw [List.append_nil, List.append_nil] at he
  rw [he]
  intro x hx
  simp only [List.mem_append, List.mem_cons, List.not_mem_nil, or_false] at hx
  rcases hx with (hx | rfl) | rfl | hx | rfl | hx | rfl | (hx | hx) | rfl | hx | rfl | hx
  · exact (h1 x hx).2.2
  · decide
  · decide
  · exact (h2 x hx).2.2
  · decide
  · exact (h3 x hx).2.2
  · decide
  · exact (clW_two _ x hx).2.2
  · exact (clW_two _ x hx).2.2
  · decide
  · exact (h5 x hx).2.2
  · decide
  · exact (h6 x hx).2.2
theorem index_none1 {k : UInt8} : ∀ (n : Bs), (∀ c ∈ n, c ≠ k) → Lib.index n [k] = -1 := by
  intro n h
  rcases chr_split k n with ⟨_, h1⟩ | ⟨a, r, rfl, _⟩
  · exact h1
  · exact absurd rfl (h k (by simp))
theorem bare_date {y m d w c : Nat} {z : Int} (hw : w < 7) (hm : m ≤ 12) : bareT (dateT y m d w c z) = dateT y m d w c z :=
  bare_no (index_none1 _ (date_cl hw hm))
theorem bare_date3 {y m d w c : Nat} {z : Int} (hw : w < 7) (hm : m ≤ 12) : bareT ([32, 9] ++ dateT y m d w c z ++ [32, 40, 97, 32, 98, 41, 32]) = 32 :: 9 :: (dateT y m d w c z ++ [32, 32, 32]) := by
  have hc := date_cl (y := y) (d := d) (c := c) (z := z) hw hm
  unfold bareT
  have e : [32, 9] ++ dateT y m d w c z ++ [32, 40, 97, 32, 98, 41, 32] = ((32 :: 9 :: dateT y m d w c z) ++ [32]) ++ 40 :: ([97, 32, 98] ++ 41 :: [32]) := by simp
  rw [e]
  rw [bare_shut (fun x hx => by
    simp only [List.mem_append, List.mem_cons, List.not_mem_nil, or_false] at hx
    rcases hx with (rfl | rfl | hx) | rfl
    · decide
    · decide
    · exact hc x hx
    · decide) (by decide)]
  rw [show (((32 :: 9 :: dateT y m d w c z) ++ [32]) ++ 40 :: ([97, 32, 98] ++ 41 :: [32]) : Bs).length = ((dateT y m d w c z).length + 8) + 1 by simp]
  rw [bare_no (index_none1 _ (by decide))]
  simp

theorem wd_date {y m d w c : Nat} {z : Int} (hw : w < 7) : wdD (dateW y m d w c z) = ((w : Int), [twoT d, monT m, twoT (y / 100) ++ twoT y, clkT c, zoneT z]) := by
  have hi := index_chr (k := 44) (dayT w) [] (day_cl hw).2
  unfold dateW wdD
  have hl := dayT_len hw
  dsimp only
  rw [if_pos (by rw [hi]; omega), hi, Int.toNat_natCast]
  have e1 : (dayT w ++ [44]).take (dayT w).length = dayT w := List.take_left
  have e2 : (dayT w ++ [44]).drop ((dayT w).length + 1) = [] := List.drop_of_length_le (by simp)
  rw [e1, e2]
  unfold wdGo
  rw [nm_day hw, if_neg (by omega), if_pos rfl]

theorem two_digA {a : Nat} (n : Nat) (h : n < 100) (ha : a ≤ 2) : digD (twoT n) a 2 = n := by
  have h1 := dg_fact (n / 10); have h2 := dg_fact n
  unfold digD
  rw [if_pos ⟨by simp [twoT, h1.1, h2.1], by simp [twoT]; omega, by simp [twoT]⟩]
  simp only [valD, twoT, List.foldl_cons, List.foldl_nil, h1.2.1, h2.2.1]
  omega
theorem four_dig (a b : Nat) (ha : a < 100) (hb : b < 100) : digD (twoT a ++ twoT b) 4 4 = 100 * a + b := by
  have h1 := dg_fact (a / 10); have h2 := dg_fact a; have h3 := dg_fact (b / 10); have h4 := dg_fact b
  unfold digD
  rw [if_pos ⟨by simp [twoT, h1.1, h2.1, h3.1, h4.1], by simp [twoT], by simp [twoT]⟩]
  simp only [valD, twoT, List.cons_append, List.nil_append, List.foldl_cons, List.foldl_nil, h1.2.1, h2.2.1, h3.2.1, h4.2.1]
  omega
theorem twoT_mod (n : Nat) : twoT n = twoT (n % 100) := by
  simp only [twoT, dg]
  rw [show n % 100 / 10 % 10 = n / 10 % 10 by omega, show n % 100 % 10 = n % 10 by omega]
theorem yr_date {y : Nat} (h : y ≤ 9999) : yrD (twoT (y / 100) ++ twoT y) = y := by
  unfold yrD
  rw [if_pos (by simp [twoT]), twoT_mod y, four_dig _ _ (by omega) (Nat.mod_lt _ (by omega))]
  omega
theorem split_cutc {k : UInt8} {r : Bs} : ∀ (n acc : Bs), (∀ c ∈ n, c ≠ k) → splitOn k acc (n ++ k :: r) = (acc ++ n) :: splitOn k [] r := by
  intro n
  induction n with
  | nil => intro acc _; simp [splitOn]
  | cons d n ih =>
    intro acc h
    rw [List.cons_append, splitOn, if_neg (h d (by simp)), ih _ fun c hc => h c (by simp [hc])]; simp
theorem split_end {k : UInt8} : ∀ (n acc : Bs), (∀ c ∈ n, c ≠ k) → splitOn k acc n = [acc ++ n] := by
  intro n
  induction n with
  | nil => intro acc _; simp [splitOn]
  | cons d n ih =>
    intro acc h
    rw [splitOn, if_neg (h d (by simp)), ih _ fun c hc => h c (by simp [hc])]; simp
theorem two_no58 (n : Nat) : ∀ c ∈ twoT n, c ≠ 58 := by
  intro c hc
  simp only [twoT, List.mem_cons, List.not_mem_nil, or_false] at hc
  rcases hc with rfl | rfl
  · exact (dg_fact (n / 10)).2.2.2.2.2
  · exact (dg_fact n).2.2.2.2.2
theorem clk_date {c : Nat} (h : c < 86400) : clkD (clkT c) = c := by
  have e : clkT c = twoT (c / 3600) ++ 58 :: (twoT (c / 60 % 60) ++ 58 :: twoT (c % 60)) := by simp [clkT]
  have hs : splitOn 58 [] (clkT c) = [twoT (c / 3600), twoT (c / 60 % 60), twoT (c % 60)] := by
    rw [e, split_cutc _ _ (two_no58 _), split_cutc _ _ (two_no58 _), split_end _ _ (two_no58 _)]; rfl
  unfold clkD
  rw [hs, if_neg (by simp)]
  simp only [List.getD_cons_zero, List.getD_cons_succ, List.length_cons, List.length_nil, Nat.reduceAdd, if_true]
  rw [two_digA _ (by omega) (by omega), two_digA _ (by omega) (by omega), two_digA _ (by omega) (by omega)]
  unfold hmsD
  rw [if_neg (by omega)]
  omega
theorem zone_date {z : Int} (h : shiftOK z = true) : zoneD (zoneT z) = (z, true) := by
  obtain ⟨h1, h2, h3⟩ := shift_bound h
  obtain ⟨g, hg, hv⟩ : ∃ g : UInt8, (g = 45 ∧ z < 0 ∨ g = 43 ∧ ¬ z < 0) ∧ zoneT z = g :: (twoT (z.natAbs / 3600) ++ twoT (z.natAbs / 60 % 60)) := by
    by_cases hz : z < 0
    · exact ⟨45, .inl ⟨rfl, hz⟩, by simp [zoneT, hz]⟩
    · exact ⟨43, .inr ⟨rfl, hz⟩, by simp [zoneT, hz]⟩
  have hn : zoneTab.find? (fun q => decide (lowOf (zoneT z) = q.1)) = none := by
    rw [List.find?_eq_none]
    intro q hq
    have hh : ∀ q ∈ zoneTab, q.1.head? ≠ some 45 ∧ q.1.head? ≠ some 43 := by decide
    have := hh q hq
    simp only [decide_eq_true_eq]
    intro he
    rw [← he, hv] at this
    rcases hg with ⟨rfl, _⟩ | ⟨rfl, _⟩
    · exact this.1 rfl
    · exact this.2 rfl
  unfold zoneD
  rw [hn]
  simp only
  unfold zoneN
  rw [hv]
  have e1 : (g :: (twoT (z.natAbs / 3600) ++ twoT (z.natAbs / 60 % 60))).drop 1 = twoT (z.natAbs / 3600) ++ twoT (z.natAbs / 60 % 60) := rfl
  have e2 : ((g :: (twoT (z.natAbs / 3600) ++ twoT (z.natAbs / 60 % 60))).take 3).drop 1 = twoT (z.natAbs / 3600) := rfl
  have e3 : (g :: (twoT (z.natAbs / 3600) ++ twoT (z.natAbs / 60 % 60))).drop 3 = twoT (z.natAbs / 60 % 60) := rfl
  have e4 : (g :: (twoT (z.natAbs / 3600) ++ twoT (z.natAbs / 60 % 60))).getD 0 0 = g := rfl
  rw [e1, e2, e3, e4, four_dig _ _ (by omega) (by omega), two_digA _ (by omega) (by omega), two_digA _ (by omega) (by omega)]
  have h60 : (z.natAbs : Int) % 60 = 0 := by
    have := Int.tmod_def z 60
    omega
  rw [if_neg (by rcases hg with ⟨rfl, _⟩ | ⟨rfl, _⟩ <;> (simp; omega))]
  have d1 : decide (((z.natAbs / 3600 : Nat) : Int) < 24) = true := by simp; omega
  have d2 : decide (((z.natAbs / 60 % 60 : Nat) : Int) < 60) = true := by simp; omega
  rw [d1, d2]
  refine Prod.ext ?_ rfl
  simp only
  rcases hg with ⟨rfl, hz⟩ | ⟨rfl, hz⟩
  · rw [if_pos rfl]; omega
  · rw [if_neg (by decide)]; omega
theorem days_date {n y m d : Nat} (h : Ci n y m d) : daysD y m d = ((n : Int), 0) := by
  have := h.y1; have := h.y2; have := h.m1; have := h.m2; have := h.d1; have := h.d2; have := h.eq
  unfold daysD
  rw [if_pos (by simp only [Int.toNat_natCast]; omega)]
  simp only [Int.toNat_natCast]
  refine Prod.ext ?_ rfl
  simp only
  omega

theorem lst_date {t z : Int} {L y m d : Nat} (h : okP t z) (hL : t + z = (L : Int)) (hci : Ci (L / 86400) y m d) :
    lstD ((((L / 86400 + 3) % 7 : Nat) : Int)) [twoT d, monT m, twoT (y / 100) ++ twoT y, clkT (L % 86400), zoneT z] = (t, z, 0) := by
  obtain ⟨h1, h2, h3⟩ := h
  have hd2 := hci.d2
  have hmd : mdY y m ≤ 31 := by unfold mdY; split <;> (try split) <;> (try split) <;> omega
  unfold lstD
  rw [if_neg (by simp; omega)]
  simp only [List.getD_cons_zero, List.getD_cons_succ]
  rw [yr_date hci.y2, nm_mon hci.m1 hci.m2, two_digA _ (by omega) (by omega), days_date hci, clk_date (Nat.mod_lt _ (by omega)), zone_date h2]
  have hdm := Nat.div_add_mod L 86400
  have e : ((L / 86400 : Nat) : Int) * 86400 + ((L % 86400 : Nat) : Int) - z = t := by omega
  unfold finD
  simp only [e]
  rw [if_neg (by simp; omega)]
  rw [if_neg]
  have hlt : ¬ (((L / 86400 : Nat) : Int) < 0 ∨ 2932896 < ((L / 86400 : Nat) : Int)) := by omega
  simp only [wkOf, hlt, if_false]
  omega

/-- **A written date is read as it was.** -/
theorem parse_date {t z : Int} {L y m d : Nat} (h : okP t z) (hL : t + z = (L : Int)) (hci : Ci (L / 86400) y m d) :
    parseD (dateT y m d ((L / 86400 + 3) % 7) (L % 86400) z) = (t, z, 0) := by
  have hw : (L / 86400 + 3) % 7 < 7 := Nat.mod_lt _ (by omega)
  unfold parseD
  rw [bare_date hw hci.m2, words_date hw hci.m1 hci.m2, wd_date hw]
  exact lst_date h hL hci
theorem parse_date3 {t z : Int} {L y m d : Nat} (h : okP t z) (hL : t + z = (L : Int)) (hci : Ci (L / 86400) y m d) :
    parseD ([32, 9] ++ dateT y m d ((L / 86400 + 3) % 7) (L % 86400) z ++ [32, 40, 97, 32, 98, 41, 32]) = (t, z, 0) := by
  have hw : (L / 86400 + 3) % 7 < 7 := Nat.mod_lt _ (by omega)
  unfold parseD
  rw [bare_date3 hw hci.m2, words_date3 hw hci.m1 hci.m2, wd_date hw]
  exact lst_date h hL hci
theorem date_len {y m d w c : Nat} {z : Int} (hw : w < 7) (hm0 : 1 ≤ m) (hm : m ≤ 12) : (dateT y m d w c z).length = 31 := by
  have h1 := dayT_len hw; have h2 := monT_len hm0 hm
  have h3 : (if z < 0 then [(45 : UInt8)] else [43]).length = 1 := by split <;> rfl
  simp [dateT, frontT, clkT, zoneT, twoT_len, h1, h2, h3]
end Go.Ab

/-
  Rows of one's own in a state that keeps what the caller has.
-/
namespace Go.Ab
set_option linter.unusedVariables false
set_option linter.unusedSimpArgs false
variable {st s : St} {e : Env}

/-! ### Rows of one's own in a state that keeps what the caller has -/
theorem Kept.appV {esz : Nat} {v u w : PV} {xs : List PV} (hk : Kept st s) (h : Own st s esz v xs) (hl : xs.length + 1 ≤ room) :
    ∃ v' s', Ab.appV esz s.tok1 v (.sl esz (.own s.toks.length) [u]) = some (v', s') ∧ Kept st s' ∧ Own st s' esz v' (xs ++ [u]) ∧ s'.boxes = s.boxes := by
  have hk1 := hk.tok1
  have hg : GrewAt s.tok1.boxes st.toks s.tok1.loops s.tok1.low s.tok1 := ⟨rfl, rfl, rfl, hk1.tk⟩
  have h1 := h.tok1
  obtain ⟨g2, o2⟩ := Own.app (ys := xs ++ [u]) hg h1
  refine ⟨_, _, appV_own h1 hl, ⟨?_, ?_, ?_, g2.tk⟩, o2, g2.bx⟩
  · rw [g2.bx]; exact hk1.bx
  · rw [g2.lp]; exact hk1.lp
  · rw [g2.lw]; exact hk1.lw
theorem lit_s {x : Bs} : litFill 1 (List.replicate 1 (.str [])) [(0, .str x)] = some [.str x] := rfl
end Go.Ab

/-
  Dates are read: a day's name ahead of the words, walked.
-/
namespace Go.Ab
set_option linter.unusedVariables false
set_option linter.unusedSimpArgs false
set_option maxRecDepth 20000
variable {st s : St} {e : Env}

/-- A row of words as a value. -/
def rowV (t : Tok) (l : List Bs) : PV := .sl 1 t (l.map .str)
theorem rowV_vs {t : Tok} {l : List Bs} : (rowV t l).vs 1 = some (l.map .str) := by simp [rowV, PV.vs]
theorem len_row {t : Tok} {l : List Bs} : lenPV false (rowV t l) = some (.int .i64 (l.length : Int)) := by simp [rowV, lenPV]
theorem slc_row {t : Tok} {w : Bs} {l : List Bs} : slcPV 1 (rowV t (w :: l)) (some (.int .i64 1)) none none = some (rowV t l) := by
  have h1 : (1 : Int) ≤ (l.length : Int) + 1 := by omega
  have h2 : (l.map PV.str).take l.length = l.map .str := List.take_of_length_le (by simp)
  simp [rowV, slcPV, bnd, intOf, sufTok, h1, h2]
theorem keep_row {t : Tok} {l : List Bs} {n : Nat} {toks : List Bool} {acc : List Nat} (ht : ∀ i, t = .own i → i < n) : keepVal n toks acc (rowV t l) = (rowV t l, acc) := by
  cases t with
  | own i => simp [rowV, keepVal, keepLeaf, keepTok, ht i rfl]
  | no => simp [rowV, keepVal, keepLeaf, keepTok]
  | ex => simp [rowV, keepVal, keepLeaf, keepTok]
theorem retIrow {a b : Nat} {n m : Int} {t : Tok} {l : List Bs} (ha : e a = .int .i64 n) (hb : e b = rowV t l) (hk : Kept st s) (ht : ∀ i, t = .own i → i < st.toks.length) (hnm : n = m) :
    ∃ rv, resOf e s [.tmp a, .tmp b] = some rv ∧ leave st s rv = (.tup [.int .i64 m, rowV t l], st) := by
  subst hnm
  refine ⟨.tup [.int .i64 n, rowV t l], by simp [resOf, rvAll, rv1, ha, hb, packRes, notTup, rowV], ?_⟩
  have h1 := hk.bx; have h2 := hk.lp; have h3 := hk.lw; have h4 := hk.tk
  have h5 : (PV.tup [.int .i64 n, rowV t l]).inB st.boxes.length = true := rfl
  have h6 : keepRes st.toks.length s.toks (.tup [.int .i64 n, rowV t l]) = (.tup [.int .i64 n, rowV t l], []) := by
    simp only [keepRes, keepVals, keep_row ht]; rfl
  simp [leave, h5, h3, h6, h1, h2, h4]
theorem retInils {a b : Nat} {n m : Int} (ha : e a = .int .i64 n) (hb : e b = .nils) (hk : Kept st s) (hnm : n = m) :
    ∃ rv, resOf e s [.tmp a, .tmp b] = some rv ∧ leave st s rv = (.tup [.int .i64 m, .nils], st) := by
  subst hnm
  exact ⟨.tup [.int .i64 n, .nils], by simp [resOf, rvAll, rv1, ha, hb, packRes, notTup], hk.leave' ⟨fun _ => rfl, fun _ _ => rfl⟩⟩
/-- A fresh row handed back. -/
theorem retIown {a b : Nat} {n m : Int} {i : Nat} {l : List Bs} (ha : e a = .int .i64 n) (hb : e b = rowV (.own i) l) (hk : Kept st s) (hi : st.toks.length ≤ i) (ht : s.toks[i]? = some true) (hnm : n = m) :
    ∃ rv, resOf e s [.tmp a, .tmp b] = some rv ∧ leave st s rv = (.tup [.int .i64 m, rowV (.own st.toks.length) l], st.tok1) := by
  subst hnm
  refine ⟨.tup [.int .i64 n, rowV (.own i) l], by simp [resOf, rvAll, rv1, ha, hb, packRes, notTup, rowV], ?_⟩
  have h1 := hk.bx; have h2 := hk.lp; have h3 := hk.lw; have h4 := hk.tk
  have h5 : (PV.tup [.int .i64 n, .sl 1 (.own i) (l.map .str)]).inB st.boxes.length = true := rfl
  simp [leave, h5, h3, rowV, keepRes, keepVals, keepVal, keepLeaf, keepTok, ht, show ¬ i < st.toks.length by omega, h1, h2, h4, St.tok1]
/-- A word ahead of a row. -/
theorem app_row {w : Bs} {t : Tok} {l : List Bs} (hl : l.length + 1 ≤ room) : ∃ i T, appV 1 s.tok1 (.sl 1 (.own s.toks.length) [.str w]) (rowV t l) = some (rowV (.own i) (w :: l), ⟨s.boxes, s.toks ++ T, s.loops, s.low⟩) ∧ s.toks.length ≤ i ∧ (s.toks ++ T)[i]? = some true := by
  cases l with
  | nil => exact ⟨s.toks.length, [true], by simp [appV, rowV, srcV, St.tok1], Nat.le_refl _, by simp⟩
  | cons v l =>
    have hl2 : 1 + (l.length + 1) ≤ room := by simp only [List.length_cons] at hl; omega
    refine ⟨s.toks.length + 1, [false, true], ?_, by omega, by simp⟩
    have h1 : (s.toks ++ [true])[s.toks.length]? = some true := by simp
    have h2 : (s.toks ++ [true]).set s.toks.length false = s.toks ++ [false] := by simp
    simp [appV, rowV, srcV, St.tok1, appTok, freshT, h1, h2, hl2]
theorem Kept.toks {T : List Bool} (h : Kept st s) : Kept st ⟨s.boxes, s.toks ++ T, s.loops, s.low⟩ := by
  refine ⟨h.bx, h.lp, h.lw, ?_⟩
  have h1 := h.tk
  have h2 : st.toks.length ≤ s.toks.length := by have := congrArg List.length h1; simp at this; omega
  simp only [List.take_append_of_le_length h2]
  exact h1

theorem cut_hit {w : Bs} (h : 0 ≤ Lib.index w [44]) : cutAt w [44] = .tup [.str (w.take (Lib.index w [44]).toNat), .str (w.drop ((Lib.index w [44]).toNat + 1)), .bool true] := by simp [cutAt, h]
theorem cut_miss {w : Bs} (h : ¬ 0 ≤ Lib.index w [44]) : cutAt w [44] = .tup [.str w, .str [], .bool false] := by simp [cutAt, h]
theorem pre44 {v : Bs} : decide (([44] : Bs) <+: v) = decide (v.head? = some 44) := by
  cases v with
  | nil => simp
  | cons c v => simp [List.cons_prefix_cons, eq_comm]

set_option maxHeartbeats 4000000 in
theorem weekday_spec {t : Tok} {l : List Bs} (ht : ∀ i, t = .own i → i < st.toks.length) (hl : ∀ w ∈ l, w.length ≤ 1000000) (hn : l.length ≤ 1000000) :
    ∃ y s', call prog (.fn 286 []) [rowV t l] st = some (.tup [.int .i64 (wdD l).1, y], s') ∧ (y = .nils ∧ (wdD l).2 = [] ∨ ∃ u, y = rowV u (wdD l).2 ∧ ∀ i, u = .own i → i < s'.toks.length) ∧ (s' = st ∨ s' = st.tok1) := by
  have htk : ∀ i, t = .own i → i < st.tok1.toks.length := fun i hi => by have := ht i hi; simp [St.tok1]; omega
  match l, hl, hn with
  | [], _, _ =>
    refine ⟨.nils, st, ?_, .inl ⟨rfl, rfl⟩, .inl rfl⟩
    refine call_of_W prog_286 ?_
    unfold F_date_weekday; dsimp only
    simp (maxSteps := 1000000) (disch := omega) only [len_row, List.length_nil, Int.ofNat_zero, W_seq, W_region, W_cond, W_block, W_skip, W_label, W_exit, W_goto, W_ret, WO_cons, WO_consG, WO_nil, wantedA_eq, wantB, evOp, ev_tmp, ev_const, ev_fn, WN_some, WN_none, updO_some, updO_none, upd_eq,
 ↓reduceIte, Nat.reduceEqDiff, List.nil_append, List.cons_append, List.append_nil, List.map_cons, List.map_nil, env0_zero, env0_succ, env0_nil, Option.map_some, Option.map_none, seqQ_normal, seqQ_ret, seqQ_exit, seqQ_goto, blockQ_normal, blockQ_ret, blockQ_exit, blockQ_goto, condW_bool, loopQ_ret, loopQ_exit, loopQ_goto, endQ_ret, endQ_normal, keep_mk, keep_st,
 lss_i, leq_i, gtr_i, geq_i, eql_i, neq_i, eql_8, neq_8, lss_8, leq_8, gtr_8, geq_8, eql_s, neq_s, eql_b, neq_b, not_b, by_bys, by_nils, load_cp1, beq_true, beq_false, Bool.not_eq_true', decide_eq_true_eq, decide_eq_false_iff_not, decide_true, decide_false,
 Int.toNat_natCast, Int.ofNat_lt, Int.ofNat_le, Int.natCast_inj, Bool.false_eq_true, Bool.true_eq_false, extPV, List.getElem?_cons_zero, List.getElem?_cons_succ, nilckPV, Int.reduceToNat, Int.reduceLE, true_and, and_true, reduceCtorEq, or_false, false_or, or_true, Option.some.injEq, exists_eq_left', Bool.not_true, Bool.not_false, ne_eq, Int.reduceEq, not_true_eq_false, not_false_eq_true, Int.reduceLT, UInt8.reduceLT, UInt8.reduceLE, UInt8.reduceToNat]
    exact retInils rfl rfl Kept.start rfl
  | w :: r, hl, hn =>
    have hlw := hl w (by simp)
    simp only [List.length_cons] at hn
    have hcut := fun S : St => Cut_spec (st := S) (a := w) (b := [44]) (by omega) (by simp)
    have e1 : ¬ (((r.length + 1 : Nat) : Int) = 0) := by omega
    have i0 : iaddrPV 1 (rowV t (w :: r)) (.int .i64 0) = some (.cp [.str w]) := iaddr_t rowV_vs (by omega) (by simp)
    by_cases hc : 0 ≤ Lib.index w [44]
    · obtain ⟨a, ha⟩ : ∃ a, a = w.take (Lib.index w [44]).toNat := ⟨_, rfl⟩
      obtain ⟨b, hb⟩ : ∃ b, b = w.drop ((Lib.index w [44]).toNat + 1) := ⟨_, rfl⟩
      have hal : a.length ≤ 1000000 := by rw [ha, List.length_take]; omega
      have hct := cut_hit hc
      rw [← ha, ← hb] at hct
      rw [hct] at hcut
      have hday := fun S : St => day_spec (st := S) hal
      have hD : wdD (w :: r) = wdGo a b r := by unfold wdD; dsimp only; rw [if_pos hc, ha, hb]
      rw [hD]
      by_cases hneg : nmD a 7 dayT < 0
      · have hg : wdGo a b r = (-2, []) := by rw [wdGo, if_pos hneg]
        rw [hg]
        refine ⟨.nils, st, ?_, .inl ⟨rfl, rfl⟩, .inl rfl⟩
        refine call_of_W prog_286 ?_
        unfold F_date_weekday; dsimp only
        simp (maxSteps := 1000000) (disch := omega) only [len_row, List.length_cons, e1, i0, hcut, hday, hneg, W_seq, W_region, W_cond, W_block, W_skip, W_label, W_exit, W_goto, W_ret, WO_cons, WO_consG, WO_nil, wantedA_eq, wantB, evOp, ev_tmp, ev_const, ev_fn, WN_some, WN_none, updO_some, updO_none, upd_eq,
 ↓reduceIte, Nat.reduceEqDiff, List.nil_append, List.cons_append, List.append_nil, List.map_cons, List.map_nil, env0_zero, env0_succ, env0_nil, Option.map_some, Option.map_none, seqQ_normal, seqQ_ret, seqQ_exit, seqQ_goto, blockQ_normal, blockQ_ret, blockQ_exit, blockQ_goto, condW_bool, loopQ_ret, loopQ_exit, loopQ_goto, endQ_ret, endQ_normal, keep_mk, keep_st,
 lss_i, leq_i, gtr_i, geq_i, eql_i, neq_i, eql_8, neq_8, lss_8, leq_8, gtr_8, geq_8, eql_s, neq_s, eql_b, neq_b, not_b, by_bys, by_nils, load_cp1, beq_true, beq_false, Bool.not_eq_true', decide_eq_true_eq, decide_eq_false_iff_not, decide_true, decide_false,
 Int.toNat_natCast, Int.ofNat_lt, Int.ofNat_le, Int.natCast_inj, Bool.false_eq_true, Bool.true_eq_false, extPV, List.getElem?_cons_zero, List.getElem?_cons_succ, nilckPV, Int.reduceToNat, Int.reduceLE, true_and, and_true, reduceCtorEq, or_false, false_or, or_true, Option.some.injEq, exists_eq_left', Bool.not_true, Bool.not_false, ne_eq, Int.reduceEq, not_true_eq_false, not_false_eq_true, Int.reduceLT, UInt8.reduceLT, UInt8.reduceLE, UInt8.reduceToNat]
        exact retInils rfl rfl Kept.start rfl
      · by_cases hbn : b = []
        · have hg : wdGo a b r = (nmD a 7 dayT, r) := by rw [wdGo, if_neg hneg, if_pos hbn]
          rw [hg]
          refine ⟨rowV t r, st, ?_, .inr ⟨t, rfl, ht⟩, .inl rfl⟩
          refine call_of_W prog_286 ?_
          unfold F_date_weekday; dsimp only
          simp (maxSteps := 1000000) (disch := omega) only [len_row, List.length_cons, e1, i0, hcut, hday, hneg, slc_row, hbn, W_seq, W_region, W_cond, W_block, W_skip, W_label, W_exit, W_goto, W_ret, WO_cons, WO_consG, WO_nil, wantedA_eq, wantB, evOp, ev_tmp, ev_const, ev_fn, WN_some, WN_none, updO_some, updO_none, upd_eq,
 ↓reduceIte, Nat.reduceEqDiff, List.nil_append, List.cons_append, List.append_nil, List.map_cons, List.map_nil, env0_zero, env0_succ, env0_nil, Option.map_some, Option.map_none, seqQ_normal, seqQ_ret, seqQ_exit, seqQ_goto, blockQ_normal, blockQ_ret, blockQ_exit, blockQ_goto, condW_bool, loopQ_ret, loopQ_exit, loopQ_goto, endQ_ret, endQ_normal, keep_mk, keep_st,
 lss_i, leq_i, gtr_i, geq_i, eql_i, neq_i, eql_8, neq_8, lss_8, leq_8, gtr_8, geq_8, eql_s, neq_s, eql_b, neq_b, not_b, by_bys, by_nils, load_cp1, beq_true, beq_false, Bool.not_eq_true', decide_eq_true_eq, decide_eq_false_iff_not, decide_true, decide_false,
 Int.toNat_natCast, Int.ofNat_lt, Int.ofNat_le, Int.natCast_inj, Bool.false_eq_true, Bool.true_eq_false, extPV, List.getElem?_cons_zero, List.getElem?_cons_succ, nilckPV, Int.reduceToNat, Int.reduceLE, true_and, and_true, reduceCtorEq, or_false, false_or, or_true, Option.some.injEq, exists_eq_left', Bool.not_true, Bool.not_false, ne_eq, Int.reduceEq, not_true_eq_false, not_false_eq_true, Int.reduceLT, UInt8.reduceLT, UInt8.reduceLE, UInt8.reduceToNat]
          exact retIrow rfl rfl Kept.start ht rfl
        · have hg : wdGo a b r = (nmD a 7 dayT, b :: r) := by rw [wdGo, if_neg hneg, if_neg hbn]
          rw [hg]
          refine ⟨rowV (.own st.toks.length) (b :: r), st.tok1, ?_, .inr ⟨_, rfl, fun i hi => by cases hi; simp [St.tok1]⟩, .inr rfl⟩
          refine call_of_W prog_286 ?_
          unfold F_date_weekday; dsimp only
          obtain ⟨i, T, q1, q2, q3⟩ := app_row (s := ⟨st.boxes, st.toks, st.loops, st.boxes.length⟩) (w := b) (t := t) (l := r) (by unfold room; omega)
          simp only [St.tok1] at q1
          simp (maxSteps := 1000000) (disch := omega) only [len_row, List.length_cons, e1, i0, hcut, hday, hneg, slc_row, hbn, lit_s, freshT, q1, W_seq, W_region, W_cond, W_block, W_skip, W_label, W_exit, W_goto, W_ret, WO_cons, WO_consG, WO_nil, wantedA_eq, wantB, evOp, ev_tmp, ev_const, ev_fn, WN_some, WN_none, updO_some, updO_none, upd_eq,
 ↓reduceIte, Nat.reduceEqDiff, List.nil_append, List.cons_append, List.append_nil, List.map_cons, List.map_nil, env0_zero, env0_succ, env0_nil, Option.map_some, Option.map_none, seqQ_normal, seqQ_ret, seqQ_exit, seqQ_goto, blockQ_normal, blockQ_ret, blockQ_exit, blockQ_goto, condW_bool, loopQ_ret, loopQ_exit, loopQ_goto, endQ_ret, endQ_normal, keep_mk, keep_st,
 lss_i, leq_i, gtr_i, geq_i, eql_i, neq_i, eql_8, neq_8, lss_8, leq_8, gtr_8, geq_8, eql_s, neq_s, eql_b, neq_b, not_b, by_bys, by_nils, load_cp1, beq_true, beq_false, Bool.not_eq_true', decide_eq_true_eq, decide_eq_false_iff_not, decide_true, decide_false,
 Int.toNat_natCast, Int.ofNat_lt, Int.ofNat_le, Int.natCast_inj, Bool.false_eq_true, Bool.true_eq_false, extPV, List.getElem?_cons_zero, List.getElem?_cons_succ, nilckPV, Int.reduceToNat, Int.reduceLE, true_and, and_true, reduceCtorEq, or_false, false_or, or_true, Option.some.injEq, exists_eq_left', Bool.not_true, Bool.not_false, ne_eq, Int.reduceEq, not_true_eq_false, not_false_eq_true, Int.reduceLT, UInt8.reduceLT, UInt8.reduceLE, UInt8.reduceToNat]
          exact retIown rfl rfl Kept.start.toks q2 q3 rfl
    · rw [cut_miss hc] at hcut
      match r, hl, hn with
      | [], hl, hn =>
        have hD : wdD [w] = (-1, [w]) := by unfold wdD; dsimp only; rw [if_neg hc]
        rw [hD]
        refine ⟨rowV t [w], st, ?_, .inr ⟨t, rfl, ht⟩, .inl rfl⟩
        refine call_of_W prog_286 ?_
        unfold F_date_weekday; dsimp only
        have e2 : ¬ ((1 : Int) < (([w].length : Nat) : Int)) := by simp
        have e3 : ¬ ((([w].length : Nat) : Int) = 0) := by simp
        simp (maxSteps := 1000000) (disch := omega) only [len_row, e2, e3, i0, hcut, W_seq, W_region, W_cond, W_block, W_skip, W_label, W_exit, W_goto, W_ret, WO_cons, WO_consG, WO_nil, wantedA_eq, wantB, evOp, ev_tmp, ev_const, ev_fn, WN_some, WN_none, updO_some, updO_none, upd_eq,
 ↓reduceIte, Nat.reduceEqDiff, List.nil_append, List.cons_append, List.append_nil, List.map_cons, List.map_nil, env0_zero, env0_succ, env0_nil, Option.map_some, Option.map_none, seqQ_normal, seqQ_ret, seqQ_exit, seqQ_goto, blockQ_normal, blockQ_ret, blockQ_exit, blockQ_goto, condW_bool, loopQ_ret, loopQ_exit, loopQ_goto, endQ_ret, endQ_normal, keep_mk, keep_st,
 lss_i, leq_i, gtr_i, geq_i, eql_i, neq_i, eql_8, neq_8, lss_8, leq_8, gtr_8, geq_8, eql_s, neq_s, eql_b, neq_b, not_b, by_bys, by_nils, load_cp1, beq_true, beq_false, Bool.not_eq_true', decide_eq_true_eq, decide_eq_false_iff_not, decide_true, decide_false,
 Int.toNat_natCast, Int.ofNat_lt, Int.ofNat_le, Int.natCast_inj, Bool.false_eq_true, Bool.true_eq_false, extPV, List.getElem?_cons_zero, List.getElem?_cons_succ, nilckPV, Int.reduceToNat, Int.reduceLE, true_and, and_true, reduceCtorEq, or_false, false_or, or_true, Option.some.injEq, exists_eq_left', Bool.not_true, Bool.not_false, ne_eq, Int.reduceEq, not_true_eq_false, not_false_eq_true, Int.reduceLT, UInt8.reduceLT, UInt8.reduceLE, UInt8.reduceToNat]
        exact retIrow rfl rfl Kept.start ht rfl
      | v :: r', hl, hn =>
        have hlv := hl v (by simp)
        have e2 : (1 : Int) < (((w :: v :: r').length : Nat) : Int) := by simp; omega
        have e3 : ¬ ((((w :: v :: r').length : Nat) : Int) = 0) := by simp; omega
        have i1 : iaddrPV 1 (rowV t (w :: v :: r')) (.int .i64 1) = some (.cp [.str v]) := iaddr_t rowV_vs (by omega) (by simp)
        have hpre : ∀ S : St, call prog (.fn 72 []) [.str v, .str [44]] S = some (.bool (decide (v.head? = some 44)), S) := fun S => by rw [sHasPrefix_spec, pre44]
        by_cases hv : v.head? = some 44
        · obtain ⟨b, hb⟩ : ∃ b, b = v.drop 1 := ⟨_, rfl⟩
          have hs : slcPV 0 (.str v) (some (.int .i64 1)) none none = some (.str b) := by
            rw [slc_s_lo (by omega) (by cases v with | nil => simp at hv | cons c v => simp)]; rw [hb]; rfl
          have hday := fun S : St => day_spec (st := S) hlw
          have hD : wdD (w :: v :: r') = wdGo w b r' := by unfold wdD; dsimp only; rw [if_neg hc, if_pos hv, hb]
          rw [hD]
          have hn' : r'.length ≤ 1000000 := by simp only [List.length_cons] at hn; omega
          by_cases hneg : nmD w 7 dayT < 0
          · have hg : wdGo w b r' = (-2, []) := by rw [wdGo, if_pos hneg]
            rw [hg]
            refine ⟨.nils, st, ?_, .inl ⟨rfl, rfl⟩, .inl rfl⟩
            refine call_of_W prog_286 ?_
            unfold F_date_weekday; dsimp only
            simp (maxSteps := 1000000) (disch := omega) only [len_row, e2, e3, i0, i1, hcut, hpre, eq_true hv, hs, slc_row, hday, hneg, W_seq, W_region, W_cond, W_block, W_skip, W_label, W_exit, W_goto, W_ret, WO_cons, WO_consG, WO_nil, wantedA_eq, wantB, evOp, ev_tmp, ev_const, ev_fn, WN_some, WN_none, updO_some, updO_none, upd_eq,
 ↓reduceIte, Nat.reduceEqDiff, List.nil_append, List.cons_append, List.append_nil, List.map_cons, List.map_nil, env0_zero, env0_succ, env0_nil, Option.map_some, Option.map_none, seqQ_normal, seqQ_ret, seqQ_exit, seqQ_goto, blockQ_normal, blockQ_ret, blockQ_exit, blockQ_goto, condW_bool, loopQ_ret, loopQ_exit, loopQ_goto, endQ_ret, endQ_normal, keep_mk, keep_st,
 lss_i, leq_i, gtr_i, geq_i, eql_i, neq_i, eql_8, neq_8, lss_8, leq_8, gtr_8, geq_8, eql_s, neq_s, eql_b, neq_b, not_b, by_bys, by_nils, load_cp1, beq_true, beq_false, Bool.not_eq_true', decide_eq_true_eq, decide_eq_false_iff_not, decide_true, decide_false,
 Int.toNat_natCast, Int.ofNat_lt, Int.ofNat_le, Int.natCast_inj, Bool.false_eq_true, Bool.true_eq_false, extPV, List.getElem?_cons_zero, List.getElem?_cons_succ, nilckPV, Int.reduceToNat, Int.reduceLE, true_and, and_true, reduceCtorEq, or_false, false_or, or_true, Option.some.injEq, exists_eq_left', Bool.not_true, Bool.not_false, ne_eq, Int.reduceEq, not_true_eq_false, not_false_eq_true, Int.reduceLT, UInt8.reduceLT, UInt8.reduceLE, UInt8.reduceToNat]
            exact retInils rfl rfl Kept.start rfl
          · by_cases hbn : b = []
            · have hg : wdGo w b r' = (nmD w 7 dayT, r') := by rw [wdGo, if_neg hneg, if_pos hbn]
              rw [hg]
              refine ⟨rowV t r', st, ?_, .inr ⟨t, rfl, ht⟩, .inl rfl⟩
              refine call_of_W prog_286 ?_
              unfold F_date_weekday; dsimp only
              simp (maxSteps := 1000000) (disch := omega) only [len_row, e2, e3, i0, i1, hcut, hpre, eq_true hv, hs, slc_row, hday, hneg, hbn, W_seq, W_region, W_cond, W_block, W_skip, W_label, W_exit, W_goto, W_ret, WO_cons, WO_consG, WO_nil, wantedA_eq, wantB, evOp, ev_tmp, ev_const, ev_fn, WN_some, WN_none, updO_some, updO_none, upd_eq,
 ↓reduceIte, Nat.reduceEqDiff, List.nil_append, List.cons_append, List.append_nil, List.map_cons, List.map_nil, env0_zero, env0_succ, env0_nil, Option.map_some, Option.map_none, seqQ_normal, seqQ_ret, seqQ_exit, seqQ_goto, blockQ_normal, blockQ_ret, blockQ_exit, blockQ_goto, condW_bool, loopQ_ret, loopQ_exit, loopQ_goto, endQ_ret, endQ_normal, keep_mk, keep_st,
 lss_i, leq_i, gtr_i, geq_i, eql_i, neq_i, eql_8, neq_8, lss_8, leq_8, gtr_8, geq_8, eql_s, neq_s, eql_b, neq_b, not_b, by_bys, by_nils, load_cp1, beq_true, beq_false, Bool.not_eq_true', decide_eq_true_eq, decide_eq_false_iff_not, decide_true, decide_false,
 Int.toNat_natCast, Int.ofNat_lt, Int.ofNat_le, Int.natCast_inj, Bool.false_eq_true, Bool.true_eq_false, extPV, List.getElem?_cons_zero, List.getElem?_cons_succ, nilckPV, Int.reduceToNat, Int.reduceLE, true_and, and_true, reduceCtorEq, or_false, false_or, or_true, Option.some.injEq, exists_eq_left', Bool.not_true, Bool.not_false, ne_eq, Int.reduceEq, not_true_eq_false, not_false_eq_true, Int.reduceLT, UInt8.reduceLT, UInt8.reduceLE, UInt8.reduceToNat]
              exact retIrow rfl rfl Kept.start ht rfl
            · have hg : wdGo w b r' = (nmD w 7 dayT, b :: r') := by rw [wdGo, if_neg hneg, if_neg hbn]
              rw [hg]
              refine ⟨rowV (.own st.toks.length) (b :: r'), st.tok1, ?_, .inr ⟨_, rfl, fun i hi => by cases hi; simp [St.tok1]⟩, .inr rfl⟩
              refine call_of_W prog_286 ?_
              unfold F_date_weekday; dsimp only
              obtain ⟨i, T, q1, q2, q3⟩ := app_row (s := ⟨st.boxes, st.toks, st.loops, st.boxes.length⟩) (w := b) (t := t) (l := r') (by unfold room; omega)
              simp only [St.tok1] at q1
              simp (maxSteps := 1000000) (disch := omega) only [len_row, e2, e3, i0, i1, hcut, hpre, eq_true hv, hs, slc_row, hday, hneg, hbn, lit_s, freshT, q1, W_seq, W_region, W_cond, W_block, W_skip, W_label, W_exit, W_goto, W_ret, WO_cons, WO_consG, WO_nil, wantedA_eq, wantB, evOp, ev_tmp, ev_const, ev_fn, WN_some, WN_none, updO_some, updO_none, upd_eq,
 ↓reduceIte, Nat.reduceEqDiff, List.nil_append, List.cons_append, List.append_nil, List.map_cons, List.map_nil, env0_zero, env0_succ, env0_nil, Option.map_some, Option.map_none, seqQ_normal, seqQ_ret, seqQ_exit, seqQ_goto, blockQ_normal, blockQ_ret, blockQ_exit, blockQ_goto, condW_bool, loopQ_ret, loopQ_exit, loopQ_goto, endQ_ret, endQ_normal, keep_mk, keep_st,
 lss_i, leq_i, gtr_i, geq_i, eql_i, neq_i, eql_8, neq_8, lss_8, leq_8, gtr_8, geq_8, eql_s, neq_s, eql_b, neq_b, not_b, by_bys, by_nils, load_cp1, beq_true, beq_false, Bool.not_eq_true', decide_eq_true_eq, decide_eq_false_iff_not, decide_true, decide_false,
 Int.toNat_natCast, Int.ofNat_lt, Int.ofNat_le, Int.natCast_inj, Bool.false_eq_true, Bool.true_eq_false, extPV, List.getElem?_cons_zero, List.getElem?_cons_succ, nilckPV, Int.reduceToNat, Int.reduceLE, true_and, and_true, reduceCtorEq, or_false, false_or, or_true, Option.some.injEq, exists_eq_left', Bool.not_true, Bool.not_false, ne_eq, Int.reduceEq, not_true_eq_false, not_false_eq_true, Int.reduceLT, UInt8.reduceLT, UInt8.reduceLE, UInt8.reduceToNat]
              exact retIown rfl rfl Kept.start.toks q2 q3 rfl
        · have hD : wdD (w :: v :: r') = (-1, w :: v :: r') := by unfold wdD; dsimp only; rw [if_neg hc, if_neg hv]
          rw [hD]
          refine ⟨rowV t (w :: v :: r'), st, ?_, .inr ⟨t, rfl, ht⟩, .inl rfl⟩
          refine call_of_W prog_286 ?_
          unfold F_date_weekday; dsimp only
          simp (maxSteps := 1000000) (disch := omega) only [len_row, e2, e3, i0, i1, hcut, hpre, eq_false hv, W_seq, W_region, W_cond, W_block, W_skip, W_label, W_exit, W_goto, W_ret, WO_cons, WO_consG, WO_nil, wantedA_eq, wantB, evOp, ev_tmp, ev_const, ev_fn, WN_some, WN_none, updO_some, updO_none, upd_eq,
 ↓reduceIte, Nat.reduceEqDiff, List.nil_append, List.cons_append, List.append_nil, List.map_cons, List.map_nil, env0_zero, env0_succ, env0_nil, Option.map_some, Option.map_none, seqQ_normal, seqQ_ret, seqQ_exit, seqQ_goto, blockQ_normal, blockQ_ret, blockQ_exit, blockQ_goto, condW_bool, loopQ_ret, loopQ_exit, loopQ_goto, endQ_ret, endQ_normal, keep_mk, keep_st,
 lss_i, leq_i, gtr_i, geq_i, eql_i, neq_i, eql_8, neq_8, lss_8, leq_8, gtr_8, geq_8, eql_s, neq_s, eql_b, neq_b, not_b, by_bys, by_nils, load_cp1, beq_true, beq_false, Bool.not_eq_true', decide_eq_true_eq, decide_eq_false_iff_not, decide_true, decide_false,
 Int.toNat_natCast, Int.ofNat_lt, Int.ofNat_le, Int.natCast_inj, Bool.false_eq_true, Bool.true_eq_false, extPV, List.getElem?_cons_zero, List.getElem?_cons_succ, nilckPV, Int.reduceToNat, Int.reduceLE, true_and, and_true, reduceCtorEq, or_false, false_or, or_true, Option.some.injEq, exists_eq_left', Bool.not_true, Bool.not_false, ne_eq, Int.reduceEq, not_true_eq_false, not_false_eq_true, Int.reduceLT, UInt8.reduceLT, UInt8.reduceLE, UInt8.reduceToNat]
          exact retIrow rfl rfl Kept.start ht rfl
end Go.Ab

/-
  Dates are read: the whole, walked.
-/
namespace Go.Ab
set_option linter.unusedVariables false
set_option linter.unusedSimpArgs false
set_option maxRecDepth 20000
variable {st s : St} {e : Env}

theorem bareD_len : ∀ (n : Nat) (s : Bs), (bareD n s).length ≤ s.length := by
  intro n
  induction n with
  | zero => intro s; simp [bareD]
  | succ n ih =>
    intro s
    rw [bareD]
    by_cases h1 : Lib.index s [40] < 0
    · rw [if_pos h1]; exact Nat.le_refl _
    · rw [if_neg h1]
      have r1 := index_room' s [40] (by omega)
      simp only [List.length_cons, List.length_nil] at r1
      by_cases h2 : Lib.index (s.drop ((Lib.index s [40]).toNat + 1)) [41] < 0
      · rw [if_pos h2]; simp; omega
      · rw [if_neg h2]
        have r2 := index_room' (s.drop ((Lib.index s [40]).toNat + 1)) [41] (by omega)
        simp only [List.length_cons, List.length_nil, List.length_drop] at r2
        have := ih ((s.drop ((Lib.index s [40]).toNat + 1)).drop ((Lib.index (s.drop ((Lib.index s [40]).toNat + 1)) [41]).toNat + 1))
        simp only [List.length_drop, List.length_append, List.length_take, List.length_cons] at this ⊢
        omega
theorem words_len : ∀ (s acc : Bs), (∀ w ∈ wordsG s acc, w.length ≤ acc.length + s.length) ∧ (wordsG s acc).length ≤ s.length + 1
  | [], acc => by
    rw [wordsG]
    split
    · simp
    · simp
  | c :: s, acc => by
    rw [wordsG]
    have i0 := words_len s []
    have i1 := words_len s (acc ++ [c])
    simp only [List.length_nil, Nat.zero_add, List.length_append, List.length_cons] at i0 i1 ⊢
    split
    · split
      · exact ⟨fun w hw => by have := i0.1 w hw; omega, by omega⟩
      · refine ⟨fun w hw => ?_, by simp; omega⟩
        rcases List.mem_cons.1 hw with rfl | hw
        · omega
        · have := i0.1 w hw; omega
    · exact ⟨fun w hw => by have := i1.1 w hw; omega, by omega⟩
theorem wdGo_len {a b : Bs} {r : List Bs} {n : Nat} (hb : b.length ≤ n) (hr : ∀ w ∈ r, w.length ≤ n) : (∀ w ∈ (wdGo a b r).2, w.length ≤ n) ∧ (wdGo a b r).2.length ≤ r.length + 1 := by
  unfold wdGo
  split
  · simp
  · split
    · exact ⟨hr, by simp⟩
    · refine ⟨fun w hw => ?_, by simp⟩
      rcases List.mem_cons.1 hw with rfl | hw
      · exact hb
      · exact hr w hw
theorem wd_len {l : List Bs} {n : Nat} (h : ∀ w ∈ l, w.length ≤ n) : (∀ w ∈ (wdD l).2, w.length ≤ n) ∧ (wdD l).2.length ≤ l.length := by
  match l, h with
  | [], _ => simp [wdD]
  | w :: r, h =>
    have hw := h w (by simp)
    have hr : ∀ v ∈ r, v.length ≤ n := fun v hv => h v (by simp [hv])
    unfold wdD
    dsimp only
    split
    · have := wdGo_len (a := w.take (Lib.index w [44]).toNat) (b := w.drop ((Lib.index w [44]).toNat + 1)) (n := n) (by simp; omega) hr
      exact ⟨this.1, by simpa using this.2⟩
    · cases r with
      | nil => exact ⟨h, Nat.le_refl _⟩
      | cons v r' =>
        dsimp only
        split
        · have := wdGo_len (a := w) (b := v.drop 1) (r := r') (n := n) (by have := hr v (by simp); simp; omega) (fun x hx => hr x (by simp [hx]))
          exact ⟨this.1, Nat.le_trans this.2 (by simp)⟩
        · exact ⟨h, Nat.le_refl _⟩
theorem days_bound (y m d : Int) : 0 ≤ (daysD y m d).1 ∧ (daysD y m d).1 ≤ 2932896 := by
  unfold daysD
  split
  · rename_i h
    have hci : Ci (befY y.toNat + cumY y.toNat m.toNat + d.toNat - 1) y.toNat m.toNat d.toNat := ⟨by omega, by omega, by omega, by omega, by omega, by omega, by omega⟩
    have := ci_le hci
    simp only
    omega
  · simp
theorem clk_bound (s : Bs) : -1 ≤ clkD s ∧ clkD s < 86400 := by
  unfold clkD
  split
  · omega
  · unfold hmsD
    split
    · omega
    · omega
theorem zone_bound (s : Bs) : -100000000 ≤ (zoneD s).1 ∧ (zoneD s).1 ≤ 100000000 := by
  unfold zoneD
  split
  · rename_i q hq
    have hm := List.mem_of_find?_eq_some hq
    have : ∀ q ∈ zoneTab, (-100000 : Int) ≤ q.2 ∧ q.2 ≤ 100000 := by decide
    have := this q hm
    simp only; omega
  · unfold zoneN
    split
    · simp
    · have h1 := digD_bound (s := (s.take 3).drop 1) (a := 2) (b := 2) (by omega)
      have h2 := digD_bound (s := s.drop 3) (a := 2) (b := 2) (by omega)
      simp only
      split <;> omega

/-- The state while words are gathered. -/
def dst (st : St) (d : PV) (B : Bs) (ts : List Bool) (lo : Nat) (rc : List LoopS) : St := ⟨st.boxes ++ [[d], [.str B]], st.toks ++ ts, st.loops ++ rc, lo⟩
variable {d d' : PV} {B : Bs} {ts : List Bool} {lo : Nat} {rc : List LoopS}
theorem dst_ld : loadPV (dst st d B ts lo rc) false 1 (.ptr st.boxes.length 0) = some d := by simp [loadPV, dst, readCells]
theorem dst_st (h1 : d'.cells = [d']) (h2 : leafOk d' = true) (h3 : ∀ n, d'.inB n = true) : storePV (dst st d B ts lo rc) 1 (.ptr st.boxes.length 0) d' = some (dst st d' B ts (if hasTok [d'] then min lo st.boxes.length else lo) rc) := by
  simp [storePV, dst, h1, h2, h3, setCells]
theorem lc1 {v : PV} : loadcPV false 1 (.cp [v]) = some v := rfl
theorem kept_dst : Kept st (dst st d B ts st.boxes.length []) := ⟨by simp [dst], by simp [dst], by simp [dst], by simp [dst]⟩
theorem retIII {a b c : Nat} {t u v t' u' v' : Int} (ha : e a = .int .i64 t) (hb : e b = .int .i64 u) (hc : e c = .int .i64 v) (hk : Kept st s) (h1 : t = t') (h2 : u = u') (h3 : v = v') :
    ∃ rv, resOf e s [.tmp a, .tmp b, .tmp c] = some rv ∧ leave st s rv = (.tup [.int .i64 t', .int .i64 u', .int .i64 v'], st) := by
  subst h1 h2 h3
  exact ⟨.tup [.int .i64 t, .int .i64 u, .int .i64 v], by simp [resOf, rvAll, rv1, ha, hb, hc, packRes, notTup], hk.leave' ⟨fun _ => rfl, fun _ _ => rfl⟩⟩
theorem tok_row {t : Tok} {l : List Bs} : (rowV t l).cells = [rowV t l] ∧ leafOk (rowV t l) = true ∧ ∀ n, (rowV t l).inB n = true := ⟨rfl, rfl, fun _ => rfl⟩

theorem weekday_nil : call prog (.fn 286 []) [.nils] st = some (.tup [.int .i64 (-2), .nils], st) := by
  refine call_of_W prog_286 ?_
  unfold F_date_weekday; dsimp only
  have ln : lenPV false .nils = some (.int .i64 0) := rfl
  simp (maxSteps := 1000000) (disch := omega) only [ln, W_seq, W_region, W_cond, W_block, W_skip, W_label, W_exit, W_goto, W_ret, WO_cons, WO_consG, WO_nil, wantedA_eq, wantB, evOp, ev_tmp, ev_const, ev_fn, WN_some, WN_none, updO_some, updO_none, upd_eq,
 ↓reduceIte, Nat.reduceEqDiff, List.nil_append, List.cons_append, List.append_nil, List.map_cons, List.map_nil, env0_zero, env0_succ, env0_nil, Option.map_some, Option.map_none, seqQ_normal, seqQ_ret, seqQ_exit, seqQ_goto, blockQ_normal, blockQ_ret, blockQ_exit, blockQ_goto, condW_bool, loopQ_ret, loopQ_exit, loopQ_goto, endQ_ret, endQ_normal, keep_mk, keep_st,
 lss_i, leq_i, gtr_i, geq_i, eql_i, neq_i, eql_8, neq_8, lss_8, leq_8, gtr_8, geq_8, eql_s, neq_s, eql_b, neq_b, not_b, by_bys, by_nils, load_cp1, beq_true, beq_false, Bool.not_eq_true', decide_eq_true_eq, decide_eq_false_iff_not, decide_true, decide_false,
 Int.toNat_natCast, Int.ofNat_lt, Int.ofNat_le, Int.natCast_inj, Bool.false_eq_true, Bool.true_eq_false, extPV, List.getElem?_cons_zero, List.getElem?_cons_succ, nilckPV, Int.reduceToNat, Int.reduceLE, true_and, and_true, reduceCtorEq, or_false, false_or, or_true, Option.some.injEq, exists_eq_left', Bool.not_true, Bool.not_false, ne_eq, Int.reduceEq, not_true_eq_false, not_false_eq_true, Int.reduceLT, UInt8.reduceLT, UInt8.reduceLE, UInt8.reduceToNat]
  exact retInils rfl rfl Kept.start rfl

set_option maxHeartbeats 8000000 in
theorem dParse_spec {l : Bs} (hl : l.length ≤ 100000) : call prog (.fn 262 []) [.str l] st = some (.tup [.int .i64 (parseD l).1, .int .i64 (parseD l).2.1, .int .i64 (parseD l).2.2], st) := by
  refine call_of_W prog_262 ?_
  unfold F_date_Parse; dsimp only
  obtain ⟨B, hB⟩ : ∃ B, B = bareT l := ⟨_, rfl⟩
  have hBl : B.length ≤ 100000 := by rw [hB]; exact Nat.le_trans (bareD_len _ _) hl
  obtain ⟨W, hW⟩ : ∃ W, W = wordsG B [] := ⟨_, rfl⟩
  have hWl := words_len B []
  rw [← hW] at hWl
  simp only [List.length_nil, Nat.zero_add] at hWl
  have hbare := fun S : St => bare_spec (st := S) (s := l) (by omega)
  rw [← hB] at hbare
  simp (maxSteps := 1000000) (disch := omega) only [allocPV, hbare, words_spec, List.length_append, List.length_cons, List.length_nil, Nat.zero_add, List.append_assoc, W_seq, W_region, W_cond, W_block, W_skip, W_label, W_exit, W_goto, W_ret, WO_cons, WO_consG, WO_nil, wantedA_eq, wantB, evOp, ev_tmp, ev_const, ev_fn, WN_some, WN_none, updO_some, updO_none, upd_eq,
 ↓reduceIte, Nat.reduceEqDiff, List.nil_append, List.cons_append, List.append_nil, List.map_cons, List.map_nil, env0_zero, env0_succ, env0_nil, Option.map_some, Option.map_none, seqQ_normal, seqQ_ret, seqQ_exit, seqQ_goto, blockQ_normal, blockQ_ret, blockQ_exit, blockQ_goto, condW_bool, loopQ_ret, loopQ_exit, loopQ_goto, endQ_ret, endQ_normal, keep_mk, keep_st,
 lss_i, leq_i, gtr_i, geq_i, eql_i, neq_i, eql_8, neq_8, lss_8, leq_8, gtr_8, geq_8, eql_s, neq_s, eql_b, neq_b, not_b, by_bys, by_nils, load_cp1, beq_true, beq_false, Bool.not_eq_true', decide_eq_true_eq, decide_eq_false_iff_not, decide_true, decide_false,
 Int.toNat_natCast, Int.ofNat_lt, Int.ofNat_le, Int.natCast_inj, Bool.false_eq_true, Bool.true_eq_false, extPV, List.getElem?_cons_zero, List.getElem?_cons_succ, nilckPV, Int.reduceToNat, Int.reduceLE, true_and, and_true, reduceCtorEq, or_false, false_or, or_true, Option.some.injEq, exists_eq_left', Bool.not_true, Bool.not_false, ne_eq, Int.reduceEq, not_true_eq_false, not_false_eq_true, Int.reduceLT, UInt8.reduceLT, UInt8.reduceLE, UInt8.reduceToNat]
  refine W_rangeFunc (fid := 310) (caps := [.ptr (st.boxes.length + 1) 0]) rfl prog_310 ?_
  generalize hrec : recOf _ _ _ _ = rec
  have hra := congrArg LoopS.assign hrec.symm
  have hrb := congrArg LoopS.body hrec.symm
  dsimp only [recOf] at hra hrb
  have r0 : rec.status = 0 := by rw [← hrec]; rfl
  have r1 : rec.pend = .normal := by rw [← hrec]; rfl
  have r2 : rec.params = [23] := by rw [← hrec]; rfl
  have r3 : rec.env 5 = .ptr st.boxes.length 0 := by rw [← hrec]; rfl
  have r5 : rec = { rec with status := 0, pend := .normal } := by rw [← hrec]; rfl
  obtain ⟨P, hP⟩ : ∃ P : List Bs → St → Prop, P = fun r s => ∃ ts d lo xs, s = dst st d B ts lo [rec] ∧ W = xs ++ r ∧ (d = .nils ∧ xs = [] ∨ ∃ i, d = rowV (.own i) xs ∧ st.toks.length ≤ i ∧ (st.toks ++ ts)[i]? = some true ∧ lo ≤ st.boxes.length) ∧ st.boxes.length ≤ lo := ⟨_, rfl⟩
  have hasg : ∀ (v : PV) (S : St), ex prog rec.assign (updAll rec.env rec.params [v]) S = some (.normal, upd (upd rec.env 23 v) 6 v, S) := fun v S => by
    refine ex_of_W ?_
    simp (maxSteps := 1000000) (disch := omega) only [hra, r2, updAll, W_seq, W_region, W_cond, W_block, W_skip, W_label, W_exit, W_goto, W_ret, WO_cons, WO_consG, WO_nil, wantedA_eq, wantB, evOp, ev_tmp, ev_const, ev_fn, WN_some, WN_none, updO_some, updO_none, upd_eq,
 ↓reduceIte, Nat.reduceEqDiff, List.nil_append, List.cons_append, List.append_nil, List.map_cons, List.map_nil, env0_zero, env0_succ, env0_nil, Option.map_some, Option.map_none, seqQ_normal, seqQ_ret, seqQ_exit, seqQ_goto, blockQ_normal, blockQ_ret, blockQ_exit, blockQ_goto, condW_bool, loopQ_ret, loopQ_exit, loopQ_goto, endQ_ret, endQ_normal, keep_mk, keep_st,
 lss_i, leq_i, gtr_i, geq_i, eql_i, neq_i, eql_8, neq_8, lss_8, leq_8, gtr_8, geq_8, eql_s, neq_s, eql_b, neq_b, not_b, by_bys, by_nils, load_cp1, beq_true, beq_false, Bool.not_eq_true', decide_eq_true_eq, decide_eq_false_iff_not, decide_true, decide_false,
 Int.toNat_natCast, Int.ofNat_lt, Int.ofNat_le, Int.natCast_inj, Bool.false_eq_true, Bool.true_eq_false, extPV, List.getElem?_cons_zero, List.getElem?_cons_succ, nilckPV, Int.reduceToNat, Int.reduceLE, true_and, and_true, reduceCtorEq, or_false, false_or, or_true, Option.some.injEq, exists_eq_left', Bool.not_true, Bool.not_false, ne_eq, Int.reduceEq, not_true_eq_false, not_false_eq_true, Int.reduceLT, UInt8.reduceLT, UInt8.reduceLE, UInt8.reduceToNat]
  obtain ⟨s1, hs1, hcall⟩ := words_iter (st := ⟨st.boxes ++ [[.nils], [.str B]], st.toks, st.loops ++ [rec], min st.boxes.length (st.boxes.length + 1)⟩) (l := B) (by omega) (b := st.boxes.length + 1) (k := st.loops.length) (P := P) (D := P [])
    (fun r s h => by rw [hP] at h; obtain ⟨ts, d, lo, xs, rfl, _⟩ := h; simp [dst])
    (fun w r s h => by
      rw [hP] at h
      obtain ⟨ts, d, lo, xs, rfl, h1, h2, h3⟩ := h
      have hxl : xs.length + 1 ≤ 100001 := by
        have := congrArg List.length h1
        have := hWl.2
        simp at *; omega
      have key : ∃ b s', call prog (.yld st.loops.length) [.str w] (dst st d B ts lo [rec]) = some (.bool b, s') ∧ (b = true ∧ P r s') := by
        refine yld_of_W (r := rec) (K := fun b s' => b = true ∧ P r s') (args := [.str w]) (by simp [dst]) r0 (by rw [r2]; rfl) (hasg _ _) ?_
        obtain ⟨rec1, hrec1⟩ : ∃ r, r = ({ rec with status := 1 } : LoopS) := ⟨_, rfl⟩
        have hset : ({ dst st d B ts lo [rec] with loops := (dst st d B ts lo [rec]).loops.set st.loops.length { rec with status := 1 } } : St) = dst st d B ts lo [rec1] := by
          rw [← hrec1]; simp [dst]
        rw [hset, hrb]
        -- the word behind the row
        obtain ⟨i, ts', ha, hi1, hi2⟩ : ∃ i ts', appV 1 ⟨(dst st d B ts lo [rec1]).boxes, (dst st d B ts lo [rec1]).toks ++ [true], (dst st d B ts lo [rec1]).loops, (dst st d B ts lo [rec1]).low⟩ d (.sl 1 (.own (st.toks ++ ts).length) [.str w]) = some (rowV (.own i) (xs ++ [w]), dst st d B ts' lo [rec1]) ∧ st.toks.length ≤ i ∧ (st.toks ++ ts')[i]? = some true := by
          rcases h2 with ⟨rfl, rfl⟩ | ⟨i, rfl, hi1, hi2, hi3⟩
          · refine ⟨st.toks.length + (ts.length + 1), ts ++ [true, true], ?_, by omega, by rw [get_app, get_app]; rfl⟩
            simp [appV, srcV, freshT, dst, rowV, room]
          · have hlt : i < (st.toks ++ ts).length := (List.getElem?_eq_some_iff.1 hi2).1
            have hg : (st.toks ++ ts ++ [true])[i]? = some true := by rw [List.getElem?_append_left hlt]; exact hi2
            refine ⟨st.toks.length + (ts.length + 1), (ts ++ [true]).set (i - st.toks.length) false ++ [true], ?_, by omega, ?_⟩
            · have hs : (st.toks ++ (ts ++ [true])).set i false = st.toks ++ (ts ++ [true]).set (i - st.toks.length) false := by
                rw [List.set_append_right _ _ hi1]
              have hr : xs.length + 1 ≤ room := by unfold room; omega
              have hg2 : (st.toks ++ (ts ++ [true]))[i]? = some true := by rw [← List.append_assoc]; exact hg
              simp [appV, srcV, rowV, appTok, freshT, dst, hg2, hs, hr, List.append_assoc]
            · have hsl : ((ts ++ [true]).set (i - st.toks.length) false).length = ts.length + 1 := by simp
              rw [get_app, ← hsl]
              exact get_app0
        have hlo : min lo st.boxes.length = st.boxes.length := by omega
        have hst : storePV (dst st d B ts' lo [rec1]) 1 (.ptr st.boxes.length 0) (rowV (.own i) (xs ++ [w])) = some (dst st (rowV (.own i) (xs ++ [w])) B ts' st.boxes.length [rec1]) := by
          rw [dst_st tok_row.1 tok_row.2.1 tok_row.2.2]
          simp [hasTok, rowV, tokOf, hlo]
        have htl : (dst st d B ts lo [rec1]).toks.length = (st.toks ++ ts).length := rfl
        simp (maxSteps := 1000000) (disch := omega) only [r3, dst_ld, lit_s, freshT, htl, ha, hst, W_seq, W_region, W_cond, W_block, W_skip, W_label, W_exit, W_goto, W_ret, WO_cons, WO_consG, WO_nil, wantedA_eq, wantB, evOp, ev_tmp, ev_const, ev_fn, WN_some, WN_none, updO_some, updO_none, upd_eq,
 ↓reduceIte, Nat.reduceEqDiff, List.nil_append, List.cons_append, List.append_nil, List.map_cons, List.map_nil, env0_zero, env0_succ, env0_nil, Option.map_some, Option.map_none, seqQ_normal, seqQ_ret, seqQ_exit, seqQ_goto, blockQ_normal, blockQ_ret, blockQ_exit, blockQ_goto, condW_bool, loopQ_ret, loopQ_exit, loopQ_goto, endQ_ret, endQ_normal, keep_mk, keep_st,
 lss_i, leq_i, gtr_i, geq_i, eql_i, neq_i, eql_8, neq_8, lss_8, leq_8, gtr_8, geq_8, eql_s, neq_s, eql_b, neq_b, not_b, by_bys, by_nils, load_cp1, beq_true, beq_false, Bool.not_eq_true', decide_eq_true_eq, decide_eq_false_iff_not, decide_true, decide_false,
 Int.toNat_natCast, Int.ofNat_lt, Int.ofNat_le, Int.natCast_inj, Bool.false_eq_true, Bool.true_eq_false, extPV, List.getElem?_cons_zero, List.getElem?_cons_succ, nilckPV, Int.reduceToNat, Int.reduceLE, true_and, and_true, reduceCtorEq, or_false, false_or, or_true, Option.some.injEq, exists_eq_left', Bool.not_true, Bool.not_false, ne_eq, Int.reduceEq, not_true_eq_false, not_false_eq_true, Int.reduceLT, UInt8.reduceLT, UInt8.reduceLE, UInt8.reduceToNat]
        refine ⟨rec1, by simp [dst], rfl, ?_⟩
        rw [hP]
        refine ⟨ts', rowV (.own i) (xs ++ [w]), st.boxes.length, xs ++ [w], ?_, by rw [h1]; simp, .inr ⟨i, rfl, hi1, hi2, Nat.le_refl _⟩, Nat.le_refl _⟩
        simp only [dst, hrec1]
        simp
        rw [← r0, ← r1]
      obtain ⟨b, s', c1, rfl, c2⟩ := key
      exact ⟨s', c1, c2⟩)
    (fun s h => h)
    (by
      rw [hP]
      exact ⟨[], .nils, st.boxes.length + 2, [], by simp [dst], by simp [hW], .inl ⟨rfl, rfl⟩, by omega⟩)
  rw [hP] at hs1
  obtain ⟨ts, d, lo, xs, rfl, hx1, hx2, hlo⟩ := hs1
  rw [List.append_nil] at hx1
  subst hx1
  have hmin : min st.boxes.length (st.boxes.length + 1) = st.boxes.length := by omega
  rw [hmin] at hcall ⊢
  have hleave : ∃ ts2, leave ⟨st.boxes ++ [[.nils], [.str B]], st.toks, st.loops ++ [rec], st.boxes.length⟩ (dst st d B ts lo [rec]) (.tup []) = (.tup [], dst st d B ts2 st.boxes.length [rec]) ∧ (ts2 = ts ∨ (ts2 = [] ∧ st.boxes.length + 2 ≤ lo)) := by
    by_cases h6 : st.boxes.length + 2 ≤ lo
    · refine ⟨[], ?_, .inr ⟨rfl, h6⟩⟩
      simp [leave, dst, PV.inB, PV.inB.inBAll, keepRes, keepVals, h6]
      exact List.take_of_length_le (by simp)
    · refine ⟨ts, ?_, .inl rfl⟩
      have hm : min st.boxes.length lo = st.boxes.length := by omega
      simp [leave, dst, PV.inB, PV.inB.inBAll, h6, hm]
      exact List.take_of_length_le (by simp)
  obtain ⟨ts2, hleave, hts2⟩ := hleave
  rw [hleave] at hcall
  refine ⟨_, _, rec, hcall, by simp [dst], (by rw [r0]; decide), ?_⟩
  have hlp : ({ dst st d B ts2 st.boxes.length [rec] with loops := (dst st d B ts2 st.boxes.length [rec]).loops.take st.loops.length } : St) = dst st d B ts2 st.boxes.length [] := by simp [dst]
  rw [hlp, r1]
  -- the day's name
  obtain ⟨wd, hwd⟩ : ∃ wd, wd = (wdD W).1 := ⟨_, rfl⟩
  obtain ⟨L, hL⟩ : ∃ L, L = (wdD W).2 := ⟨_, rfl⟩
  have hLl := wd_len (l := W) (n := 100000) (fun w hw => by have := hWl.1 w hw; omega)
  rw [← hL] at hLl
  have hres : parseD l = lstD wd L := by unfold parseD; rw [← hB, ← hW, ← hwd, ← hL]
  rw [hres]
  have hwk : ∃ ts3 y, call prog (.fn 286 []) [d] (dst st d B ts2 st.boxes.length []) = some (.tup [.int .i64 wd, y], dst st d B ts3 st.boxes.length []) ∧ (y = .nils ∧ L = [] ∨ ∃ u, y = rowV u L) := by
    rcases hx2 with ⟨rfl, h0⟩ | ⟨i, rfl, hi1, hi2, hi3⟩
    · rw [h0] at hwd hL
      rw [hwd, hL]
      exact ⟨ts2, .nils, weekday_nil, .inl ⟨rfl, rfl⟩⟩
    · have hts : ts2 = ts := by
        rcases hts2 with h | ⟨_, h⟩
        · exact h
        · omega
      subst hts
      obtain ⟨y, s', q1, q2, q3⟩ := weekday_spec (st := dst st (rowV (.own i) W) B ts2 st.boxes.length []) (t := .own i) (l := W) (fun j hj => by cases hj; exact (List.getElem?_eq_some_iff.1 hi2).1) (fun w hw => by have := hWl.1 w hw; omega) (by omega)
      rw [← hwd] at q1
      rw [← hL] at q2
      have q2' : y = .nils ∧ L = [] ∨ ∃ u, y = rowV u L := by
        rcases q2 with h | ⟨u, h, _⟩
        · exact .inl h
        · exact .inr ⟨u, h⟩
      rcases q3 with rfl | rfl
      · exact ⟨ts2, y, q1, q2'⟩
      · exact ⟨ts2 ++ [true], y, by rw [q1]; simp [St.tok1, dst], q2'⟩
  obtain ⟨ts3, y, hwk, hy⟩ := hwk
  have hst : storePV (dst st d B ts3 st.boxes.length []) 1 (.ptr st.boxes.length 0) y = some (dst st y B ts3 st.boxes.length []) := by
    have h1 : y.cells = [y] ∧ leafOk y = true ∧ ∀ n, y.inB n = true := by
      rcases hy with ⟨rfl, _⟩ | ⟨u, rfl⟩
      · exact ⟨rfl, rfl, fun _ => rfl⟩
      · exact tok_row
    rw [dst_st h1.1 h1.2.1 h1.2.2]
    split <;> simp
  have hlen : lenPV false y = some (.int .i64 (L.length : Int)) := by
    rcases hy with ⟨rfl, rfl⟩ | ⟨u, rfl⟩
    · rfl
    · exact len_row
  have hfin : ∀ E : Env, E 2 = .int .i64 0 → E 3 = .int .i64 0 → E 4 = .int .i64 110 → lstD wd L = (0, 0, 110) → ∃ rv, resOf E (dst st y B ts3 st.boxes.length []) [.tmp 2, .tmp 3, .tmp 4] = some rv ∧ leave st (dst st y B ts3 st.boxes.length []) rv = (.tup [.int .i64 (lstD wd L).1, .int .i64 (lstD wd L).2.1, .int .i64 (lstD wd L).2.2], st) := fun E h2 h3 h4 h => by
    rw [h]
    exact retIII h2 h3 h4 kept_dst rfl rfl rfl
  by_cases c1 : wd = -2
  · have hbad : lstD wd L = (0, 0, 110) := by unfold lstD; rw [if_pos (.inl c1)]
    simp (maxSteps := 1000000) (disch := omega) only [r3, dst_ld, hwk, hst, hlen, eq_true c1, W_seq, W_region, W_cond, W_block, W_skip, W_label, W_exit, W_goto, W_ret, WO_cons, WO_consG, WO_nil, wantedA_eq, wantB, evOp, ev_tmp, ev_const, ev_fn, WN_some, WN_none, updO_some, updO_none, upd_eq,
 ↓reduceIte, Nat.reduceEqDiff, List.nil_append, List.cons_append, List.append_nil, List.map_cons, List.map_nil, env0_zero, env0_succ, env0_nil, Option.map_some, Option.map_none, seqQ_normal, seqQ_ret, seqQ_exit, seqQ_goto, blockQ_normal, blockQ_ret, blockQ_exit, blockQ_goto, condW_bool, loopQ_ret, loopQ_exit, loopQ_goto, endQ_ret, endQ_normal, keep_mk, keep_st,
 lss_i, leq_i, gtr_i, geq_i, eql_i, neq_i, eql_8, neq_8, lss_8, leq_8, gtr_8, geq_8, eql_s, neq_s, eql_b, neq_b, not_b, by_bys, by_nils, load_cp1, beq_true, beq_false, Bool.not_eq_true', decide_eq_true_eq, decide_eq_false_iff_not, decide_true, decide_false,
 Int.toNat_natCast, Int.ofNat_lt, Int.ofNat_le, Int.natCast_inj, Bool.false_eq_true, Bool.true_eq_false, extPV, List.getElem?_cons_zero, List.getElem?_cons_succ, nilckPV, Int.reduceToNat, Int.reduceLE, true_and, and_true, reduceCtorEq, or_false, false_or, or_true, Option.some.injEq, exists_eq_left', Bool.not_true, Bool.not_false, ne_eq, Int.reduceEq, not_true_eq_false, not_false_eq_true, Int.reduceLT, UInt8.reduceLT, UInt8.reduceLE, UInt8.reduceToNat]
    exact hfin _ rfl rfl rfl hbad
  by_cases c2 : L.length < 4
  · have hbad : lstD wd L = (0, 0, 110) := by unfold lstD; rw [if_pos (.inr (.inl c2))]
    have e2 : (L.length : Int) < 4 := by omega
    simp (maxSteps := 1000000) (disch := omega) only [r3, dst_ld, hwk, hst, hlen, c1, e2, W_seq, W_region, W_cond, W_block, W_skip, W_label, W_exit, W_goto, W_ret, WO_cons, WO_consG, WO_nil, wantedA_eq, wantB, evOp, ev_tmp, ev_const, ev_fn, WN_some, WN_none, updO_some, updO_none, upd_eq,
 ↓reduceIte, Nat.reduceEqDiff, List.nil_append, List.cons_append, List.append_nil, List.map_cons, List.map_nil, env0_zero, env0_succ, env0_nil, Option.map_some, Option.map_none, seqQ_normal, seqQ_ret, seqQ_exit, seqQ_goto, blockQ_normal, blockQ_ret, blockQ_exit, blockQ_goto, condW_bool, loopQ_ret, loopQ_exit, loopQ_goto, endQ_ret, endQ_normal, keep_mk, keep_st,
 lss_i, leq_i, gtr_i, geq_i, eql_i, neq_i, eql_8, neq_8, lss_8, leq_8, gtr_8, geq_8, eql_s, neq_s, eql_b, neq_b, not_b, by_bys, by_nils, load_cp1, beq_true, beq_false, Bool.not_eq_true', decide_eq_true_eq, decide_eq_false_iff_not, decide_true, decide_false,
 Int.toNat_natCast, Int.ofNat_lt, Int.ofNat_le, Int.natCast_inj, Bool.false_eq_true, Bool.true_eq_false, extPV, List.getElem?_cons_zero, List.getElem?_cons_succ, nilckPV, Int.reduceToNat, Int.reduceLE, true_and, and_true, reduceCtorEq, or_false, false_or, or_true, Option.some.injEq, exists_eq_left', Bool.not_true, Bool.not_false, ne_eq, Int.reduceEq, not_true_eq_false, not_false_eq_true, Int.reduceLT, UInt8.reduceLT, UInt8.reduceLE, UInt8.reduceToNat]
    exact hfin _ rfl rfl rfl hbad
  by_cases c3 : 5 < L.length
  · have hbad : lstD wd L = (0, 0, 110) := by unfold lstD; rw [if_pos (.inr (.inr c3))]
    have e2 : ¬ (L.length : Int) < 4 := by omega
    have e3 : (5 : Int) < (L.length : Int) := by omega
    simp (maxSteps := 1000000) (disch := omega) only [r3, dst_ld, hwk, hst, hlen, c1, e2, e3, W_seq, W_region, W_cond, W_block, W_skip, W_label, W_exit, W_goto, W_ret, WO_cons, WO_consG, WO_nil, wantedA_eq, wantB, evOp, ev_tmp, ev_const, ev_fn, WN_some, WN_none, updO_some, updO_none, upd_eq,
 ↓reduceIte, Nat.reduceEqDiff, List.nil_append, List.cons_append, List.append_nil, List.map_cons, List.map_nil, env0_zero, env0_succ, env0_nil, Option.map_some, Option.map_none, seqQ_normal, seqQ_ret, seqQ_exit, seqQ_goto, blockQ_normal, blockQ_ret, blockQ_exit, blockQ_goto, condW_bool, loopQ_ret, loopQ_exit, loopQ_goto, endQ_ret, endQ_normal, keep_mk, keep_st,
 lss_i, leq_i, gtr_i, geq_i, eql_i, neq_i, eql_8, neq_8, lss_8, leq_8, gtr_8, geq_8, eql_s, neq_s, eql_b, neq_b, not_b, by_bys, by_nils, load_cp1, beq_true, beq_false, Bool.not_eq_true', decide_eq_true_eq, decide_eq_false_iff_not, decide_true, decide_false,
 Int.toNat_natCast, Int.ofNat_lt, Int.ofNat_le, Int.natCast_inj, Bool.false_eq_true, Bool.true_eq_false, extPV, List.getElem?_cons_zero, List.getElem?_cons_succ, nilckPV, Int.reduceToNat, Int.reduceLE, true_and, and_true, reduceCtorEq, or_false, false_or, or_true, Option.some.injEq, exists_eq_left', Bool.not_true, Bool.not_false, ne_eq, Int.reduceEq, not_true_eq_false, not_false_eq_true, Int.reduceLT, UInt8.reduceLT, UInt8.reduceLE, UInt8.reduceToNat]
    exact hfin _ rfl rfl rfl hbad
  have e2 : ¬ (L.length : Int) < 4 := by omega
  have e3 : ¬ (5 : Int) < (L.length : Int) := by omega
  obtain ⟨u, rfl⟩ : ∃ u, y = rowV u L := by
    rcases hy with ⟨_, rfl⟩ | h
    · simp at c2
    · exact h
  have i0 : iaddrPV 1 (rowV u L) (.int .i64 0) = some (.cp [.str (L.getD 0 [])]) := iaddr_t rowV_vs (by omega) (by simp; omega)
  have i1 : iaddrPV 1 (rowV u L) (.int .i64 1) = some (.cp [.str (L.getD 1 [])]) := iaddr_t rowV_vs (by omega) (by simp; omega)
  have i2 : iaddrPV 1 (rowV u L) (.int .i64 2) = some (.cp [.str (L.getD 2 [])]) := iaddr_t rowV_vs (by omega) (by simp; omega)
  have i3 : iaddrPV 1 (rowV u L) (.int .i64 3) = some (.cp [.str (L.getD 3 [])]) := iaddr_t rowV_vs (by omega) (by simp; omega)
  have hget : ∀ k, (L.getD k []).length ≤ 100000 := fun k => by
    rcases Nat.lt_or_ge k L.length with h | h
    · have : L.getD k [] = L[k] := by simp [List.getD, h]
      rw [this]; exact hLl.1 _ (List.getElem_mem h)
    · simp [List.getD, h]
  have hl0 : lstD wd L = finD wd (daysD (yrD (L.getD 2 [])) (nmD (L.getD 1 []) 13 monT) (digD (L.getD 0 []) 1 2)) (clkD (L.getD 3 [])) (zoneD (L.getD 4 [])) := by
    unfold lstD; rw [if_neg (by omega)]
  rw [hl0] at hfin ⊢
  have k0 : ∀ S : St, call prog (.fn 287 []) [.str (L.getD 0 []), .int .i64 1, .int .i64 2] S = some (.int .i64 (digD (L.getD 0 []) 1 2), S) := fun S => digits_spec (st := S) (l := L.getD 0 []) (least := 1) (most := 2) (by have := hget 0; omega) (by omega) (by omega)
  have k1 := fun S : St => mon_spec (st := S) (l := L.getD 1 []) (by have := hget 1; omega)
  have k2 := fun S : St => year_spec (st := S) (l := L.getD 2 []) (by have := hget 2; omega)
  have k3 := fun S : St => clock_spec (st := S) (l := L.getD 3 []) (by have := hget 3; omega)
  have k4 := fun S : St => zone_spec (st := S) (l := L.getD 4 []) (by have := hget 4; omega)
  have k5 := fun S : St => Days_spec (st := S) (y := yrD (L.getD 2 [])) (m := nmD (L.getD 1 []) 13 monT) (d := digD (L.getD 0 []) 1 2)
  have b3 := clk_bound (L.getD 3 [])
  have b4 := zone_bound (L.getD 4 [])
  have b5 := days_bound (yrD (L.getD 2 [])) (nmD (L.getD 1 []) 13 monT) (digD (L.getD 0 []) 1 2)
  obtain ⟨w4, hw4⟩ : ∃ w, w = L.getD 4 [] := ⟨_, rfl⟩
  rw [← hw4] at k4 b4 hfin ⊢
  obtain ⟨D5, hD5⟩ : ∃ D, D = daysD (yrD (L.getD 2 [])) (nmD (L.getD 1 []) 13 monT) (digD (L.getD 0 []) 1 2) := ⟨_, rfl⟩
  rw [← hD5] at k5 b5 hfin ⊢
  generalize hv0 : digD (L.getD 0 []) 1 2 = v0 at k0 k5
  generalize hv1 : nmD (L.getD 1 []) 13 monT = v1 at k1 k5
  generalize hv2 : yrD (L.getD 2 []) = v2 at k2 k5
  generalize hv3 : clkD (L.getD 3 []) = v3 at k3 b3 hfin ⊢
  generalize hv4 : zoneD w4 = v4 at k4 b4 hfin ⊢
  obtain ⟨n, e5⟩ := D5
  obtain ⟨z, ok⟩ := v4
  simp only at b4 b5 k4 k5
  have m1 : binPV .mul .no (.int .i64 n) (.int .i64 86400) = some (.int .i64 (n * 86400)) := by
    simp only [binPV, binI, if_true, Option.some.injEq]
    rw [wrap64 (by omega) (by omega)]
  have a1 : binPV .add .no (.int .i64 (n * 86400)) (.int .i64 v3) = some (.int .i64 (n * 86400 + v3)) := add_i (by omega) (by omega)
  have s1 : binPV .sub .no (.int .i64 (n * 86400 + v3)) (.int .i64 z) = some (.int .i64 (n * 86400 + v3 - z)) := sub_i (by omega) (by omega)
  have hR := fun S : St => Right_w (st := S) (t := n * 86400 + v3 - z)
  have hWk := fun S : St => Weekday_spec (st := S) (d := n)
  have hfd : finD wd (n, e5) v3 (z, ok) = (if e5 ≠ 0 ∨ v3 < 0 ∨ ok = false ∨ ¬ (0 ≤ n * 86400 + v3 - z ∧ n * 86400 + v3 - z ≤ 253402300799) then (0, 0, 110) else if 0 ≤ wd ∧ wd ≠ (wkOf n).1 then (0, 0, 110) else (n * 86400 + v3 - z, z, 0)) := rfl
  have bad1 : (e5 ≠ 0 ∨ v3 < 0 ∨ ok = false ∨ ¬ (0 ≤ n * 86400 + v3 - z ∧ n * 86400 + v3 - z ≤ 253402300799)) → finD wd (n, e5) v3 (z, ok) = (0, 0, 110) := fun h => by rw [hfd, if_pos h]
  have bad2 : (¬ (e5 ≠ 0 ∨ v3 < 0 ∨ ok = false ∨ ¬ (0 ≤ n * 86400 + v3 - z ∧ n * 86400 + v3 - z ≤ 253402300799))) → 0 ≤ wd ∧ wd ≠ (wkOf n).1 → finD wd (n, e5) v3 (z, ok) = (0, 0, 110) := fun h h2 => by rw [hfd, if_neg h, if_pos h2]
  have good : (¬ (e5 ≠ 0 ∨ v3 < 0 ∨ ok = false ∨ ¬ (0 ≤ n * 86400 + v3 - z ∧ n * 86400 + v3 - z ≤ 253402300799))) → ¬ (0 ≤ wd ∧ wd ≠ (wkOf n).1) → finD wd (n, e5) v3 (z, ok) = (n * 86400 + v3 - z, z, 0) := fun h h2 => by rw [hfd, if_neg h, if_neg h2]
  obtain ⟨Q0, hQ0⟩ : ∃ Q0 : Ex → Env → St → Prop, Q0 = endQ st [.tmp 2, .tmp 3, .tmp 4] (.tup [.int .i64 (finD wd (n, e5) v3 (z, ok)).1, .int .i64 (finD wd (n, e5) v3 (z, ok)).2.1, .int .i64 (finD wd (n, e5) v3 (z, ok)).2.2], st) := ⟨_, rfl⟩
  rw [← hQ0]
  have hend : ∀ E : Env, E 2 = .int .i64 0 → E 3 = .int .i64 0 → E 4 = .int .i64 110 → finD wd (n, e5) v3 (z, ok) = (0, 0, 110) → Q0 .ret E (dst st (rowV u L) B ts3 st.boxes.length []) := fun E h2 h3 h4 h => by
    rw [hQ0, endQ_ret]; exact hfin E h2 h3 h4 h
  have hgood : ∀ E : Env, E 2 = .int .i64 (n * 86400 + v3 - z) → E 3 = .int .i64 z → E 4 = .int .i64 0 → finD wd (n, e5) v3 (z, ok) = (n * 86400 + v3 - z, z, 0) → Q0 .ret E (dst st (rowV u L) B ts3 st.boxes.length []) := fun E h2 h3 h4 h => by
    rw [hQ0, endQ_ret, h]; exact retIII h2 h3 h4 kept_dst rfl rfl rfl
  -- which way it ends
  have ways : (e5 ≠ 0) ∨ (e5 = 0 ∧ v3 < 0) ∨ (e5 = 0 ∧ ¬ v3 < 0 ∧ ok = false) ∨ (e5 = 0 ∧ ¬ v3 < 0 ∧ ok = true ∧ ¬ (0 ≤ n * 86400 + v3 - z ∧ n * 86400 + v3 - z ≤ 253402300799)) ∨
      (e5 = 0 ∧ ¬ v3 < 0 ∧ ok = true ∧ (0 ≤ n * 86400 + v3 - z ∧ n * 86400 + v3 - z ≤ 253402300799) ∧ ¬ 0 ≤ wd) ∨
      (e5 = 0 ∧ ¬ v3 < 0 ∧ ok = true ∧ (0 ≤ n * 86400 + v3 - z ∧ n * 86400 + v3 - z ≤ 253402300799) ∧ 0 ≤ wd ∧ (wkOf n).1 = wd) ∨
      (e5 = 0 ∧ ¬ v3 < 0 ∧ ok = true ∧ (0 ≤ n * 86400 + v3 - z ∧ n * 86400 + v3 - z ≤ 253402300799) ∧ 0 ≤ wd ∧ ¬ (wkOf n).1 = wd) := by
    by_cases a : e5 = 0
    · by_cases b : v3 < 0
      · exact .inr (.inl ⟨a, b⟩)
      · cases ok with
        | false => exact .inr (.inr (.inl ⟨a, b, rfl⟩))
        | true =>
          by_cases d : 0 ≤ n * 86400 + v3 - z ∧ n * 86400 + v3 - z ≤ 253402300799
          · by_cases f : 0 ≤ wd
            · by_cases g : (wkOf n).1 = wd
              · exact .inr (.inr (.inr (.inr (.inr (.inl ⟨a, b, rfl, d, f, g⟩)))))
              · exact .inr (.inr (.inr (.inr (.inr (.inr ⟨a, b, rfl, d, f, g⟩)))))
            · exact .inr (.inr (.inr (.inr (.inl ⟨a, b, rfl, d, f⟩))))
          · exact .inr (.inr (.inr (.inl ⟨a, b, rfl, d⟩)))
    · exact .inl a
  have h4 : L.length = 4 → w4 = [] := fun h => by rw [hw4]; simp [List.getD, h]
  by_cases c5 : L.length = 5
  · have q5 : (L.length : Int) = 5 := by omega
    have i4 : iaddrPV 1 (rowV u L) (.int .i64 4) = some (.cp [.str w4]) := by rw [hw4]; exact iaddr_t rowV_vs (by omega) (by simp; omega)
    rcases ways with w1 | ⟨w1, w2⟩ | ⟨w1, w2, w3⟩ | ⟨w1, w2, w3, w4'⟩ | ⟨w1, w2, w3, w4', w5⟩ | ⟨w1, w2, w3, w4', w5, w6⟩ | ⟨w1, w2, w3, w4', w5, w6⟩
    · simp (maxSteps := 1000000) (disch := omega) only [r3, dst_ld, hwk, hst, hlen, c1, e2, e3, eq_true q5, i0, i1, i2, i3, i4, lc1, k0, k1, k2, k3, k4, k5, m1, a1, s1, hR, hWk, w1, W_seq, W_region, W_cond, W_block, W_skip, W_label, W_exit, W_goto, W_ret, WO_cons, WO_consG, WO_nil, wantedA_eq, wantB, evOp, ev_tmp, ev_const, ev_fn, WN_some, WN_none, updO_some, updO_none, upd_eq,
 ↓reduceIte, Nat.reduceEqDiff, List.nil_append, List.cons_append, List.append_nil, List.map_cons, List.map_nil, env0_zero, env0_succ, env0_nil, Option.map_some, Option.map_none, seqQ_normal, seqQ_ret, seqQ_exit, seqQ_goto, blockQ_normal, blockQ_ret, blockQ_exit, blockQ_goto, condW_bool, loopQ_ret, loopQ_exit, loopQ_goto, endQ_ret, endQ_normal, keep_mk, keep_st,
 lss_i, leq_i, gtr_i, geq_i, eql_i, neq_i, eql_8, neq_8, lss_8, leq_8, gtr_8, geq_8, eql_s, neq_s, eql_b, neq_b, not_b, by_bys, by_nils, load_cp1, beq_true, beq_false, Bool.not_eq_true', decide_eq_true_eq, decide_eq_false_iff_not, decide_true, decide_false,
 Int.toNat_natCast, Int.ofNat_lt, Int.ofNat_le, Int.natCast_inj, Bool.false_eq_true, Bool.true_eq_false, extPV, List.getElem?_cons_zero, List.getElem?_cons_succ, nilckPV, Int.reduceToNat, Int.reduceLE, true_and, and_true, reduceCtorEq, or_false, false_or, or_true, Option.some.injEq, exists_eq_left', Bool.not_true, Bool.not_false, ne_eq, Int.reduceEq, not_true_eq_false, not_false_eq_true, Int.reduceLT, UInt8.reduceLT, UInt8.reduceLE, UInt8.reduceToNat]
      exact hend _ rfl rfl rfl (bad1 (.inl w1))
    · simp (maxSteps := 1000000) (disch := omega) only [r3, dst_ld, hwk, hst, hlen, c1, e2, e3, eq_true q5, i0, i1, i2, i3, i4, lc1, k0, k1, k2, k3, k4, k5, m1, a1, s1, hR, hWk, eq_true w1, w2, W_seq, W_region, W_cond, W_block, W_skip, W_label, W_exit, W_goto, W_ret, WO_cons, WO_consG, WO_nil, wantedA_eq, wantB, evOp, ev_tmp, ev_const, ev_fn, WN_some, WN_none, updO_some, updO_none, upd_eq,
 ↓reduceIte, Nat.reduceEqDiff, List.nil_append, List.cons_append, List.append_nil, List.map_cons, List.map_nil, env0_zero, env0_succ, env0_nil, Option.map_some, Option.map_none, seqQ_normal, seqQ_ret, seqQ_exit, seqQ_goto, blockQ_normal, blockQ_ret, blockQ_exit, blockQ_goto, condW_bool, loopQ_ret, loopQ_exit, loopQ_goto, endQ_ret, endQ_normal, keep_mk, keep_st,
 lss_i, leq_i, gtr_i, geq_i, eql_i, neq_i, eql_8, neq_8, lss_8, leq_8, gtr_8, geq_8, eql_s, neq_s, eql_b, neq_b, not_b, by_bys, by_nils, load_cp1, beq_true, beq_false, Bool.not_eq_true', decide_eq_true_eq, decide_eq_false_iff_not, decide_true, decide_false,
 Int.toNat_natCast, Int.ofNat_lt, Int.ofNat_le, Int.natCast_inj, Bool.false_eq_true, Bool.true_eq_false, extPV, List.getElem?_cons_zero, List.getElem?_cons_succ, nilckPV, Int.reduceToNat, Int.reduceLE, true_and, and_true, reduceCtorEq, or_false, false_or, or_true, Option.some.injEq, exists_eq_left', Bool.not_true, Bool.not_false, ne_eq, Int.reduceEq, not_true_eq_false, not_false_eq_true, Int.reduceLT, UInt8.reduceLT, UInt8.reduceLE, UInt8.reduceToNat]
      exact hend _ rfl rfl rfl (bad1 (.inr (.inl w2)))
    · subst w3
      simp (maxSteps := 1000000) (disch := omega) only [r3, dst_ld, hwk, hst, hlen, c1, e2, e3, eq_true q5, i0, i1, i2, i3, i4, lc1, k0, k1, k2, k3, k4, k5, m1, a1, s1, hR, hWk, eq_true w1, w2, W_seq, W_region, W_cond, W_block, W_skip, W_label, W_exit, W_goto, W_ret, WO_cons, WO_consG, WO_nil, wantedA_eq, wantB, evOp, ev_tmp, ev_const, ev_fn, WN_some, WN_none, updO_some, updO_none, upd_eq,
 ↓reduceIte, Nat.reduceEqDiff, List.nil_append, List.cons_append, List.append_nil, List.map_cons, List.map_nil, env0_zero, env0_succ, env0_nil, Option.map_some, Option.map_none, seqQ_normal, seqQ_ret, seqQ_exit, seqQ_goto, blockQ_normal, blockQ_ret, blockQ_exit, blockQ_goto, condW_bool, loopQ_ret, loopQ_exit, loopQ_goto, endQ_ret, endQ_normal, keep_mk, keep_st,
 lss_i, leq_i, gtr_i, geq_i, eql_i, neq_i, eql_8, neq_8, lss_8, leq_8, gtr_8, geq_8, eql_s, neq_s, eql_b, neq_b, not_b, by_bys, by_nils, load_cp1, beq_true, beq_false, Bool.not_eq_true', decide_eq_true_eq, decide_eq_false_iff_not, decide_true, decide_false,
 Int.toNat_natCast, Int.ofNat_lt, Int.ofNat_le, Int.natCast_inj, Bool.false_eq_true, Bool.true_eq_false, extPV, List.getElem?_cons_zero, List.getElem?_cons_succ, nilckPV, Int.reduceToNat, Int.reduceLE, true_and, and_true, reduceCtorEq, or_false, false_or, or_true, Option.some.injEq, exists_eq_left', Bool.not_true, Bool.not_false, ne_eq, Int.reduceEq, not_true_eq_false, not_false_eq_true, Int.reduceLT, UInt8.reduceLT, UInt8.reduceLE, UInt8.reduceToNat]
      exact hend _ rfl rfl rfl (bad1 (.inr (.inr (.inl rfl))))
    · subst w3
      simp (maxSteps := 1000000) (disch := omega) only [r3, dst_ld, hwk, hst, hlen, c1, e2, e3, eq_true q5, i0, i1, i2, i3, i4, lc1, k0, k1, k2, k3, k4, k5, m1, a1, s1, hR, hWk, eq_true w1, w2, decide_eq_false w4', W_seq, W_region, W_cond, W_block, W_skip, W_label, W_exit, W_goto, W_ret, WO_cons, WO_consG, WO_nil, wantedA_eq, wantB, evOp, ev_tmp, ev_const, ev_fn, WN_some, WN_none, updO_some, updO_none, upd_eq,
 ↓reduceIte, Nat.reduceEqDiff, List.nil_append, List.cons_append, List.append_nil, List.map_cons, List.map_nil, env0_zero, env0_succ, env0_nil, Option.map_some, Option.map_none, seqQ_normal, seqQ_ret, seqQ_exit, seqQ_goto, blockQ_normal, blockQ_ret, blockQ_exit, blockQ_goto, condW_bool, loopQ_ret, loopQ_exit, loopQ_goto, endQ_ret, endQ_normal, keep_mk, keep_st,
 lss_i, leq_i, gtr_i, geq_i, eql_i, neq_i, eql_8, neq_8, lss_8, leq_8, gtr_8, geq_8, eql_s, neq_s, eql_b, neq_b, not_b, by_bys, by_nils, load_cp1, beq_true, beq_false, Bool.not_eq_true', decide_eq_true_eq, decide_eq_false_iff_not, decide_true, decide_false,
 Int.toNat_natCast, Int.ofNat_lt, Int.ofNat_le, Int.natCast_inj, Bool.false_eq_true, Bool.true_eq_false, extPV, List.getElem?_cons_zero, List.getElem?_cons_succ, nilckPV, Int.reduceToNat, Int.reduceLE, true_and, and_true, reduceCtorEq, or_false, false_or, or_true, Option.some.injEq, exists_eq_left', Bool.not_true, Bool.not_false, ne_eq, Int.reduceEq, not_true_eq_false, not_false_eq_true, Int.reduceLT, UInt8.reduceLT, UInt8.reduceLE, UInt8.reduceToNat]
      exact hend _ rfl rfl rfl (bad1 (.inr (.inr (.inr w4'))))
    · subst w3
      simp (maxSteps := 1000000) (disch := omega) only [r3, dst_ld, hwk, hst, hlen, c1, e2, e3, eq_true q5, i0, i1, i2, i3, i4, lc1, k0, k1, k2, k3, k4, k5, m1, a1, s1, hR, hWk, eq_true w1, w2, decide_eq_true w4', w5, W_seq, W_region, W_cond, W_block, W_skip, W_label, W_exit, W_goto, W_ret, WO_cons, WO_consG, WO_nil, wantedA_eq, wantB, evOp, ev_tmp, ev_const, ev_fn, WN_some, WN_none, updO_some, updO_none, upd_eq,
 ↓reduceIte, Nat.reduceEqDiff, List.nil_append, List.cons_append, List.append_nil, List.map_cons, List.map_nil, env0_zero, env0_succ, env0_nil, Option.map_some, Option.map_none, seqQ_normal, seqQ_ret, seqQ_exit, seqQ_goto, blockQ_normal, blockQ_ret, blockQ_exit, blockQ_goto, condW_bool, loopQ_ret, loopQ_exit, loopQ_goto, endQ_ret, endQ_normal, keep_mk, keep_st,
 lss_i, leq_i, gtr_i, geq_i, eql_i, neq_i, eql_8, neq_8, lss_8, leq_8, gtr_8, geq_8, eql_s, neq_s, eql_b, neq_b, not_b, by_bys, by_nils, load_cp1, beq_true, beq_false, Bool.not_eq_true', decide_eq_true_eq, decide_eq_false_iff_not, decide_true, decide_false,
 Int.toNat_natCast, Int.ofNat_lt, Int.ofNat_le, Int.natCast_inj, Bool.false_eq_true, Bool.true_eq_false, extPV, List.getElem?_cons_zero, List.getElem?_cons_succ, nilckPV, Int.reduceToNat, Int.reduceLE, true_and, and_true, reduceCtorEq, or_false, false_or, or_true, Option.some.injEq, exists_eq_left', Bool.not_true, Bool.not_false, ne_eq, Int.reduceEq, not_true_eq_false, not_false_eq_true, Int.reduceLT, UInt8.reduceLT, UInt8.reduceLE, UInt8.reduceToNat]
      exact hgood _ rfl rfl rfl (good (fun h => h.elim (fun h => h w1) fun h => h.elim w2 fun h => h.elim (fun h => by cases h) fun h => h w4') (fun h => w5 h.1))
    · subst w3
      simp (maxSteps := 1000000) (disch := omega) only [r3, dst_ld, hwk, hst, hlen, c1, e2, e3, eq_true q5, i0, i1, i2, i3, i4, lc1, k0, k1, k2, k3, k4, k5, m1, a1, s1, hR, hWk, eq_true w1, w2, decide_eq_true w4', w5, eq_true w6, W_seq, W_region, W_cond, W_block, W_skip, W_label, W_exit, W_goto, W_ret, WO_cons, WO_consG, WO_nil, wantedA_eq, wantB, evOp, ev_tmp, ev_const, ev_fn, WN_some, WN_none, updO_some, updO_none, upd_eq,
 ↓reduceIte, Nat.reduceEqDiff, List.nil_append, List.cons_append, List.append_nil, List.map_cons, List.map_nil, env0_zero, env0_succ, env0_nil, Option.map_some, Option.map_none, seqQ_normal, seqQ_ret, seqQ_exit, seqQ_goto, blockQ_normal, blockQ_ret, blockQ_exit, blockQ_goto, condW_bool, loopQ_ret, loopQ_exit, loopQ_goto, endQ_ret, endQ_normal, keep_mk, keep_st,
 lss_i, leq_i, gtr_i, geq_i, eql_i, neq_i, eql_8, neq_8, lss_8, leq_8, gtr_8, geq_8, eql_s, neq_s, eql_b, neq_b, not_b, by_bys, by_nils, load_cp1, beq_true, beq_false, Bool.not_eq_true', decide_eq_true_eq, decide_eq_false_iff_not, decide_true, decide_false,
 Int.toNat_natCast, Int.ofNat_lt, Int.ofNat_le, Int.natCast_inj, Bool.false_eq_true, Bool.true_eq_false, extPV, List.getElem?_cons_zero, List.getElem?_cons_succ, nilckPV, Int.reduceToNat, Int.reduceLE, true_and, and_true, reduceCtorEq, or_false, false_or, or_true, Option.some.injEq, exists_eq_left', Bool.not_true, Bool.not_false, ne_eq, Int.reduceEq, not_true_eq_false, not_false_eq_true, Int.reduceLT, UInt8.reduceLT, UInt8.reduceLE, UInt8.reduceToNat]
      exact hgood _ rfl rfl rfl (good (fun h => h.elim (fun h => h w1) fun h => h.elim w2 fun h => h.elim (fun h => by cases h) fun h => h w4') (fun h => h.2 w6.symm))
    · subst w3
      simp (maxSteps := 1000000) (disch := omega) only [r3, dst_ld, hwk, hst, hlen, c1, e2, e3, eq_true q5, i0, i1, i2, i3, i4, lc1, k0, k1, k2, k3, k4, k5, m1, a1, s1, hR, hWk, eq_true w1, w2, decide_eq_true w4', w5, w6, W_seq, W_region, W_cond, W_block, W_skip, W_label, W_exit, W_goto, W_ret, WO_cons, WO_consG, WO_nil, wantedA_eq, wantB, evOp, ev_tmp, ev_const, ev_fn, WN_some, WN_none, updO_some, updO_none, upd_eq,
 ↓reduceIte, Nat.reduceEqDiff, List.nil_append, List.cons_append, List.append_nil, List.map_cons, List.map_nil, env0_zero, env0_succ, env0_nil, Option.map_some, Option.map_none, seqQ_normal, seqQ_ret, seqQ_exit, seqQ_goto, blockQ_normal, blockQ_ret, blockQ_exit, blockQ_goto, condW_bool, loopQ_ret, loopQ_exit, loopQ_goto, endQ_ret, endQ_normal, keep_mk, keep_st,
 lss_i, leq_i, gtr_i, geq_i, eql_i, neq_i, eql_8, neq_8, lss_8, leq_8, gtr_8, geq_8, eql_s, neq_s, eql_b, neq_b, not_b, by_bys, by_nils, load_cp1, beq_true, beq_false, Bool.not_eq_true', decide_eq_true_eq, decide_eq_false_iff_not, decide_true, decide_false,
 Int.toNat_natCast, Int.ofNat_lt, Int.ofNat_le, Int.natCast_inj, Bool.false_eq_true, Bool.true_eq_false, extPV, List.getElem?_cons_zero, List.getElem?_cons_succ, nilckPV, Int.reduceToNat, Int.reduceLE, true_and, and_true, reduceCtorEq, or_false, false_or, or_true, Option.some.injEq, exists_eq_left', Bool.not_true, Bool.not_false, ne_eq, Int.reduceEq, not_true_eq_false, not_false_eq_true, Int.reduceLT, UInt8.reduceLT, UInt8.reduceLE, UInt8.reduceToNat]
      exact hend _ rfl rfl rfl (bad2 (fun h => h.elim (fun h => h w1) fun h => h.elim w2 fun h => h.elim (fun h => by cases h) fun h => h w4') ⟨w5, fun h => w6 h.symm⟩)
  · have q5 : ¬ (L.length : Int) = 5 := by omega
    obtain rfl := h4 (by omega)
    rcases ways with w1 | ⟨w1, w2⟩ | ⟨w1, w2, w3⟩ | ⟨w1, w2, w3, w4'⟩ | ⟨w1, w2, w3, w4', w5⟩ | ⟨w1, w2, w3, w4', w5, w6⟩ | ⟨w1, w2, w3, w4', w5, w6⟩
    · simp (maxSteps := 1000000) (disch := omega) only [r3, dst_ld, hwk, hst, hlen, c1, e2, e3, q5, i0, i1, i2, i3, lc1, k0, k1, k2, k3, k4, k5, m1, a1, s1, hR, hWk, w1, W_seq, W_region, W_cond, W_block, W_skip, W_label, W_exit, W_goto, W_ret, WO_cons, WO_consG, WO_nil, wantedA_eq, wantB, evOp, ev_tmp, ev_const, ev_fn, WN_some, WN_none, updO_some, updO_none, upd_eq,
 ↓reduceIte, Nat.reduceEqDiff, List.nil_append, List.cons_append, List.append_nil, List.map_cons, List.map_nil, env0_zero, env0_succ, env0_nil, Option.map_some, Option.map_none, seqQ_normal, seqQ_ret, seqQ_exit, seqQ_goto, blockQ_normal, blockQ_ret, blockQ_exit, blockQ_goto, condW_bool, loopQ_ret, loopQ_exit, loopQ_goto, endQ_ret, endQ_normal, keep_mk, keep_st,
 lss_i, leq_i, gtr_i, geq_i, eql_i, neq_i, eql_8, neq_8, lss_8, leq_8, gtr_8, geq_8, eql_s, neq_s, eql_b, neq_b, not_b, by_bys, by_nils, load_cp1, beq_true, beq_false, Bool.not_eq_true', decide_eq_true_eq, decide_eq_false_iff_not, decide_true, decide_false,
 Int.toNat_natCast, Int.ofNat_lt, Int.ofNat_le, Int.natCast_inj, Bool.false_eq_true, Bool.true_eq_false, extPV, List.getElem?_cons_zero, List.getElem?_cons_succ, nilckPV, Int.reduceToNat, Int.reduceLE, true_and, and_true, reduceCtorEq, or_false, false_or, or_true, Option.some.injEq, exists_eq_left', Bool.not_true, Bool.not_false, ne_eq, Int.reduceEq, not_true_eq_false, not_false_eq_true, Int.reduceLT, UInt8.reduceLT, UInt8.reduceLE, UInt8.reduceToNat]
      exact hend _ rfl rfl rfl (bad1 (.inl w1))
    · simp (maxSteps := 1000000) (disch := omega) only [r3, dst_ld, hwk, hst, hlen, c1, e2, e3, q5, i0, i1, i2, i3, lc1, k0, k1, k2, k3, k4, k5, m1, a1, s1, hR, hWk, eq_true w1, w2, W_seq, W_region, W_cond, W_block, W_skip, W_label, W_exit, W_goto, W_ret, WO_cons, WO_consG, WO_nil, wantedA_eq, wantB, evOp, ev_tmp, ev_const, ev_fn, WN_some, WN_none, updO_some, updO_none, upd_eq,
 ↓reduceIte, Nat.reduceEqDiff, List.nil_append, List.cons_append, List.append_nil, List.map_cons, List.map_nil, env0_zero, env0_succ, env0_nil, Option.map_some, Option.map_none, seqQ_normal, seqQ_ret, seqQ_exit, seqQ_goto, blockQ_normal, blockQ_ret, blockQ_exit, blockQ_goto, condW_bool, loopQ_ret, loopQ_exit, loopQ_goto, endQ_ret, endQ_normal, keep_mk, keep_st,
 lss_i, leq_i, gtr_i, geq_i, eql_i, neq_i, eql_8, neq_8, lss_8, leq_8, gtr_8, geq_8, eql_s, neq_s, eql_b, neq_b, not_b, by_bys, by_nils, load_cp1, beq_true, beq_false, Bool.not_eq_true', decide_eq_true_eq, decide_eq_false_iff_not, decide_true, decide_false,
 Int.toNat_natCast, Int.ofNat_lt, Int.ofNat_le, Int.natCast_inj, Bool.false_eq_true, Bool.true_eq_false, extPV, List.getElem?_cons_zero, List.getElem?_cons_succ, nilckPV, Int.reduceToNat, Int.reduceLE, true_and, and_true, reduceCtorEq, or_false, false_or, or_true, Option.some.injEq, exists_eq_left', Bool.not_true, Bool.not_false, ne_eq, Int.reduceEq, not_true_eq_false, not_false_eq_true, Int.reduceLT, UInt8.reduceLT, UInt8.reduceLE, UInt8.reduceToNat]
      exact hend _ rfl rfl rfl (bad1 (.inr (.inl w2)))
    · subst w3
      simp (maxSteps := 1000000) (disch := omega) only [r3, dst_ld, hwk, hst, hlen, c1, e2, e3, q5, i0, i1, i2, i3, lc1, k0, k1, k2, k3, k4, k5, m1, a1, s1, hR, hWk, eq_true w1, w2, W_seq, W_region, W_cond, W_block, W_skip, W_label, W_exit, W_goto, W_ret, WO_cons, WO_consG, WO_nil, wantedA_eq, wantB, evOp, ev_tmp, ev_const, ev_fn, WN_some, WN_none, updO_some, updO_none, upd_eq,
 ↓reduceIte, Nat.reduceEqDiff, List.nil_append, List.cons_append, List.append_nil, List.map_cons, List.map_nil, env0_zero, env0_succ, env0_nil, Option.map_some, Option.map_none, seqQ_normal, seqQ_ret, seqQ_exit, seqQ_goto, blockQ_normal, blockQ_ret, blockQ_exit, blockQ_goto, condW_bool, loopQ_ret, loopQ_exit, loopQ_goto, endQ_ret, endQ_normal, keep_mk, keep_st,
 lss_i, leq_i, gtr_i, geq_i, eql_i, neq_i, eql_8, neq_8, lss_8, leq_8, gtr_8, geq_8, eql_s, neq_s, eql_b, neq_b, not_b, by_bys, by_nils, load_cp1, beq_true, beq_false, Bool.not_eq_true', decide_eq_true_eq, decide_eq_false_iff_not, decide_true, decide_false,
 Int.toNat_natCast, Int.ofNat_lt, Int.ofNat_le, Int.natCast_inj, Bool.false_eq_true, Bool.true_eq_false, extPV, List.getElem?_cons_zero, List.getElem?_cons_succ, nilckPV, Int.reduceToNat, Int.reduceLE, true_and, and_true, reduceCtorEq, or_false, false_or, or_true, Option.some.injEq, exists_eq_left', Bool.not_true, Bool.not_false, ne_eq, Int.reduceEq, not_true_eq_false, not_false_eq_true, Int.reduceLT, UInt8.reduceLT, UInt8.reduceLE, UInt8.reduceToNat]
      exact hend _ rfl rfl rfl (bad1 (.inr (.inr (.inl rfl))))
    · subst w3
      simp (maxSteps := 1000000) (disch := omega) only [r3, dst_ld, hwk, hst, hlen, c1, e2, e3, q5, i0, i1, i2, i3, lc1, k0, k1, k2, k3, k4, k5, m1, a1, s1, hR, hWk, eq_true w1, w2, decide_eq_false w4', W_seq, W_region, W_cond, W_block, W_skip, W_label, W_exit, W_goto, W_ret, WO_cons, WO_consG, WO_nil, wantedA_eq, wantB, evOp, ev_tmp, ev_const, ev_fn, WN_some, WN_none, updO_some, updO_none, upd_eq,
 ↓reduceIte, Nat.reduceEqDiff, List.nil_append, List.cons_append, List.append_nil, List.map_cons, List.map_nil, env0_zero, env0_succ, env0_nil, Option.map_some, Option.map_none, seqQ_normal, seqQ_ret, seqQ_exit, seqQ_goto, blockQ_normal, blockQ_ret, blockQ_exit, blockQ_goto, condW_bool, loopQ_ret, loopQ_exit, loopQ_goto, endQ_ret, endQ_normal, keep_mk, keep_st,
 lss_i, leq_i, gtr_i, geq_i, eql_i, neq_i, eql_8, neq_8, lss_8, leq_8, gtr_8, geq_8, eql_s, neq_s, eql_b, neq_b, not_b, by_bys, by_nils, load_cp1, beq_true, beq_false, Bool.not_eq_true', decide_eq_true_eq, decide_eq_false_iff_not, decide_true, decide_false,
 Int.toNat_natCast, Int.ofNat_lt, Int.ofNat_le, Int.natCast_inj, Bool.false_eq_true, Bool.true_eq_false, extPV, List.getElem?_cons_zero, List.getElem?_cons_succ, nilckPV, Int.reduceToNat, Int.reduceLE, true_and, and_true, reduceCtorEq, or_false, false_or, or_true, Option.some.injEq, exists_eq_left', Bool.not_true, Bool.not_false, ne_eq, Int.reduceEq, not_true_eq_false, not_false_eq_true, Int.reduceLT, UInt8.reduceLT, UInt8.reduceLE, UInt8.reduceToNat]
      exact hend _ rfl rfl rfl (bad1 (.inr (.inr (.inr w4'))))
    · subst w3
      simp (maxSteps := 1000000) (disch := omega) only [r3, dst_ld, hwk, hst, hlen, c1, e2, e3, q5, i0, i1, i2, i3, lc1, k0, k1, k2, k3, k4, k5, m1, a1, s1, hR, hWk, eq_true w1, w2, decide_eq_true w4', w5, W_seq, W_region, W_cond, W_block, W_skip, W_label, W_exit, W_goto, W_ret, WO_cons, WO_consG, WO_nil, wantedA_eq, wantB, evOp, ev_tmp, ev_const, ev_fn, WN_some, WN_none, updO_some, updO_none, upd_eq,
 ↓reduceIte, Nat.reduceEqDiff, List.nil_append, List.cons_append, List.append_nil, List.map_cons, List.map_nil, env0_zero, env0_succ, env0_nil, Option.map_some, Option.map_none, seqQ_normal, seqQ_ret, seqQ_exit, seqQ_goto, blockQ_normal, blockQ_ret, blockQ_exit, blockQ_goto, condW_bool, loopQ_ret, loopQ_exit, loopQ_goto, endQ_ret, endQ_normal, keep_mk, keep_st,
 lss_i, leq_i, gtr_i, geq_i, eql_i, neq_i, eql_8, neq_8, lss_8, leq_8, gtr_8, geq_8, eql_s, neq_s, eql_b, neq_b, not_b, by_bys, by_nils, load_cp1, beq_true, beq_false, Bool.not_eq_true', decide_eq_true_eq, decide_eq_false_iff_not, decide_true, decide_false,
 Int.toNat_natCast, Int.ofNat_lt, Int.ofNat_le, Int.natCast_inj, Bool.false_eq_true, Bool.true_eq_false, extPV, List.getElem?_cons_zero, List.getElem?_cons_succ, nilckPV, Int.reduceToNat, Int.reduceLE, true_and, and_true, reduceCtorEq, or_false, false_or, or_true, Option.some.injEq, exists_eq_left', Bool.not_true, Bool.not_false, ne_eq, Int.reduceEq, not_true_eq_false, not_false_eq_true, Int.reduceLT, UInt8.reduceLT, UInt8.reduceLE, UInt8.reduceToNat]
      exact hgood _ rfl rfl rfl (good (fun h => h.elim (fun h => h w1) fun h => h.elim w2 fun h => h.elim (fun h => by cases h) fun h => h w4') (fun h => w5 h.1))
    · subst w3
      simp (maxSteps := 1000000) (disch := omega) only [r3, dst_ld, hwk, hst, hlen, c1, e2, e3, q5, i0, i1, i2, i3, lc1, k0, k1, k2, k3, k4, k5, m1, a1, s1, hR, hWk, eq_true w1, w2, decide_eq_true w4', w5, eq_true w6, W_seq, W_region, W_cond, W_block, W_skip, W_label, W_exit, W_goto, W_ret, WO_cons, WO_consG, WO_nil, wantedA_eq, wantB, evOp, ev_tmp, ev_const, ev_fn, WN_some, WN_none, updO_some, updO_none, upd_eq,
 ↓reduceIte, Nat.reduceEqDiff, List.nil_append, List.cons_append, List.append_nil, List.map_cons, List.map_nil, env0_zero, env0_succ, env0_nil, Option.map_some, Option.map_none, seqQ_normal, seqQ_ret, seqQ_exit, seqQ_goto, blockQ_normal, blockQ_ret, blockQ_exit, blockQ_goto, condW_bool, loopQ_ret, loopQ_exit, loopQ_goto, endQ_ret, endQ_normal, keep_mk, keep_st,
 lss_i, leq_i, gtr_i, geq_i, eql_i, neq_i, eql_8, neq_8, lss_8, leq_8, gtr_8, geq_8, eql_s, neq_s, eql_b, neq_b, not_b, by_bys, by_nils, load_cp1, beq_true, beq_false, Bool.not_eq_true', decide_eq_true_eq, decide_eq_false_iff_not, decide_true, decide_false,
 Int.toNat_natCast, Int.ofNat_lt, Int.ofNat_le, Int.natCast_inj, Bool.false_eq_true, Bool.true_eq_false, extPV, List.getElem?_cons_zero, List.getElem?_cons_succ, nilckPV, Int.reduceToNat, Int.reduceLE, true_and, and_true, reduceCtorEq, or_false, false_or, or_true, Option.some.injEq, exists_eq_left', Bool.not_true, Bool.not_false, ne_eq, Int.reduceEq, not_true_eq_false, not_false_eq_true, Int.reduceLT, UInt8.reduceLT, UInt8.reduceLE, UInt8.reduceToNat]
      exact hgood _ rfl rfl rfl (good (fun h => h.elim (fun h => h w1) fun h => h.elim w2 fun h => h.elim (fun h => by cases h) fun h => h w4') (fun h => h.2 w6.symm))
    · subst w3
      simp (maxSteps := 1000000) (disch := omega) only [r3, dst_ld, hwk, hst, hlen, c1, e2, e3, q5, i0, i1, i2, i3, lc1, k0, k1, k2, k3, k4, k5, m1, a1, s1, hR, hWk, eq_true w1, w2, decide_eq_true w4', w5, w6, W_seq, W_region, W_cond, W_block, W_skip, W_label, W_exit, W_goto, W_ret, WO_cons, WO_consG, WO_nil, wantedA_eq, wantB, evOp, ev_tmp, ev_const, ev_fn, WN_some, WN_none, updO_some, updO_none, upd_eq,
 ↓reduceIte, Nat.reduceEqDiff, List.nil_append, List.cons_append, List.append_nil, List.map_cons, List.map_nil, env0_zero, env0_succ, env0_nil, Option.map_some, Option.map_none, seqQ_normal, seqQ_ret, seqQ_exit, seqQ_goto, blockQ_normal, blockQ_ret, blockQ_exit, blockQ_goto, condW_bool, loopQ_ret, loopQ_exit, loopQ_goto, endQ_ret, endQ_normal, keep_mk, keep_st,
 lss_i, leq_i, gtr_i, geq_i, eql_i, neq_i, eql_8, neq_8, lss_8, leq_8, gtr_8, geq_8, eql_s, neq_s, eql_b, neq_b, not_b, by_bys, by_nils, load_cp1, beq_true, beq_false, Bool.not_eq_true', decide_eq_true_eq, decide_eq_false_iff_not, decide_true, decide_false,
 Int.toNat_natCast, Int.ofNat_lt, Int.ofNat_le, Int.natCast_inj, Bool.false_eq_true, Bool.true_eq_false, extPV, List.getElem?_cons_zero, List.getElem?_cons_succ, nilckPV, Int.reduceToNat, Int.reduceLE, true_and, and_true, reduceCtorEq, or_false, false_or, or_true, Option.some.injEq, exists_eq_left', Bool.not_true, Bool.not_false, ne_eq, Int.reduceEq, not_true_eq_false, not_false_eq_true, Int.reduceLT, UInt8.reduceLT, UInt8.reduceLE, UInt8.reduceToNat]
      exact hend _ rfl rfl rfl (bad2 (fun h => h.elim (fun h => h w1) fun h => h.elim w2 fun h => h.elim (fun h => by cases h) fun h => h w4') ⟨w5, fun h => w6 h.symm⟩)
end Go.Ab

/-
  The laws DateBack and DateSame.
-/
namespace Go.Ab
set_option linter.unusedVariables false
set_option linter.unusedSimpArgs false
set_option maxRecDepth 20000

/-- A written date: its text is read as its time and shift, with blanks and a remark as well. -/
theorem back_spec {t z : Int} (h : okP t z) : ∃ X : Bs, X.length = 31 ∧ (∀ S : St, call prog (.fn 256 []) [.int .i64 t, .int .i64 z] S = some (.tup [.str X, .int .i64 0], S)) ∧
    (∀ S : St, call prog (.fn 262 []) [.str X] S = some (.tup [.int .i64 t, .int .i64 z, .int .i64 0], S)) ∧
    (∀ S : St, call prog (.fn 262 []) [.str ([32, 9] ++ X ++ [32, 40, 97, 32, 98, 41, 32])] S = some (.tup [.int .i64 t, .int .i64 z, .int .i64 0], S)) ∧ parseD X = (t, z, 0) := by
  obtain ⟨L, hL⟩ : ∃ L : Nat, t + z = (L : Int) := ⟨(t + z).toNat, by have := h.2.2; omega⟩
  obtain ⟨y, m, dd, hci⟩ := ci_ex (n := L / 86400) (by have := h.2.2; omega)
  have hlen : (dateT y m dd ((L / 86400 + 3) % 7) (L % 86400) z).length = 31 := date_len (Nat.mod_lt _ (by omega)) hci.m1 hci.m2
  refine ⟨_, hlen, fun S => Print_good (st := S) h hL hci, fun S => ?_, fun S => ?_, parse_date h hL hci⟩
  · rw [dParse_spec (by omega), parse_date h hL hci]
  · rw [dParse_spec (by simp [hlen]), parse_date3 h hL hci]

theorem law_DateSame {t a b : Int} : ∃ s', call prog (.fn 271 []) [.int .i64 t, .int .i64 a, .int .i64 b] ⟨[], [], [], 0⟩ = some (.bool true, s') := by
  refine law_of_W prog_271 rfl ?_
  unfold F_posthornlaw20_DateSame; dsimp only
  have hA := call_of al20_0
  by_cases h : okP t a
  · obtain ⟨X, hl, p1, p2, _, p4⟩ := back_spec h
    by_cases k : okP t b
    · obtain ⟨Y, hl', q1, q2, _, q4⟩ := back_spec k
      have he : (decide (X = Y) : Bool) = decide (a = b) := by
        by_cases hab : a = b
        · subst hab
          have : X = Y := by
            have h1 := (p1 ⟨[], [], [], 0⟩).symm.trans (q1 ⟨[], [], [], 0⟩)
            simp only [Option.some.injEq, Prod.mk.injEq, PV.tup.injEq, List.cons.injEq, PV.str.injEq] at h1
            exact h1.1.1
          simp [this]
        · have : X ≠ Y := fun h1 => by
            rw [h1, q4] at p4
            simp only [Prod.mk.injEq] at p4
            exact hab p4.2.1.symm
          simp [this, hab]
      simp (maxSteps := 1000000) (disch := omega) only [p1, p2, q1, q2, he, hA, List.length_nil, W_seq, W_region, W_cond, W_block, W_skip, W_label, W_exit, W_goto, W_ret, WO_cons, WO_consG, WO_nil, wantedA_eq, wantB, evOp, ev_tmp, ev_const, ev_fn, WN_some, WN_none, updO_some, updO_none, upd_eq,
 ↓reduceIte, Nat.reduceEqDiff, List.nil_append, List.cons_append, List.append_nil, List.map_cons, List.map_nil, env0_zero, env0_succ, env0_nil, Option.map_some, Option.map_none, seqQ_normal, seqQ_ret, seqQ_exit, seqQ_goto, blockQ_normal, blockQ_ret, blockQ_exit, blockQ_goto, condW_bool, loopQ_ret, loopQ_exit, loopQ_goto, endQ_ret, endQ_normal, keep_mk, keep_st,
 lss_i, leq_i, gtr_i, geq_i, eql_i, neq_i, eql_8, neq_8, lss_8, leq_8, gtr_8, geq_8, eql_s, neq_s, eql_b, neq_b, not_b, by_bys, by_nils, load_cp1, beq_true, beq_false, Bool.not_eq_true', decide_eq_true_eq, decide_eq_false_iff_not, decide_true, decide_false,
 Int.toNat_natCast, Int.ofNat_lt, Int.ofNat_le, Int.natCast_inj, Bool.false_eq_true, Bool.true_eq_false, extPV, List.getElem?_cons_zero, List.getElem?_cons_succ, nilckPV, Int.reduceToNat, Int.reduceLE, true_and, and_true, reduceCtorEq, or_false, false_or, or_true, Option.some.injEq, exists_eq_left', Bool.not_true, Bool.not_false, ne_eq, Int.reduceEq, not_true_eq_false, not_false_eq_true, Int.reduceLT, UInt8.reduceLT, UInt8.reduceLE, UInt8.reduceToNat]
    · have q1 := fun S : St => Print_bad (st := S) k
      simp (maxSteps := 1000000) (disch := omega) only [p1, q1, hA, List.length_nil, W_seq, W_region, W_cond, W_block, W_skip, W_label, W_exit, W_goto, W_ret, WO_cons, WO_consG, WO_nil, wantedA_eq, wantB, evOp, ev_tmp, ev_const, ev_fn, WN_some, WN_none, updO_some, updO_none, upd_eq,
 ↓reduceIte, Nat.reduceEqDiff, List.nil_append, List.cons_append, List.append_nil, List.map_cons, List.map_nil, env0_zero, env0_succ, env0_nil, Option.map_some, Option.map_none, seqQ_normal, seqQ_ret, seqQ_exit, seqQ_goto, blockQ_normal, blockQ_ret, blockQ_exit, blockQ_goto, condW_bool, loopQ_ret, loopQ_exit, loopQ_goto, endQ_ret, endQ_normal, keep_mk, keep_st,
 lss_i, leq_i, gtr_i, geq_i, eql_i, neq_i, eql_8, neq_8, lss_8, leq_8, gtr_8, geq_8, eql_s, neq_s, eql_b, neq_b, not_b, by_bys, by_nils, load_cp1, beq_true, beq_false, Bool.not_eq_true', decide_eq_true_eq, decide_eq_false_iff_not, decide_true, decide_false,
 Int.toNat_natCast, Int.ofNat_lt, Int.ofNat_le, Int.natCast_inj, Bool.false_eq_true, Bool.true_eq_false, extPV, List.getElem?_cons_zero, List.getElem?_cons_succ, nilckPV, Int.reduceToNat, Int.reduceLE, true_and, and_true, reduceCtorEq, or_false, false_or, or_true, Option.some.injEq, exists_eq_left', Bool.not_true, Bool.not_false, ne_eq, Int.reduceEq, not_true_eq_false, not_false_eq_true, Int.reduceLT, UInt8.reduceLT, UInt8.reduceLE, UInt8.reduceToNat]
  · have p1 := fun S : St => Print_bad (st := S) h
    by_cases k : okP t b
    · obtain ⟨Y, hl', q1, q2, _, q4⟩ := back_spec k
      simp (maxSteps := 1000000) (disch := omega) only [p1, q1, hA, List.length_nil, W_seq, W_region, W_cond, W_block, W_skip, W_label, W_exit, W_goto, W_ret, WO_cons, WO_consG, WO_nil, wantedA_eq, wantB, evOp, ev_tmp, ev_const, ev_fn, WN_some, WN_none, updO_some, updO_none, upd_eq,
 ↓reduceIte, Nat.reduceEqDiff, List.nil_append, List.cons_append, List.append_nil, List.map_cons, List.map_nil, env0_zero, env0_succ, env0_nil, Option.map_some, Option.map_none, seqQ_normal, seqQ_ret, seqQ_exit, seqQ_goto, blockQ_normal, blockQ_ret, blockQ_exit, blockQ_goto, condW_bool, loopQ_ret, loopQ_exit, loopQ_goto, endQ_ret, endQ_normal, keep_mk, keep_st,
 lss_i, leq_i, gtr_i, geq_i, eql_i, neq_i, eql_8, neq_8, lss_8, leq_8, gtr_8, geq_8, eql_s, neq_s, eql_b, neq_b, not_b, by_bys, by_nils, load_cp1, beq_true, beq_false, Bool.not_eq_true', decide_eq_true_eq, decide_eq_false_iff_not, decide_true, decide_false,
 Int.toNat_natCast, Int.ofNat_lt, Int.ofNat_le, Int.natCast_inj, Bool.false_eq_true, Bool.true_eq_false, extPV, List.getElem?_cons_zero, List.getElem?_cons_succ, nilckPV, Int.reduceToNat, Int.reduceLE, true_and, and_true, reduceCtorEq, or_false, false_or, or_true, Option.some.injEq, exists_eq_left', Bool.not_true, Bool.not_false, ne_eq, Int.reduceEq, not_true_eq_false, not_false_eq_true, Int.reduceLT, UInt8.reduceLT, UInt8.reduceLE, UInt8.reduceToNat]
    · have q1 := fun S : St => Print_bad (st := S) k
      simp (maxSteps := 1000000) (disch := omega) only [p1, q1, hA, List.length_nil, W_seq, W_region, W_cond, W_block, W_skip, W_label, W_exit, W_goto, W_ret, WO_cons, WO_consG, WO_nil, wantedA_eq, wantB, evOp, ev_tmp, ev_const, ev_fn, WN_some, WN_none, updO_some, updO_none, upd_eq,
 ↓reduceIte, Nat.reduceEqDiff, List.nil_append, List.cons_append, List.append_nil, List.map_cons, List.map_nil, env0_zero, env0_succ, env0_nil, Option.map_some, Option.map_none, seqQ_normal, seqQ_ret, seqQ_exit, seqQ_goto, blockQ_normal, blockQ_ret, blockQ_exit, blockQ_goto, condW_bool, loopQ_ret, loopQ_exit, loopQ_goto, endQ_ret, endQ_normal, keep_mk, keep_st,
 lss_i, leq_i, gtr_i, geq_i, eql_i, neq_i, eql_8, neq_8, lss_8, leq_8, gtr_8, geq_8, eql_s, neq_s, eql_b, neq_b, not_b, by_bys, by_nils, load_cp1, beq_true, beq_false, Bool.not_eq_true', decide_eq_true_eq, decide_eq_false_iff_not, decide_true, decide_false,
 Int.toNat_natCast, Int.ofNat_lt, Int.ofNat_le, Int.natCast_inj, Bool.false_eq_true, Bool.true_eq_false, extPV, List.getElem?_cons_zero, List.getElem?_cons_succ, nilckPV, Int.reduceToNat, Int.reduceLE, true_and, and_true, reduceCtorEq, or_false, false_or, or_true, Option.some.injEq, exists_eq_left', Bool.not_true, Bool.not_false, ne_eq, Int.reduceEq, not_true_eq_false, not_false_eq_true, Int.reduceLT, UInt8.reduceLT, UInt8.reduceLE, UInt8.reduceToNat]
end Go.Ab

/-
  The library's searches as primitives, out of the shelf's contracts.
-/
namespace Go.Ab
open Go.Shelf Go.Proofs
set_option linter.unusedVariables false
set_option linter.unusedSimpArgs false
variable {P : Program} {g : GMap} {ρ : Go.Shelf.Ren}

end Go.Ab

/-
  A Builder's text: the walk of the library's function, its end said whole (after the shelf's own proof).
-/
namespace Go.Proofs
open Go.Shelf Go.RowKit
set_option linter.unusedVariables false
variable {P : Program} {ρ : Ren}

set_option maxHeartbeats 2000000 in
set_option maxRecDepth 100000 in
/-- A Builder's text, and all that turns: the shelf's proof, its end turned. -/
theorem bstring_walk (L : Lays.n169 P ρ) (X : Builder.Extra P ρ) (b g cap cells : Nat) (l : List UInt8) (w : World) (h0 : l ≠ []) (hcap : l.length ≤ cap) (hcc : l.length ≤ cells) (hmax : l.length ≤ 9223372036854775807)
    (hb : w.cell? ⟨b, 1, none⟩ = some (.slice (some ⟨g, 0, none⟩) l.length cap)) (hsh : w.shape? g = some (ρ.t 5, cells)) (hcell : ∀ j x, l[j]? = some x → w.cell? ⟨g, j, none⟩ = some (.int .u8 x.toNat)) :
    Calls P (ρ.f 169) #[.pointer (some ⟨b, 0, none⟩)] w fun e w' => e = .returned (.string ⟨l.toArray⟩) ∧ w' = w.drew.freeze ⟨g, 0, none⟩ l.length := by
  have hl0 : l.length ≠ 0 := by simpa using h0
  have c1 : w.drew.cell? ⟨b, 1, none⟩ = some (.slice (some ⟨g, 0, none⟩) l.length cap) := hb
  have hSD : (Builtin.unsafeSliceData_ #[(ρ.t 37)] (ρ.t 127) #[.slice (some ⟨g, 0, none⟩) l.length cap]).run P w.drew = .ok (.pointer (some ⟨g, 0, none⟩)) w.drew :=
    Lib.run_unsafeSliceData_row _ _ _ _ _ _ (by omega)
  have hUS : (Builtin.unsafeString_ #[(ρ.t 127), (ρ.t 3)] (ρ.t 9) #[.pointer (some ⟨g, 0, none⟩), .int .i64 l.length]).run P w.drew = .ok (.string ⟨l.toArray⟩) (w.drew.freeze ⟨g, 0, none⟩ l.length) := by
    refine Lib.run_unsafeString_row w.drew (ρ.t 127) (ρ.t 3) (ρ.t 9) (ρ.t 5) L.t127 X.cellsByte g cells hsh l h0 hcc hmax ?_
    intro j x hx
    have := hcell j x hx
    simp only [Addr.add]
    split
    · rename_i h; subst h; exact this
    · simpa using this
  clear hcell hsh hb
  have mixed := L.mixed
  have t72 := L.t72; have a72 := L.a72; have z72 := L.z72; have v72 := L.v72; have u72 := run_underlying L.t72
  have t70 := L.t70; have a70 := L.a70; have z70 := L.z70; have v70 := L.v70; have u70 := run_underlying L.t70
  have t37 := L.t37; have a37 := L.a37; have z37 := L.z37; have v37 := L.v37; have u37 := run_underlying L.t37
  have t127 := L.t127; have a127 := L.a127; have z127 := L.z127; have v127 := L.v127; have u127 := run_underlying L.t127
  have t3 := L.t3; have a3 := L.a3; have z3 := L.z3; have v3 := L.v3; have u3 := run_underlying L.t3
  have t9 := L.t9; have a9 := L.a9; have z9 := L.z9; have v9 := L.v9; have u9 := run_underlying L.t9
  have t5 := X.t5; have a5 := X.a5; have z5 := X.z5; have v5 := X.v5; have u5 := run_underlying X.t5
  go_enter L.f169, Body.n169_ntmps ρ
  go_wp2
  go_region_o
  all_goals (go_wp2; go_ret; exact ⟨rfl, rfl⟩)

set_option maxHeartbeats 2000000 in
set_option maxRecDepth 100000 in
theorem bstring_nil (L : Lays.n169 P ρ) (X : Builder.Extra P ρ) (b : Nat) (w : World) (hb : w.cell? ⟨b, 1, none⟩ = some (.slice none 0 0)) :
    Calls P (ρ.f 169) #[.pointer (some ⟨b, 0, none⟩)] w fun e w' => e = .returned (.string ⟨#[]⟩) ∧ w' = w.drew := by
  have hUS := Any.unsafeString_none L X
  have hSD : (Builtin.unsafeSliceData_ #[(ρ.t 37)] (ρ.t 127) #[.slice none 0 0]).run P w.drew = .ok (.pointer none) w.drew := rfl
  have c1 : w.drew.cell? ⟨b, 1, none⟩ = some (.slice none 0 0) := hb
  have mixed := L.mixed
  have t72 := L.t72; have a72 := L.a72; have z72 := L.z72; have v72 := L.v72; have u72 := run_underlying L.t72
  have t70 := L.t70; have a70 := L.a70; have z70 := L.z70; have v70 := L.v70; have u70 := run_underlying L.t70
  have t37 := L.t37; have a37 := L.a37; have z37 := L.z37; have v37 := L.v37; have u37 := run_underlying L.t37
  have t127 := L.t127; have a127 := L.a127; have z127 := L.z127; have v127 := L.v127; have u127 := run_underlying L.t127
  have t3 := L.t3; have a3 := L.a3; have z3 := L.z3; have v3 := L.v3; have u3 := run_underlying L.t3
  have t9 := L.t9; have a9 := L.a9; have z9 := L.z9; have v9 := L.v9; have u9 := run_underlying L.t9
  have t5 := X.t5; have a5 := X.a5; have z5 := X.z5; have v5 := X.v5; have u5 := run_underlying X.t5
  go_enter L.f169, Body.n169_ntmps ρ
  go_wp2
  go_region_o
  all_goals (go_wp2; go_ret; exact ⟨rfl, rfl⟩)

/-- What copyCheck names. -/
structure CCLay (P : Program) (ρ : Ren) : Prop where
  mixed : P.follows .mixedOrders = true
  f240 : P.funcs[ρ.f 240]? = some (Body.n240 ρ)
  f276 : P.funcs[ρ.f 276]? = some (Body.n276 ρ)
  t4 : P.underlying (ρ.t 4) = some (TypeDesc.bool)
  a4 : ∀ w, (isAgg (ρ.t 4)).run P w = .ok false w
  z4 : ∀ w, (Go.sizeOf (ρ.t 4)).run P w = .ok 1 w
  v4 : ∀ w, (zeroValue (ρ.t 4)).run P w = .ok (Value.bool false) w
  t70 : P.underlying (ρ.t 70) = some (TypeDesc.pointer (ρ.t 72))
  a70 : ∀ w, (isAgg (ρ.t 70)).run P w = .ok false w
  z70 : ∀ w, (Go.sizeOf (ρ.t 70)).run P w = .ok 1 w
  v70 : ∀ w, (zeroValue (ρ.t 70)).run P w = .ok (Value.pointer none) w
  t72 : P.underlying (ρ.t 72) = some (TypeDesc.struct #[{ name := "addr", type := ρ.t 70, offset := 0, embedded := false, tag := "", pkgPath := "strings", byteOffset := 0 }, { name := "buf", type := ρ.t 37, offset := 1, embedded := false, tag := "", pkgPath := "strings", byteOffset := 8 }])
  a72 : ∀ w, (isAgg (ρ.t 72)).run P w = .ok true w
  z72 : ∀ w, (Go.sizeOf (ρ.t 72)).run P w = .ok 2 w
  v72 : ∀ w, (zeroValue (ρ.t 72)).run P w = .ok (Value.agg #[Value.pointer none, Value.slice none 0 0]) w
  t164 : P.underlying (ρ.t 164) = some (TypeDesc.unsafePointer)
  a164 : ∀ w, (isAgg (ρ.t 164)).run P w = .ok false w
  z164 : ∀ w, (Go.sizeOf (ρ.t 164)).run P w = .ok 1 w
  v164 : ∀ w, (zeroValue (ρ.t 164)).run P w = .ok (Value.pointer none) w

set_option maxHeartbeats 1000000 in
set_option maxRecDepth 100000 in
/-- copyCheck at a builder that has been used: nothing turns (after the shelf's proof). -/
theorem cc_used (L : CCLay P ρ) (X : Builder.X72 P ρ) (b : Nat) (w : World) (h0 : w.cell? ⟨b, 0, none⟩ = some (.pointer (some ⟨b, 0, none⟩))) :
    Calls P (ρ.f 240) #[.pointer (some ⟨b, 0, none⟩)] w fun e w' => e = .returned (.tuple #[]) ∧ w' = w := by
  obtain ⟨j, hj, _⟩ := Option.map_eq_some_iff.1 X.sizeBuilder
  have mixed := L.mixed
  have t72 := L.t72; have a72 := L.a72; have z72 := L.z72; have v72 := L.v72; have u72 := run_underlying L.t72
  have t70 := L.t70; have a70 := L.a70; have z70 := L.z70; have v70 := L.v70; have u70 := run_underlying L.t70
  have t4 := L.t4; have a4 := L.a4; have z4 := L.z4; have v4 := L.v4; have u4 := run_underlying L.t4
  have t164 := L.t164; have a164 := L.a164; have z164 := L.z164; have v164 := L.v164; have u164 := run_underlying L.t164
  go_enter L.f240, Body.n240_ntmps ρ
  go_wp2
  rw [Lib.run_neq_ptr_same w _ L.t70 hj]
  go_wp2
  go_end0
  exact ⟨rfl, rfl⟩

set_option maxHeartbeats 1000000 in
set_option maxRecDepth 100000 in
/-- copyCheck at a fresh builder: it stores its own address (after the shelf's proof). -/
theorem cc_fresh (L : CCLay P ρ) (X : Builder.X72 P ρ) (b : Nat) (w : World) (h0 : w.cell? ⟨b, 0, none⟩ = some (.pointer none)) (hsh : w.shape? b = some ((ρ.t 72), 2)) (hfz : w.frozen? ⟨b, 0, none⟩ = false) :
    Calls P (ρ.f 240) #[.pointer (some ⟨b, 0, none⟩)] w fun e w' => e = .returned (.tuple #[]) ∧ w' = w.setCell ⟨b, 0, none⟩ (.pointer (some ⟨b, 0, none⟩)) := by
  obtain ⟨j, hj, hjs⟩ := Option.map_eq_some_iff.1 X.sizeBuilder
  have mixed := L.mixed
  have t72 := L.t72; have a72 := L.a72; have z72 := L.z72; have v72 := L.v72; have u72 := run_underlying L.t72
  have t70 := L.t70; have a70 := L.a70; have z70 := L.z70; have v70 := L.v70; have u70 := run_underlying L.t70
  have t4 := L.t4; have a4 := L.a4; have z4 := L.z4; have v4 := L.v4; have u4 := run_underlying L.t4
  have t164 := L.t164; have a164 := L.a164; have z164 := L.z164; have v164 := L.v164; have u164 := run_underlying L.t164
  go_enter L.f240, Body.n240_ntmps ρ
  go_wp2
  rw [Lib.run_to_unsafe w ⟨b, 0, none⟩ L.t70 L.t164 hj (by rw [hjs]; decide) hsh (Nat.zero_lt_succ 1)]
  simp only [Result.andThen]
  rw [Oper.upon_value]
  go_wp2
  rw [run_callFunc_extern L.f276 (by kernel_rfl) (by kernel_rfl) (by kernel_rfl) (e := Extern.AbiNoEscape.same) (by kernel_rfl)]
  rw [Lib.run_noEscape]
  simp only [Result.andThen]
  rw [Oper.upon_value]
  go_wp2
  rw [Lib.run_from_unsafe w ⟨b, 0, none⟩ L.t164 L.t70 hj hsh X.liesBuilder]
  simp only [Result.andThen]
  rw [Oper.upon_value]
  go_wp2
  go_end0
  exact ⟨rfl, rfl⟩
end Go.Proofs

/-
  The library's functions on texts as primitives, out of the shelf's contracts.
-/
namespace Go.Ab
open Go.Shelf Go.Proofs
set_option linter.unusedVariables false
set_option linter.unusedSimpArgs false
variable {P : Program} {g : GMap} {ρ : Go.Shelf.Ren}

theorem primStrIndex (L : Lays.n219 P ρ) (hm : ∀ κ, g.inv κ → ∃ m, κ.C (ρ.g 1) 0 = some (.int .i64 m)) {pf : Func} (hpf : P.funcs[ρ.f 219]? = some pf) (hb : pf.body.isSome = true) (hn : pf.name ≠ "runtime.NumGoroutine") : PrimOK P g (ρ.f 219) pStrIndex := by
  refine prim_of_calls hpf hb hn (fun κ w args ps v hi hC hsz hargs hp => ?_)
  obtain ⟨m, hm⟩ := hm κ hi
  have hmc := hC _ _ _ hm
  unfold pStrIndex at hp
  split at hp
  · rename_i a b
    split at hp
    · rename_i hlen
      cases hp
      obtain ⟨u1, u2, rfl⟩ : ∃ u1 u2, args = #[u1, u2] := by
        obtain ⟨l⟩ := args
        match l, hsz with
        | [u1, u2], _ => exact ⟨u1, u2, rfl⟩
      have r1 := hargs 0 u1 _ rfl rfl
      have r2 := hargs 1 u2 _ rfl rfl
      cases r1 with | str sa _ ha => cases r2 with | str sb _ hb =>
      refine (Any.stringslite_Index L sa sb m w (by rw [← ha] at hlen; simpa using hlen) hmc).mono ?_
      rintro e w' ⟨rfl, rfl⟩
      exact ⟨_, rfl, fun κ' => by rw [ha, hb]; exact .int .i64 _ (by decide), rfl, rfl, rfl, rfl⟩
    · cases hp
  · cases hp

theorem primStrIndexByte (L : Lays.n137 P ρ) {pf : Func} (hpf : P.funcs[ρ.f 137]? = some pf) (hb : pf.body.isSome = true) (hn : pf.name ≠ "runtime.NumGoroutine") : PrimOK P g (ρ.f 137) pStrIndexByte := by
  refine prim_of_calls hpf hb hn (fun κ w args ps v hi hC hsz hargs hp => ?_)
  unfold pStrIndexByte at hp
  split at hp
  · rename_i a c
    cases hp
    obtain ⟨u1, u2, rfl⟩ : ∃ u1 u2, args = #[u1, u2] := by
      obtain ⟨l⟩ := args
      match l, hsz with
      | [u1, u2], _ => exact ⟨u1, u2, rfl⟩
    have r1 := hargs 0 u1 _ rfl rfl
    have r2 := hargs 1 u2 _ rfl rfl
    cases r1 with | str sa _ ha => cases r2 with | b8 _ n hn =>
    refine (Any.strings_IndexByte L sa n w).mono ?_
    rintro e w' ⟨rfl, rfl⟩
    refine ⟨_, rfl, fun κ' => ?_, rfl, rfl, rfl, rfl⟩
    have : n.toNat.toUInt8 = c := by rw [hn]; simp
    rw [ha, this]; exact .int .i64 _ (by decide)
  · cases hp

/-- A primitive that may put a cell, out of a contract. -/
theorem primS_of_calls {f' : FuncId} {p : List PV → List (List PV) → Option (PV × Upd)} {pf : Func} (hpf : P.funcs[f']? = some pf) (hb : pf.body.isSome = true) (hn : pf.name ≠ "runtime.NumGoroutine")
    (h : ∀ (base : Nat) (κ : K) (w : World) (st : St) (args : Array Value) (ps : List PV) (v : PV) (u : Upd) (st' : St), SR P g base κ w st → args.size = ps.length → (∀ (i : Nat) (u : Value) (q : PV), args[i]? = some u → ps[i]? = some q → R g κ u q) → p ps st.boxes = some (v, u) → updS st u = some st' →
      Calls P f' args w fun e w' => ∃ z, e = .returned z ∧ R g κ z v ∧ SR P g base κ w' st' ∧ Fr base κ.lam w w') : PrimSOK P g f' p := by
  intro base κ w st args ps v u st' hsr hsz hargs hp hu F hF nn o a next Q hnext
  have hrun : (callFunc f' args).run P w = .ok (.enter f' args) w := by
    have hb2 : pf.body.isNone = false := by
      cases hbb : pf.body with
      | none => rw [hbb] at hb; cases hb
      | some c => rfl
    have hn2 : (pf.name == "runtime.NumGoroutine") = false := by simpa using hn
    unfold callFunc
    simp only [Sem.run_bind, Go.program, Sem.run, Result.andThen, hpf, hn2, hb2]
    rfl
  rw [hrun]
  refine ⟨hF.deep, callsIn_of_calls hF ?_⟩
  refine (h base κ w st args ps v u st' hsr hsz hargs hp hu).mono ?_
  rintro e w' ⟨z, rfl, hz, hs, hf⟩
  exact hnext κ z w' (K.le.refl κ) rfl hs hz hf

theorem setCell_eq {w : World} {blk off : Nat} {v : Value} {rs : Array Value} {el : TypeId} {fz : Nat × Nat} (hw : w.heap[blk]? = some (.cells rs el fz)) : w.setCell ⟨blk, off, none⟩ v = setBlk w blk (setA rs off [v]) el fz := by
  have hlt := (Array.getElem?_eq_some_iff.1 hw).1
  simp only [World.setCell, setBlk]
  congr 1
  apply Array.ext_getElem?
  intro j
  rw [Array.getElem?_modify]
  by_cases hj : blk = j
  · subst hj
    rw [if_pos rfl, hw]
    simp [hlt, setA]
  · rw [if_neg hj, Array.getElem?_setIfInBounds_ne hj]

theorem primCopyCheck (L : CCLay P ρ) (X : Builder.X72 P ρ) (htB : g.tB = ρ.t 72) {pf : Func} (hpf : P.funcs[ρ.f 240]? = some pf) (hb : pf.body.isSome = true) (hn : pf.name ≠ "runtime.NumGoroutine") : PrimSOK P g (ρ.f 240) pCopyCheck := by
  refine primS_of_calls hpf hb hn (fun base κ w st args ps v u st' hsr hsz hargs hp hu => ?_)
  unfold pCopyCheck at hp
  split at hp
  · rename_i bs b
    obtain ⟨u1, rfl⟩ : ∃ u1, args = #[u1] := by
      obtain ⟨l⟩ := args
      match l, hsz with
      | [u1], _ => exact ⟨u1, rfl⟩
    have r1 := hargs 0 u1 _ rfl rfl
    cases r1 with | ptr _ _ blk hφ =>
    split at hp
    · -- fresh
      rename_i x hbx
      simp only [Option.some.injEq, Prod.mk.injEq] at hp
      obtain ⟨rfl, rfl⟩ := hp
      have hB := hsr.bx b blk _ hbx hφ
      obtain ⟨rs, ⟨el, lo, hi, hw, hf⟩, hl, hr⟩ := hB.ex
      obtain ⟨v0, h0, hr0⟩ := hr 0 .bslot rfl
      cases hr0
      have hsh := hB.sb (by simp)
      rw [htB] at hsh
      have hc0 : w.cell? ⟨blk, 0, none⟩ = some (.pointer none) := by simp [World.cell?, hw, h0]
      have hrs : rs.size = 2 := by
        simp only [World.shape?, hw, Option.some.injEq, Prod.mk.injEq] at hsh; exact hsh.2
      have hfz : w.frozen? ⟨blk, 0, none⟩ = false := by
        simp only [World.frozen?, hw, Bool.and_eq_false_iff, decide_eq_false_iff_not]
        rcases hf with h | h
        · subst h; omega
        · left; omega
      refine (cc_fresh L X blk w hc0 hsh hfz).mono ?_
      rintro e w' ⟨rfl, rfl⟩
      -- the store's own law
      have hst : storePV st 1 (.ptr b 0) (.ptr b 0) = some st' := hu
      simp only [storePV, hbx] at hst
      split at hst
      · cases hst
        refine ⟨_, rfl, .tup #[] [] rfl rfl (fun i v p a => by simp at a), ?_, ?_⟩
        · rw [setCell_eq hw]
          have := hsr.setBox (rs' := setA rs 0 [.pointer (some ⟨blk, 0, none⟩)]) (cs' := setCells [.bslot, x] 0 [.ptr b 0]) (if hasTok [PV.ptr b 0] then min st.low b else st.low) hbx hφ hw hf (setA_size _ _ _) (by rw [setCells_length]; exact hl) (fun i c hc => ?_) ?_ (fun c hc => ?_) (fun hm => ?_)
          · exact this
          · simp only [setCells, List.set_cons_zero] at hc
            match i with
            | 0 =>
              simp at hc; subst hc
              exact ⟨.pointer (some ⟨blk, 0, none⟩), by simp [setA, hrs], .ptr b 0 blk hφ⟩
            | i + 1 =>
              have hc' : [PV.bslot, x][i + 1]? = some c := by simpa using hc
              obtain ⟨v1, h1, hr1⟩ := hr (i + 1) c hc'
              refine ⟨v1, ?_, hr1⟩
              simp [setA]; exact h1
          · have := hB.lf
            simp only [setCells, List.set_cons_zero, List.all_cons, leafB] at this ⊢
            simpa using this
          · simp only [setCells, List.set_cons_zero, List.mem_cons, List.not_mem_nil, or_false] at hc
            rcases hc with rfl | rfl
            · simp [PV.inB]
            · exact hB.lw _ (by simp)
          · simp
        · rw [setCell_eq hw]
          exact Fr.setBlk hw hB.ge
      · cases hst
    · -- used
      rename_i b' x hbx
      split at hp
      · rename_i hbb
        subst hbb
        simp only [Option.some.injEq, Prod.mk.injEq] at hp
        obtain ⟨rfl, rfl⟩ := hp
        simp only [updS, Option.some.injEq] at hu
        subst hu
        have hB := hsr.bx b' blk _ hbx hφ
        obtain ⟨rs, ⟨el, lo, hi, hw, hf⟩, hl, hr⟩ := hB.ex
        obtain ⟨v0, h0, hr0⟩ := hr 0 _ rfl
        cases hr0 with | ptr _ _ blk' hφ' =>
        rw [hφ] at hφ'; cases hφ'
        have hc0 : w.cell? ⟨blk, 0, none⟩ = some (.pointer (some ⟨blk, 0, none⟩)) := by simp [World.cell?, hw, h0]
        refine (cc_used L X blk w hc0).mono ?_
        rintro e w' ⟨rfl, rfl⟩
        exact ⟨_, rfl, .tup #[] [] rfl rfl (fun i v p a => by simp at a), hsr, Fr.refl _ _⟩
      · cases hp
    · cases hp
  · cases hp


/-- A room that is nobody's more: its row may be frozen. -/
theorem SR.kill {base : Nat} {κ : K} {w w' : World} {st : St} (h : SR P g base κ w st) {i blk e ce : Nat} {rs : Array Value} {el : TypeId} {fz fz' : Nat × Nat} (hi : st.toks[i]? = some true) (hτ : κ.τ[i]? = some (blk, e, ce))
    (hw : w.heap[blk]? = some (.cells rs el fz)) (hw' : w'.heap = (setBlk w blk rs el fz').heap) : SR P g base κ w' { st with toks := st.toks.set i false } := by
  have hk := h.tk i blk e ce hi hτ
  suffices hs : SR P g base κ (setBlk w blk rs el fz') { st with toks := st.toks.set i false } from hs.heap hw'
  have hcell : ∀ b i, (setBlk w blk rs el fz').cell? ⟨b, i, none⟩ = w.cell? ⟨b, i, none⟩ := fun b i => by
    by_cases hb : b = blk
    · subst hb
      have hlt := (Array.getElem?_eq_some_iff.1 hw).1
      have h2 : (setBlk w b rs el fz').heap[b]? = some (.cells rs el fz') := by simp [setBlk, hlt]
      simp only [World.cell?]
      rw [h2, hw]
    · exact cell_setBlk_other hb
  have hobj : ∀ (k : Nat) (o : Obj), w.heap[k]? = some o → isCells o = false → (setBlk w blk rs el fz').heap[k]? = some o := fun k o ho hc => by
    rw [setBlk_other]
    · exact ho
    · rintro rfl; rw [hw] at ho; cases ho; simp [isCells] at hc
  have hset : ∀ j : Nat, (st.toks.set i false)[j]? = some true → st.toks[j]? = some true ∧ j ≠ i := fun j hj => by
    by_cases hji : j = i
    · subst hji
      rw [List.getElem?_set] at hj
      simp at hj
    · rw [List.getElem?_set_ne (fun h => hji h.symm)] at hj
      exact ⟨hj, hji⟩
  refine { cC := fun b i v hc => by rw [hcell]; exact h.cC b i v hc, sh := fun b t hb => (h.sh b t hb).imp fun n hn => (by rw [shape_setBlk hw rfl]; exact hn), bl := h.bl, bn := h.bn, bx := fun b k cs h1 h2 => ?_, tl := by simp [h.tl], tk := fun j k e ce h1 h2 => ?_,
           td := fun a b ba ea ca bb eb cb h1 h2 h3 h4 h5 => h.td a b ba ea ca bb eb cb (hset a h1).1 (hset b h2).1 h3 h4 h5, ll := h.ll, ln := h.ln, lb := h.lb, lp := fun k l D r h1 h2 => (h.lp k l D r h1 h2).mono (K.le.refl _) hobj, hb := by simpa [setBlk] using h.hb, gv := h.gv }
  · have hx := h.bx b k cs h1 h2
    have hne : k ≠ blk := by rintro rfl; exact hk.nb (List.mem_of_getElem? h2)
    obtain ⟨rs', hc, h3, h4⟩ := hx.ex
    exact ⟨hx.ge, hx.nc, ⟨rs', hc.congr (setBlk_other hne), h3, h4⟩, hx.lf, hx.lw, fun hm => by rw [← hx.sb hm]; exact shape_congr (setBlk_other hne)⟩
  · obtain ⟨q1, q2⟩ := hset j h1
    have hx := h.tk j k e ce q1 h2
    have hne : k ≠ blk := h.td j i k e ce blk _ _ q1 hi h2 hτ q2
    obtain ⟨rs', hc, h3⟩ := hx.ex
    exact ⟨hx.ge, hx.nb, hx.nc, ⟨rs', hc.congr (setBlk_other hne), h3⟩⟩

theorem primBuilderString (L : Lays.n169 P ρ) (X : Builder.Extra P ρ) (htU : g.tU = ρ.t 5) {pf : Func} (hpf : P.funcs[ρ.f 169]? = some pf) (hb : pf.body.isSome = true) (hn : pf.name ≠ "runtime.NumGoroutine") : PrimSOK P g (ρ.f 169) pBuilderString := by
  refine primS_of_calls hpf hb hn (fun base κ w st args ps v u st' hsr hsz hargs hp hu => ?_)
  unfold pBuilderString at hp
  split at hp
  · rename_i bs b
    obtain ⟨u1, rfl⟩ : ∃ u1, args = #[u1] := by
      obtain ⟨l⟩ := args
      match l, hsz with
      | [u1], _ => exact ⟨u1, rfl⟩
    have r1 := hargs 0 u1 _ rfl rfl
    cases r1 with | ptr _ _ blk hφ =>
    split at hp
    · -- nothing was written
      rename_i c0 hbx
      simp only [Option.some.injEq, Prod.mk.injEq] at hp
      obtain ⟨rfl, rfl⟩ := hp
      simp only [updS, Option.some.injEq] at hu
      subst hu
      have hB := hsr.bx b blk _ hbx hφ
      obtain ⟨rs, ⟨el, lo, hi, hw, hf⟩, hl, hr⟩ := hB.ex
      obtain ⟨v0, h0, hr0⟩ := hr 1 .nils rfl
      cases hr0
      have hc : w.cell? ⟨blk, 1, none⟩ = some (.slice none 0 0) := by simp [World.cell?, hw, h0]
      refine (bstring_nil L X blk w hc).mono ?_
      rintro e w' ⟨rfl, rfl⟩
      exact ⟨_, rfl, .str _ _ rfl, hsr.heap rfl, Fr.same rfl rfl rfl rfl⟩
    · rename_i c0 i l hbx
      split at hp
      · cases hp
      · rename_i hne0
        obtain ⟨hne, hrm⟩ : l ≠ [] ∧ l.length ≤ room := by simpa [not_or] using hne0
        simp only [Option.some.injEq, Prod.mk.injEq] at hp
        obtain ⟨rfl, rfl⟩ := hp
        simp only [updS] at hu
        split at hu
        · rename_i hti
          cases hu
          have hB := hsr.bx b blk _ hbx hφ
          obtain ⟨rs, ⟨el, lo, hi, hw, hf⟩, hl, hr⟩ := hB.ex
          obtain ⟨v0, h0, hr0⟩ := hr 1 _ rfl
          cases hr0 with
          | bys blk' off n c _ _ hn2 hc hbb ht hz =>
            obtain ⟨rfl, hS⟩ := hz i rfl
            subst hn2
            obtain ⟨n', hsh⟩ := hsr.sh blk' _ hS
            obtain ⟨e', ce, hτ, hroom⟩ := ht
            have hTK := hsr.tk i blk' e' ce hti hτ
            obtain ⟨rs', ⟨el', lo', hi', hw', hf'⟩, hce⟩ := hTK.ex
            have hn' : n' = rs'.size ∧ el' = g.tU := by
              simp only [World.shape?, hw', Option.some.injEq, Prod.mk.injEq] at hsh
              exact ⟨hsh.2.symm, hsh.1⟩
            have hcl : ∀ j x, l[j]? = some x → w.cell? ⟨blk', j, none⟩ = some (.int .u8 x.toNat) := fun j x hx => by
              have := hsr.cC _ _ _ (hbb j x hx)
              simpa using this
            have hcells : l.length ≤ n' := by
              rcases Nat.lt_or_ge n' l.length with h1 | h1
              · exfalso
                have h2 := hcl n' l[n'] (by simp [h1])
                simp only [World.cell?, hw'] at h2
                simp [hn'.1] at h2
              · exact h1
            have hmax : l.length ≤ 9223372036854775807 := by have e : room = 68719476736 := rfl; omega
            have hcell : w.cell? ⟨blk, 1, none⟩ = some (.slice (some ⟨blk', 0, none⟩) l.length c) := by simp [World.cell?, hw, h0]
            refine (bstring_walk L X blk blk' c n' l w hne hc hcells hmax hcell (by rw [hsh, htU]) hcl).mono ?_
            rintro e w1 ⟨rfl, rfl⟩
            have hlt := (Array.getElem?_eq_some_iff.1 hw').1
            have hfr : ∃ fz, (w.drew.freeze ⟨blk', 0, none⟩ l.length).heap = (setBlk w blk' rs' el' fz).heap := by
              refine ⟨if lo' == hi' then (0, 0 + l.length) else (min lo' 0, max hi' (0 + l.length)), ?_⟩
              simp only [World.freeze, setBlk, World.drew]
              rw [if_neg (by simpa using hne)]
              apply Array.ext_getElem?
              intro j
              rw [Array.getElem?_modify]
              by_cases hj : blk' = j
              · subst hj; rw [if_pos rfl, hw']; simp [hlt]
              · rw [if_neg hj, Array.getElem?_setIfInBounds_ne hj]
            obtain ⟨fz, hfr⟩ := hfr
            refine ⟨_, rfl, .str _ _ rfl, hsr.kill hti hτ hw' hfr, ?_⟩
            refine Fr.of ⟨?_, ?_, ?_, ?_, fun k hk => ?_⟩ fun k o ho hc => ?_
            · simp only [World.freeze]; split <;> rfl
            · simp only [World.freeze]; split <;> rfl
            · simp only [World.freeze]; split <;> rfl
            · rw [hfr]; simp [setBlk]
            · rw [hfr]; exact setBlk_other (by have := hTK.ge; omega)
            · rw [hfr, setBlk_other]
              · exact ho
              · rintro rfl; rw [hw'] at ho; cases ho; simp [isCells] at hc
        · cases hu
    · cases hp
  · cases hp
end Go.Ab

/-
  strings.Split as a primitive: a new row of texts.
-/
namespace Go.Ab
open Go.Shelf Go.Proofs
set_option linter.unusedVariables false
set_option linter.unusedSimpArgs false
variable {P : Program} {g : GMap} {ρ : Go.Shelf.Ren} {base : Nat}

/-- A primitive that lays one new row of values, out of a contract. -/
theorem prim_of_lays {f' : FuncId} {p : List PV → Option PV} {pf : Func} (hpf : P.funcs[f']? = some pf) (hb : pf.body.isSome = true) (hn : pf.name ≠ "runtime.NumGoroutine")
    (h : ∀ (κ : K) (w : World) (args : Array Value) (ps : List PV) (v : PV), g.inv κ → (∀ b i v, κ.C b i = some v → w.cell? ⟨b, i, none⟩ = some v) → args.size = ps.length → (∀ (i : Nat) (u : Value) (q : PV), args[i]? = some u → ps[i]? = some q → R g κ u q) → p ps = some v →
      ∃ (z : Value) (rs : Array Value) (el : TypeId), Calls P f' args w (fun e w' => e = .returned z ∧ w' = w.alloc (.cells rs el)) ∧ R g (κ.addC w.heap.size fun i => rs[i]?) z v) : PrimOK P g f' p := by
  intro base κ w st args ps v hsr hsz hargs hp F hF nn o a next Q hnext
  have hrun : (callFunc f' args).run P w = .ok (.enter f' args) w := by
    have hb2 : pf.body.isNone = false := by
      cases hbb : pf.body with
      | none => rw [hbb] at hb; cases hb
      | some c => rfl
    have hn2 : (pf.name == "runtime.NumGoroutine") = false := by simpa using hn
    unfold callFunc
    simp only [Sem.run_bind, Go.program, Sem.run, Result.andThen, hpf, hn2, hb2]
    rfl
  rw [hrun]
  refine ⟨hF.deep, callsIn_of_calls hF ?_⟩
  obtain ⟨z, rs, el, hc, hr⟩ := h κ w args ps v hsr.gv hsr.cC hsz hargs hp
  refine hc.mono ?_
  rintro e w' ⟨rfl, rfl⟩
  obtain ⟨hle, hs⟩ := hsr.addC (w' := w.alloc (.cells rs el)) rs el (0, 0) rfl
  exact hnext _ z _ hle rfl hs hr (Fr.push hsr.hb rfl rfl rfl rfl)

/-! ### The parts are the shelf's -/
theorem occ_one {c : UInt8} {s : List UInt8} {j : Nat} : Lib.occAt s [c] j = true → s[j]? = some c := fun h => Lib.occAt_head rfl h
theorem index_one_cases (c : UInt8) (s : List UInt8) : (c ∉ s ∧ Lib.index s [c] = -1) ∨ ∃ n r, s = n ++ c :: r ∧ c ∉ n ∧ Lib.index s [c] = n.length := by
  rcases Lib.index_spec s [c] with ⟨h1, h2⟩ | ⟨i, h1, h2, h3, h4⟩
  · refine .inl ⟨fun hm => ?_, h1⟩
    obtain ⟨j, hj, e⟩ := List.mem_iff_getElem.1 hm
    have := h2 j (by omega)
    rw [Lib.occAt_iff_take _ _ _ (by simp; omega)] at this
    rw [List.drop_eq_getElem_cons hj] at this
    simp [e] at this
  · have hi := occ_one h3
    have hlt := (List.getElem?_eq_some_iff.1 hi).1
    have he := (List.getElem?_eq_some_iff.1 hi).2
    refine .inr ⟨s.take i, s.drop (i + 1), ?_, fun hm => ?_, ?_⟩
    · rw [← he, ← List.drop_eq_getElem_cons hlt, List.take_append_drop]
    · obtain ⟨j, hj, e⟩ := List.mem_iff_getElem.1 hm
      simp only [List.length_take] at hj
      simp only [List.getElem_take] at e
      have := h4 j (by omega)
      rw [Lib.occAt_iff_take _ _ _ (by simp; omega)] at this
      rw [List.drop_eq_getElem_cons (show j < s.length by omega)] at this
      simp [e] at this
    · rw [h1]; simp; omega
theorem splitOn_none {c : UInt8} : ∀ (n acc : List UInt8), c ∉ n → splitOn c acc n = [acc ++ n] := by
  intro n
  induction n with
  | nil => intro acc _; simp [splitOn]
  | cons d n ih =>
    intro acc h
    simp only [List.mem_cons, not_or] at h
    rw [splitOn, if_neg (fun e => h.1 e.symm), ih _ h.2]; simp
theorem splitOn_hit {c : UInt8} {r : List UInt8} : ∀ (n acc : List UInt8), c ∉ n → splitOn c acc (n ++ c :: r) = (acc ++ n) :: splitOn c [] r := by
  intro n
  induction n with
  | nil => intro acc _; simp [splitOn]
  | cons d n ih =>
    intro acc h
    simp only [List.mem_cons, not_or] at h
    rw [List.cons_append, splitOn, if_neg (fun e => h.1 e.symm), ih _ h.2]; simp
theorem splitK_on {c : UInt8} : ∀ (f : Nat) (s : List UInt8), s.length < f → Lib.splitK [c] 0 (Lib.countFrom [c] f s) s = splitOn c [] s := by
  intro f
  induction f with
  | zero => intro s h; omega
  | succ f ih =>
    intro s h
    rcases index_one_cases c s with ⟨h1, h2⟩ | ⟨n, r, h1, h2, h3⟩
    · rw [splitOn_none s [] h1]
      simp [Lib.countFrom, h2, Lib.splitK]
    · have hne : (Lib.index s [c] == -1) = false := by rw [h3, beq_eq_false_iff_ne]; omega
      have hd : s.drop (n.length + 1) = r := by rw [h1, ← List.drop_drop, List.drop_left]; rfl
      have ht : s.take n.length = n := by rw [h1, List.take_left]
      have hc : Lib.countFrom [c] (f + 1) s = Lib.countFrom [c] f r + 1 := by
        simp only [Lib.countFrom, hne]
        rw [h3]
        simp only [Int.toNat_natCast, List.length_singleton, hd]
        simp; omega
      have hl := congrArg List.length h1
      simp only [List.length_append, List.length_cons] at hl
      rw [hc, Lib.splitK, hne, h3]
      simp only [Int.toNat_natCast, List.length_singleton, Nat.add_zero, ht, hd]
      rw [ih r (by omega), h1, splitOn_hit n [] h2]
      simp
theorem primStrSplit (L : Lays.n146 P ρ) (hi9 : (P.info? (ρ.t 9)).map (fun i => (i.zero, i.size, i.bytes)) = some (some (.string ByteArray.empty), 1, 16)) (hm : ∀ κ, g.inv κ → ∃ m, κ.C (ρ.g 1) 0 = some (.int .i64 m)) {pf : Func} (hpf : P.funcs[ρ.f 146]? = some pf) (hb : pf.body.isSome = true) (hn : pf.name ≠ "runtime.NumGoroutine") : PrimOK P g (ρ.f 146) pStrSplit := by
  refine prim_of_lays hpf hb hn (fun κ w args ps v hi hC hsz hargs hp => ?_)
  obtain ⟨m, hm⟩ := hm κ hi
  have hmc := hC _ _ _ hm
  unfold pStrSplit at hp
  split at hp
  · rename_i a c
    split at hp
    · rename_i hlen
      cases hp
      obtain ⟨u1, u2, rfl⟩ : ∃ u1 u2, args = #[u1, u2] := by
        obtain ⟨l⟩ := args
        match l, hsz with
        | [u1, u2], _ => exact ⟨u1, u2, rfl⟩
      have r1 := hargs 0 u1 _ rfl rfl
      have r2 := hargs 1 u2 _ rfl rfl
      cases r1 with | str sa _ ha => cases r2 with | str sb _ hb2 =>
      have hsa : sa.size = a.length := by rw [← ha]; simp
      have hsb : sb.size = 1 := by
        have := congrArg List.length hb2
        simpa using this
      refine ⟨_, _, _, Any.strings_Split L hi9 sa sb m w (by omega) hmc (by omega), ?_⟩
      -- the pieces
      obtain ⟨bs, hbs⟩ : ∃ bs, bs = Lib.splitB sb 0 (Lib.countB sa sb) sa := ⟨_, rfl⟩
      have hdat : bs.map (·.data.toList) = splitOn c [] a := by
        rw [hbs, Lib.splitB_data, hb2, ha]
        have hcnt : Lib.countB sa sb = Lib.countFrom [c] (a.length + 1) a := by
          show Lib.count sa.data.toList sb.data.toList = _
          rw [hb2, ha]; rfl
        rw [hcnt]
        exact splitK_on _ _ (by omega)
      have hlenb : bs.length = Lib.countB sa sb + 1 := by rw [hbs]; exact Lib.splitB_all sb (by omega) 0 _ sa rfl
      have hlen2 : (splitOn c [] a).length = bs.length := by rw [← hdat]; simp
      rw [← hbs, ← hlenb]
      have hflat : flat ((splitOn c [] a).map PV.str) = (splitOn c [] a).map PV.str := by
        generalize splitOn c [] a = xs
        induction xs with
        | nil => rfl
        | cons x xs ih => simp only [List.map_cons, flat, List.flatMap_cons, PV.cells] at ih ⊢; rw [ih]; rfl
      have hgetR : ∀ (i : Nat) (v : Value) (p : PV), (bs.map Value.string)[i]? = some v → ((splitOn c [] a).map PV.str)[i]? = some p → ∀ κ', R g κ' v p := by
        intro i v p h1 h2 κ'
        rw [← hdat] at h2
        simp only [List.getElem?_map, Option.map_eq_some_iff] at h1 h2
        obtain ⟨b, e1, rfl⟩ := h1
        obtain ⟨y, ⟨b2, e2, rfl⟩, rfl⟩ := h2
        rw [e1] at e2; cases e2
        exact .str b _ rfl
      refine .sl w.heap.size 0 bs.length bs.length 1 .no _ (bs.map Value.string) (by simp [hlen2]) (Nat.le_refl _) (fun x hx => ?_) (by rw [hflat]; simp [hlen2]) (fun i v hv => ?_) (fun i v p h1 h2 => ?_) ?_ ?_ trivial
      · obtain ⟨y, _, rfl⟩ := List.mem_map.1 hx; rfl
      · have hne : (bs.map Value.string).toArray[i]? = some v := by simpa using hv
        simp only [K.addC, Nat.zero_add, if_pos]
        rw [hne]
      · rw [hflat] at h2; exact hgetR i v p h1 h2 _
      · generalize splitOn c [] a = xs
        induction xs with
        | nil => rfl
        | cons x xs ih => simp [dataAll, PV.data, ih]
      · rw [hflat, List.all_eq_true]
        intro x hx
        obtain ⟨y, _, rfl⟩ := List.mem_map.1 hx; rfl
    · cases hp
  · cases hp
end Go.Ab

/-
  A row that lists variables: the wrap, the world's shape and what the listed variables hold kept.
-/
namespace Go.Ab
open Go
variable {H : Type} {enc : TypeId × Value → H}

theorem returns_laid_shaped {a : Assume} {C : Checked} {os : Os} {f : FuncId} {fn : Func} {s : ChangeSpec} {conds : List PathCond} {apart fresh handsOn again : Bool} (X : World → Prop) (hX : ∀ w w' : World, w.heap = w'.heap → X w → X w')
    (own : ownKnob C.prog.godebug = none) (started : os.Started) (noInit : C.prog.inits.idxOf? f = none) (hfn : C.prog.funcs[f]? = some fn)
    (witness : ∃ (w : World) (tape : Tape) (i : Input), w.os = os ∧ (w.forCall tape i).Shaped C.prog ∧ i.vars = [] ∧ Input.okWide C.prog (w.forCall tape i) .any w.heap.size f i ∧
      ((s.pre enc C.prog fn conds apart (w.forCall tape i).memory i.args ∧ X (w.forCall tape i).memory) ∧ sizedMet enc C.prog fn (OpenSpec.ofChange s) apart (w.forCall tape i).memory i.args) ∧ a.holds C.prog (lone (Frame.enter C.prog f i.args .normal) [] (w.forCall tape i)))
    (contract : ∀ (W : World) (base : Nat) (args : Array Value) (ds gs : List (DataW H)) (before : List MemPlace),
      (∀ (j : Nat) t v, fn.params[j]? = some t → args[j]? = some v → Value.okWide C.prog W .any base t v) →
      DataW.Whole enc C.prog fn.params.toList s.vars apart W args.toList ds gs before →
      X W →
      (DataW.weightsEach C.prog (fn.params.toList ++ s.plain.varTypes C.prog) (ds ++ gs)).all (· ≤ reachBytes) = true →
      W.ShapedOpen C.prog →
      a.holds C.prog (lone (Frame.enter C.prog f args .normal) [] W) →
      Calls C.prog f args W fun e W' => ∃ v, e = .returned v ∧ s.post enc C.prog fn apart fresh handsOn again W args v W') :
    ReturnsInHanded a C os f .any (fun w args => (s.pre enc C.prog fn conds apart w args ∧ X w) ∧ sizedMet enc C.prog fn (OpenSpec.ofChange s) apart w args) (s.post enc C.prog fn apart fresh handsOn again) := by
  refine returnsInHanded_of_calls own started noInit witness ?_
  intro w tape i _ hshape _ hok hpre hholds
  obtain ⟨_, _, _, fn2, hfn2, _, _, _, _, hval⟩ := hok
  obtain rfl : fn2 = fn := Option.some.inj (hfn2.symm.trans hfn)
  obtain ⟨⟨⟨ds, gs, before, hwhole, _⟩, hlaid⟩, hsized⟩ := hpre
  have hlaid2 : X (w.forCall tape i) := hX _ _ (by rfl) hlaid
  have hwhole2 := DataW.Whole.of_heap (w' := w.forCall tape i) (by rfl) hwhole
  have hrun := contract _ w.heap.size i.args ds gs before hval hwhole2 hlaid2 (hsized.weights hwhole) hshape hholds
  refine hrun.mono ?_
  rintro e W2 ⟨v, rfl, hpost⟩
  exact ChangeSpec.post_blind hpost
end Go.Ab
