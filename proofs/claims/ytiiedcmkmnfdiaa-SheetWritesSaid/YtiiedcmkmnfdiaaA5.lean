/-
  Where a text can be cut, by the document.
-/
import Derived.Test.YtiiedcmkmnfdiaaA4
import Derived.KernelRfl
import Derived.Test.YtiiedcmkmnfdiaaA2
import Derived.Shelf.Bytes.SlIndexWhole
import Derived.Shelf.Bytes.IndexByte
namespace Go.Ab
set_option linter.unusedVariables false
set_option linter.unusedSimpArgs false
variable {st s : St} {e : Env}

theorem drop_get {l : List UInt8} {i j : Nat} : (l.drop i).getD j 0 = l.getD (i + j) 0 := by simp [List.getD]

theorem rCut_spec {x : PV} {l : List UInt8} {m : Nat} (hx : x.by = some l) (hl : l.length ≤ 100000000) (hm : m ≤ 100000000) : call prog (.fn 63 []) [x, .int .i64 (m : Int)] st = some (.int .i64 ((cutOf l m : Nat) : Int), st) := by
  refine call_of_W prog_63 ?_
  unfold F_posthornref02_Cut; dsimp only
  have hv := fun S : St => rValid_spec (st := S) hx hl
  have e0 : ¬ (m : Int) < 0 := by omega
  cases hvl : validOf l with
  | false =>
    have hc : cutOf l m = min m l.length := by simp [cutOf, hvl]
    rw [hc]
    simp only [hvl] at hv
    by_cases hlt : m < l.length
    · simp (maxSteps := 1000000) (disch := omega) only [e0, hv, len_by hx, hlt, W_seq, W_region, W_cond, W_block, W_skip, W_label, W_exit, W_goto, W_ret, WO_cons, WO_consG, WO_nil, wantedA_eq, wantB, evOp, ev_tmp, ev_const, ev_fn, WN_some, WN_none, updO_some, updO_none, upd_eq,
 ↓reduceIte, Nat.reduceEqDiff, List.nil_append, List.cons_append, List.append_nil, List.map_cons, List.map_nil, env0_zero, env0_succ, env0_nil, Option.map_some, Option.map_none, seqQ_normal, seqQ_ret, seqQ_exit, seqQ_goto, blockQ_normal, blockQ_ret, blockQ_exit, blockQ_goto, condW_bool, loopQ_ret, loopQ_exit, loopQ_goto, endQ_ret, endQ_normal,
 lss_i, leq_i, gtr_i, geq_i, eql_i, neq_i, eql_8, neq_8, lss_8, leq_8, gtr_8, geq_8, eql_s, neq_s, eql_b, neq_b, not_b, by_bys, by_nils, load_cp1, beq_true, beq_false, Bool.not_eq_true', decide_eq_true_eq, decide_eq_false_iff_not, decide_true, decide_false,
 Int.toNat_natCast, Int.ofNat_lt, Int.ofNat_le, Int.natCast_inj, Bool.false_eq_true, Bool.true_eq_false, extPV, List.getElem?_cons_zero, List.getElem?_cons_succ, nilckPV, Int.reduceToNat, Int.reduceLE, true_and, and_true, reduceCtorEq, or_false, false_or, or_true, Option.some.injEq, exists_eq_left', Bool.not_true, Bool.not_false, ne_eq, Int.reduceEq, not_true_eq_false, not_false_eq_true, Int.reduceLT, UInt8.reduceLT, UInt8.reduceLE, UInt8.reduceToNat]
      exact ⟨.int .i64 (m : Int), rfl, by rw [Nat.min_eq_left (by omega)]; exact Kept.start.leave rfl (fun _ _ => rfl)⟩
    · simp (maxSteps := 1000000) (disch := omega) only [e0, hv, len_by hx, hlt, W_seq, W_region, W_cond, W_block, W_skip, W_label, W_exit, W_goto, W_ret, WO_cons, WO_consG, WO_nil, wantedA_eq, wantB, evOp, ev_tmp, ev_const, ev_fn, WN_some, WN_none, updO_some, updO_none, upd_eq,
 ↓reduceIte, Nat.reduceEqDiff, List.nil_append, List.cons_append, List.append_nil, List.map_cons, List.map_nil, env0_zero, env0_succ, env0_nil, Option.map_some, Option.map_none, seqQ_normal, seqQ_ret, seqQ_exit, seqQ_goto, blockQ_normal, blockQ_ret, blockQ_exit, blockQ_goto, condW_bool, loopQ_ret, loopQ_exit, loopQ_goto, endQ_ret, endQ_normal,
 lss_i, leq_i, gtr_i, geq_i, eql_i, neq_i, eql_8, neq_8, lss_8, leq_8, gtr_8, geq_8, eql_s, neq_s, eql_b, neq_b, not_b, by_bys, by_nils, load_cp1, beq_true, beq_false, Bool.not_eq_true', decide_eq_true_eq, decide_eq_false_iff_not, decide_true, decide_false,
 Int.toNat_natCast, Int.ofNat_lt, Int.ofNat_le, Int.natCast_inj, Bool.false_eq_true, Bool.true_eq_false, extPV, List.getElem?_cons_zero, List.getElem?_cons_succ, nilckPV, Int.reduceToNat, Int.reduceLE, true_and, and_true, reduceCtorEq, or_false, false_or, or_true, Option.some.injEq, exists_eq_left', Bool.not_true, Bool.not_false, ne_eq, Int.reduceEq, not_true_eq_false, not_false_eq_true, Int.reduceLT, UInt8.reduceLT, UInt8.reduceLE, UInt8.reduceToNat]
      exact ⟨.int .i64 (l.length : Int), rfl, by rw [Nat.min_eq_right (by omega)]; exact Kept.start.leave rfl (fun _ _ => rfl)⟩
  | true =>
    have hc : cutOf l m = back l (min m l.length) := by simp [cutOf, hvl]
    rw [hc]
    simp only [hvl] at hv
    have hok : ∃ r, ptsOf (l.length + 1) l 0 = .ok r := by
      unfold validOf at hvl
      cases h : ptsOf (l.length + 1) l 0 with
      | ok r => exact ⟨r, rfl⟩
      | error j => rw [h] at hvl; cases hvl
    simp (maxSteps := 1000000) (disch := omega) only [e0, hv, W_seq, W_region, W_cond, W_block, W_skip, W_label, W_exit, W_goto, W_ret, WO_cons, WO_consG, WO_nil, wantedA_eq, wantB, evOp, ev_tmp, ev_const, ev_fn, WN_some, WN_none, updO_some, updO_none, upd_eq,
 ↓reduceIte, Nat.reduceEqDiff, List.nil_append, List.cons_append, List.append_nil, List.map_cons, List.map_nil, env0_zero, env0_succ, env0_nil, Option.map_some, Option.map_none, seqQ_normal, seqQ_ret, seqQ_exit, seqQ_goto, blockQ_normal, blockQ_ret, blockQ_exit, blockQ_goto, condW_bool, loopQ_ret, loopQ_exit, loopQ_goto, endQ_ret, endQ_normal,
 lss_i, leq_i, gtr_i, geq_i, eql_i, neq_i, eql_8, neq_8, lss_8, leq_8, gtr_8, geq_8, eql_s, neq_s, eql_b, neq_b, not_b, by_bys, by_nils, load_cp1, beq_true, beq_false, Bool.not_eq_true', decide_eq_true_eq, decide_eq_false_iff_not, decide_true, decide_false,
 Int.toNat_natCast, Int.ofNat_lt, Int.ofNat_le, Int.natCast_inj, Bool.false_eq_true, Bool.true_eq_false, extPV, List.getElem?_cons_zero, List.getElem?_cons_succ, nilckPV, Int.reduceToNat, Int.reduceLE, true_and, and_true, reduceCtorEq, or_false, false_or, or_true, Option.some.injEq, exists_eq_left', Bool.not_true, Bool.not_false, ne_eq, Int.reduceEq, not_true_eq_false, not_false_eq_true, Int.reduceLT, UInt8.reduceLT, UInt8.reduceLE, UInt8.reduceToNat]
    obtain ⟨I, hI⟩ : ∃ I : Nat → Env → St → Prop, I = fun z E S => ∃ i k : Nat, z = l.length - i ∧ l.length + 1 - i ≤ k ∧ i ≤ l.length ∧ i ≤ m ∧ (∃ r, ptsOf k l i = .ok r) ∧ Kept st S ∧ E 0 = x ∧ E 1 = .int .i64 (m : Int) ∧ E 5 = .int .i64 (i : Int) := ⟨_, rfl⟩
    refine W_loop I ?_ (n := l.length) (by
      rw [hI]
      exact ⟨0, l.length + 1, rfl, by omega, by omega, by omega, hok, Kept.start, rfl, rfl, rfl⟩)
    intro z E S hh
    rw [hI] at hh
    obtain ⟨i, k, rfl, hki, hil, him, ⟨r, hr⟩, hk, h0, h1, h5⟩ := hh
    have fin : back l (min m l.length) = i → ∀ E : Env, E 4 = .int .i64 (i : Int) → ∃ rv, resOf E S [.tmp 4] = some rv ∧ leave st S rv = (.int .i64 ((back l (min m l.length) : Nat) : Int), st) := by
      intro hbi E k4
      exact ⟨.int .i64 (i : Int), by simp [resOf, rvAll, rv1, k4, notTup, packRes], by rw [hbi]; exact hk.leave rfl (fun _ _ => rfl)⟩
    by_cases hlt : i < l.length
    · obtain ⟨k, rfl⟩ : ∃ k', k = k' + 1 := ⟨k - 1, by omega⟩
      simp only [ptsOf, hlt, if_true] at hr
      have hsl := slc_lo (k := .i64) (c := (i : Int)) hx (by omega) (by simpa using hil)
      rw [Int.toNat_natCast] at hsl
      have hnx := fun S : St => rNext_spec (st := S) (dropB_by (i := i) hx) (by simp; omega)
      cases hno : nextOf (l.drop i) with
      | none => rw [hno] at hr; cases hr
      | some pn =>
        obtain ⟨p, n⟩ := pn
        rw [nextV_some hno] at hnx
        rw [hno] at hr
        simp only at hr
        obtain ⟨hn1, hn2, hn3⟩ := next_pos hno
        simp only [List.length_drop] at hn2
        have hr2 : ∃ r, ptsOf k l (i + n) = .ok r := by
          cases h : ptsOf k l (i + n) with
          | ok r => exact ⟨r, rfl⟩
          | error j => rw [h] at hr; cases hr
        obtain ⟨c1, c2⟩ := next_cont hno
        rw [drop_get, Nat.add_zero] at c1
        have hsub : ∀ ek, binPV .sub ek (.int .i64 (m : Int)) (.int .i64 (i : Int)) = some (.int .i64 ((m - i : Nat) : Int)) := fun ek => by
          have := sub_n (ek := ek) (a := m) (c := (i : Int)) (by omega) (by omega) (by omega)
          simpa using this
        by_cases hgt : m - i < n
        · simp (maxSteps := 1000000) (disch := omega) only [h0, h1, h5, len_by hx, hlt, hsl, hnx, hsub, hgt, W_seq, W_region, W_cond, W_block, W_skip, W_label, W_exit, W_goto, W_ret, WO_cons, WO_consG, WO_nil, wantedA_eq, wantB, evOp, ev_tmp, ev_const, ev_fn, WN_some, WN_none, updO_some, updO_none, upd_eq,
 ↓reduceIte, Nat.reduceEqDiff, List.nil_append, List.cons_append, List.append_nil, List.map_cons, List.map_nil, env0_zero, env0_succ, env0_nil, Option.map_some, Option.map_none, seqQ_normal, seqQ_ret, seqQ_exit, seqQ_goto, blockQ_normal, blockQ_ret, blockQ_exit, blockQ_goto, condW_bool, loopQ_ret, loopQ_exit, loopQ_goto, endQ_ret, endQ_normal,
 lss_i, leq_i, gtr_i, geq_i, eql_i, neq_i, eql_8, neq_8, lss_8, leq_8, gtr_8, geq_8, eql_s, neq_s, eql_b, neq_b, not_b, by_bys, by_nils, load_cp1, beq_true, beq_false, Bool.not_eq_true', decide_eq_true_eq, decide_eq_false_iff_not, decide_true, decide_false,
 Int.toNat_natCast, Int.ofNat_lt, Int.ofNat_le, Int.natCast_inj, Bool.false_eq_true, Bool.true_eq_false, extPV, List.getElem?_cons_zero, List.getElem?_cons_succ, nilckPV, Int.reduceToNat, Int.reduceLE, true_and, and_true, reduceCtorEq, or_false, false_or, or_true, Option.some.injEq, exists_eq_left', Bool.not_true, Bool.not_false, ne_eq, Int.reduceEq, not_true_eq_false, not_false_eq_true, Int.reduceLT, UInt8.reduceLT, UInt8.reduceLE, UInt8.reduceToNat]
          refine fin ?_ _ rfl
          rw [Nat.min_eq_left (by omega)]
          have := back_to (l := l) (i := i) (.inr fun h => c1 h.2) (m - i) (fun j j1 j2 => ⟨by omega, by
            have := c2 (j - i) (by omega) (by omega)
            rw [drop_get, show i + (j - i) = j by omega] at this
            exact this⟩)
          rw [show i + (m - i) = m by omega] at this
          exact this
        · simp (maxSteps := 1000000) (disch := omega) only [h0, h1, h5, len_by hx, hlt, hsl, hnx, hsub, hgt, add_n, W_seq, W_region, W_cond, W_block, W_skip, W_label, W_exit, W_goto, W_ret, WO_cons, WO_consG, WO_nil, wantedA_eq, wantB, evOp, ev_tmp, ev_const, ev_fn, WN_some, WN_none, updO_some, updO_none, upd_eq,
 ↓reduceIte, Nat.reduceEqDiff, List.nil_append, List.cons_append, List.append_nil, List.map_cons, List.map_nil, env0_zero, env0_succ, env0_nil, Option.map_some, Option.map_none, seqQ_normal, seqQ_ret, seqQ_exit, seqQ_goto, blockQ_normal, blockQ_ret, blockQ_exit, blockQ_goto, condW_bool, loopQ_ret, loopQ_exit, loopQ_goto, endQ_ret, endQ_normal,
 lss_i, leq_i, gtr_i, geq_i, eql_i, neq_i, eql_8, neq_8, lss_8, leq_8, gtr_8, geq_8, eql_s, neq_s, eql_b, neq_b, not_b, by_bys, by_nils, load_cp1, beq_true, beq_false, Bool.not_eq_true', decide_eq_true_eq, decide_eq_false_iff_not, decide_true, decide_false,
 Int.toNat_natCast, Int.ofNat_lt, Int.ofNat_le, Int.natCast_inj, Bool.false_eq_true, Bool.true_eq_false, extPV, List.getElem?_cons_zero, List.getElem?_cons_succ, nilckPV, Int.reduceToNat, Int.reduceLE, true_and, and_true, reduceCtorEq, or_false, false_or, or_true, Option.some.injEq, exists_eq_left', Bool.not_true, Bool.not_false, ne_eq, Int.reduceEq, not_true_eq_false, not_false_eq_true, Int.reduceLT, UInt8.reduceLT, UInt8.reduceLE, UInt8.reduceToNat]
          refine loopQ_intro (m := l.length - (i + n)) (by omega) ?_
          rw [hI]
          exact ⟨i + n, k, rfl, by omega, by omega, by omega, hr2, hk, h0, h1, rfl⟩
    · obtain rfl : i = l.length := by omega
      simp (maxSteps := 1000000) (disch := omega) only [h0, h1, h5, len_by hx, hlt, W_seq, W_region, W_cond, W_block, W_skip, W_label, W_exit, W_goto, W_ret, WO_cons, WO_consG, WO_nil, wantedA_eq, wantB, evOp, ev_tmp, ev_const, ev_fn, WN_some, WN_none, updO_some, updO_none, upd_eq,
 ↓reduceIte, Nat.reduceEqDiff, List.nil_append, List.cons_append, List.append_nil, List.map_cons, List.map_nil, env0_zero, env0_succ, env0_nil, Option.map_some, Option.map_none, seqQ_normal, seqQ_ret, seqQ_exit, seqQ_goto, blockQ_normal, blockQ_ret, blockQ_exit, blockQ_goto, condW_bool, loopQ_ret, loopQ_exit, loopQ_goto, endQ_ret, endQ_normal,
 lss_i, leq_i, gtr_i, geq_i, eql_i, neq_i, eql_8, neq_8, lss_8, leq_8, gtr_8, geq_8, eql_s, neq_s, eql_b, neq_b, not_b, by_bys, by_nils, load_cp1, beq_true, beq_false, Bool.not_eq_true', decide_eq_true_eq, decide_eq_false_iff_not, decide_true, decide_false,
 Int.toNat_natCast, Int.ofNat_lt, Int.ofNat_le, Int.natCast_inj, Bool.false_eq_true, Bool.true_eq_false, extPV, List.getElem?_cons_zero, List.getElem?_cons_succ, nilckPV, Int.reduceToNat, Int.reduceLE, true_and, and_true, reduceCtorEq, or_false, false_or, or_true, Option.some.injEq, exists_eq_left', Bool.not_true, Bool.not_false, ne_eq, Int.reduceEq, not_true_eq_false, not_false_eq_true, Int.reduceLT, UInt8.reduceLT, UInt8.reduceLE, UInt8.reduceToNat]
      refine fin ?_ _ rfl
      rw [Nat.min_eq_right him]
      exact back_to (l := l) (i := l.length) (.inr fun h => by omega) 0 (fun j j1 j2 => by omega)
end Go.Ab

/-
  Names and texts of a calendar's lines.
-/
namespace Go.Ab
set_option linter.unusedVariables false
set_option linter.unusedSimpArgs false
variable {st s : St} {e : Env}

def nmC (c : UInt8) : Bool := (decide (65 ≤ c) && decide (c ≤ 90)) || (decide (48 ≤ c) && decide (c ≤ 57)) || decide (c = 45)
def nmB (l : List UInt8) : Bool := decide (1 ≤ l.length) && decide (l.length ≤ 64) && l.all nmC
def txC (c : UInt8) : Bool := !(decide (c < 32) && !decide (c = 9)) && !decide (c = 127)
def txB (l : List UInt8) : Bool := l.all txC && validOf l

theorem sName_spec {l : List UInt8} (hl : l.length ≤ 1000000) : call prog (.fn 64 []) [.str l] st = some (.bool (nmB l), st) := by
  refine call_of_W prog_64 ?_
  unfold F_sheet_isName; dsimp only
  simp (maxSteps := 1000000) (disch := omega) only [len_s, W_seq, W_region, W_cond, W_block, W_skip, W_label, W_exit, W_goto, W_ret, WO_cons, WO_consG, WO_nil, wantedA_eq, wantB, evOp, ev_tmp, ev_const, ev_fn, WN_some, WN_none, updO_some, updO_none, upd_eq,
 ↓reduceIte, Nat.reduceEqDiff, List.nil_append, List.cons_append, List.append_nil, List.map_cons, List.map_nil, env0_zero, env0_succ, env0_nil, Option.map_some, Option.map_none, seqQ_normal, seqQ_ret, seqQ_exit, seqQ_goto, blockQ_normal, blockQ_ret, blockQ_exit, blockQ_goto, condW_bool, loopQ_ret, loopQ_exit, loopQ_goto, endQ_ret, endQ_normal,
 lss_i, leq_i, gtr_i, geq_i, eql_i, neq_i, eql_8, neq_8, lss_8, leq_8, gtr_8, geq_8, eql_s, neq_s, eql_b, neq_b, not_b, by_bys, by_nils, load_cp1, beq_true, beq_false, Bool.not_eq_true', decide_eq_true_eq, decide_eq_false_iff_not, decide_true, decide_false,
 Int.toNat_natCast, Int.ofNat_lt, Int.ofNat_le, Int.natCast_inj, Bool.false_eq_true, Bool.true_eq_false, extPV, List.getElem?_cons_zero, List.getElem?_cons_succ, nilckPV, Int.reduceToNat, Int.reduceLE, true_and, and_true, reduceCtorEq, or_false, false_or, or_true, Option.some.injEq, exists_eq_left', Bool.not_true, Bool.not_false, ne_eq, Int.reduceEq, not_true_eq_false, not_false_eq_true, Int.reduceLT, UInt8.reduceLT, UInt8.reduceLE, UInt8.reduceToNat]
  obtain ⟨I, hI⟩ : ∃ I : Nat → Env → St → Prop, I = fun k e s' => ∃ (i : Nat), k = l.length - i ∧ i ≤ l.length ∧ Kept st s' ∧ (∀ j, j < i → nmC (l.getD j 0) = true) ∧ e 0 = .str l ∧ e 6 = .int .i64 (l.length : Int) ∧ e 7 = .int .i64 (i : Int) := ⟨_, rfl⟩
  refine W_loop I ?_ (n := l.length) (by
    rw [hI]
    exact ⟨0, rfl, by omega, Kept.start, fun j h => by omega, rfl, rfl, rfl⟩)
  intro k e s' hh
  rw [hI] at hh
  obtain ⟨i, rfl, hi, hk, hall, h0, h6, h7⟩ := hh
  by_cases hlt : i < l.length
  · obtain ⟨c, hc⟩ : ∃ c, c = l.getD i 0 := ⟨_, rfl⟩
    have bad : nmC c = false → ∀ E : Env, E 2 = .bool false → ∃ rv, resOf E s' [.tmp 2] = some rv ∧ leave st s' rv = (.bool (nmB l), st) := fun h E k2 =>
      ⟨.bool false, by simp [resOf, rvAll, rv1, k2, notTup, packRes], by
        rw [show nmB l = false by simp only [nmB, all_bad (p := nmC) hlt (by rw [← hc]; exact h), Bool.and_false]]
        exact hk.leave rfl (fun _ _ => rfl)⟩
    have good : nmC c = true → ∀ E : Env, E 0 = .str l → E 6 = .int .i64 (l.length : Int) → E 7 = .int .i64 ((i + 1 : Nat) : Int) → I (l.length - (i + 1)) E s' := fun h E k0 k6 k7 => by
      rw [hI]
      refine ⟨i + 1, rfl, by omega, hk, fun j hj => ?_, k0, k6, k7⟩
      by_cases hji : j = i
      · subst hji; rw [← hc]; exact h
      · exact hall j (by omega)
    by_cases q1 : 65 ≤ c
    · by_cases q2 : c ≤ 90
      · simp (maxSteps := 1000000) (disch := omega) only [h0, h6, h7, hlt, idx_s, ← hc, q1, q2, add_n, W_seq, W_region, W_cond, W_block, W_skip, W_label, W_exit, W_goto, W_ret, WO_cons, WO_consG, WO_nil, wantedA_eq, wantB, evOp, ev_tmp, ev_const, ev_fn, WN_some, WN_none, updO_some, updO_none, upd_eq,
 ↓reduceIte, Nat.reduceEqDiff, List.nil_append, List.cons_append, List.append_nil, List.map_cons, List.map_nil, env0_zero, env0_succ, env0_nil, Option.map_some, Option.map_none, seqQ_normal, seqQ_ret, seqQ_exit, seqQ_goto, blockQ_normal, blockQ_ret, blockQ_exit, blockQ_goto, condW_bool, loopQ_ret, loopQ_exit, loopQ_goto, endQ_ret, endQ_normal,
 lss_i, leq_i, gtr_i, geq_i, eql_i, neq_i, eql_8, neq_8, lss_8, leq_8, gtr_8, geq_8, eql_s, neq_s, eql_b, neq_b, not_b, by_bys, by_nils, load_cp1, beq_true, beq_false, Bool.not_eq_true', decide_eq_true_eq, decide_eq_false_iff_not, decide_true, decide_false,
 Int.toNat_natCast, Int.ofNat_lt, Int.ofNat_le, Int.natCast_inj, Bool.false_eq_true, Bool.true_eq_false, extPV, List.getElem?_cons_zero, List.getElem?_cons_succ, nilckPV, Int.reduceToNat, Int.reduceLE, true_and, and_true, reduceCtorEq, or_false, false_or, or_true, Option.some.injEq, exists_eq_left', Bool.not_true, Bool.not_false, ne_eq, Int.reduceEq, not_true_eq_false, not_false_eq_true, Int.reduceLT, UInt8.reduceLT, UInt8.reduceLE, UInt8.reduceToNat]
        exact loopQ_intro (m := l.length - (i + 1)) (by omega) (good (by simp [nmC, q1, q2]) _ h0 h6 rfl)
      · by_cases q3 : 48 ≤ c
        · by_cases q4 : c ≤ 57
          · simp (maxSteps := 1000000) (disch := omega) only [h0, h6, h7, hlt, idx_s, ← hc, q1, q2, q3, q4, add_n, W_seq, W_region, W_cond, W_block, W_skip, W_label, W_exit, W_goto, W_ret, WO_cons, WO_consG, WO_nil, wantedA_eq, wantB, evOp, ev_tmp, ev_const, ev_fn, WN_some, WN_none, updO_some, updO_none, upd_eq,
 ↓reduceIte, Nat.reduceEqDiff, List.nil_append, List.cons_append, List.append_nil, List.map_cons, List.map_nil, env0_zero, env0_succ, env0_nil, Option.map_some, Option.map_none, seqQ_normal, seqQ_ret, seqQ_exit, seqQ_goto, blockQ_normal, blockQ_ret, blockQ_exit, blockQ_goto, condW_bool, loopQ_ret, loopQ_exit, loopQ_goto, endQ_ret, endQ_normal,
 lss_i, leq_i, gtr_i, geq_i, eql_i, neq_i, eql_8, neq_8, lss_8, leq_8, gtr_8, geq_8, eql_s, neq_s, eql_b, neq_b, not_b, by_bys, by_nils, load_cp1, beq_true, beq_false, Bool.not_eq_true', decide_eq_true_eq, decide_eq_false_iff_not, decide_true, decide_false,
 Int.toNat_natCast, Int.ofNat_lt, Int.ofNat_le, Int.natCast_inj, Bool.false_eq_true, Bool.true_eq_false, extPV, List.getElem?_cons_zero, List.getElem?_cons_succ, nilckPV, Int.reduceToNat, Int.reduceLE, true_and, and_true, reduceCtorEq, or_false, false_or, or_true, Option.some.injEq, exists_eq_left', Bool.not_true, Bool.not_false, ne_eq, Int.reduceEq, not_true_eq_false, not_false_eq_true, Int.reduceLT, UInt8.reduceLT, UInt8.reduceLE, UInt8.reduceToNat]
            exact loopQ_intro (m := l.length - (i + 1)) (by omega) (good (by simp [nmC, q3, q4]) _ h0 h6 rfl)
          · by_cases q5 : c = 45
            · simp (maxSteps := 1000000) (disch := omega) only [h0, h6, h7, hlt, idx_s, ← hc, q1, q2, q3, q4, eq_true q5, add_n, W_seq, W_region, W_cond, W_block, W_skip, W_label, W_exit, W_goto, W_ret, WO_cons, WO_consG, WO_nil, wantedA_eq, wantB, evOp, ev_tmp, ev_const, ev_fn, WN_some, WN_none, updO_some, updO_none, upd_eq,
 ↓reduceIte, Nat.reduceEqDiff, List.nil_append, List.cons_append, List.append_nil, List.map_cons, List.map_nil, env0_zero, env0_succ, env0_nil, Option.map_some, Option.map_none, seqQ_normal, seqQ_ret, seqQ_exit, seqQ_goto, blockQ_normal, blockQ_ret, blockQ_exit, blockQ_goto, condW_bool, loopQ_ret, loopQ_exit, loopQ_goto, endQ_ret, endQ_normal,
 lss_i, leq_i, gtr_i, geq_i, eql_i, neq_i, eql_8, neq_8, lss_8, leq_8, gtr_8, geq_8, eql_s, neq_s, eql_b, neq_b, not_b, by_bys, by_nils, load_cp1, beq_true, beq_false, Bool.not_eq_true', decide_eq_true_eq, decide_eq_false_iff_not, decide_true, decide_false,
 Int.toNat_natCast, Int.ofNat_lt, Int.ofNat_le, Int.natCast_inj, Bool.false_eq_true, Bool.true_eq_false, extPV, List.getElem?_cons_zero, List.getElem?_cons_succ, nilckPV, Int.reduceToNat, Int.reduceLE, true_and, and_true, reduceCtorEq, or_false, false_or, or_true, Option.some.injEq, exists_eq_left', Bool.not_true, Bool.not_false, ne_eq, Int.reduceEq, not_true_eq_false, not_false_eq_true, Int.reduceLT, UInt8.reduceLT, UInt8.reduceLE, UInt8.reduceToNat]
              exact loopQ_intro (m := l.length - (i + 1)) (by omega) (good (by simp [nmC, q5]) _ h0 h6 rfl)
            · simp (maxSteps := 1000000) (disch := omega) only [h0, h6, h7, hlt, idx_s, ← hc, q1, q2, q3, q4, q5, W_seq, W_region, W_cond, W_block, W_skip, W_label, W_exit, W_goto, W_ret, WO_cons, WO_consG, WO_nil, wantedA_eq, wantB, evOp, ev_tmp, ev_const, ev_fn, WN_some, WN_none, updO_some, updO_none, upd_eq,
 ↓reduceIte, Nat.reduceEqDiff, List.nil_append, List.cons_append, List.append_nil, List.map_cons, List.map_nil, env0_zero, env0_succ, env0_nil, Option.map_some, Option.map_none, seqQ_normal, seqQ_ret, seqQ_exit, seqQ_goto, blockQ_normal, blockQ_ret, blockQ_exit, blockQ_goto, condW_bool, loopQ_ret, loopQ_exit, loopQ_goto, endQ_ret, endQ_normal,
 lss_i, leq_i, gtr_i, geq_i, eql_i, neq_i, eql_8, neq_8, lss_8, leq_8, gtr_8, geq_8, eql_s, neq_s, eql_b, neq_b, not_b, by_bys, by_nils, load_cp1, beq_true, beq_false, Bool.not_eq_true', decide_eq_true_eq, decide_eq_false_iff_not, decide_true, decide_false,
 Int.toNat_natCast, Int.ofNat_lt, Int.ofNat_le, Int.natCast_inj, Bool.false_eq_true, Bool.true_eq_false, extPV, List.getElem?_cons_zero, List.getElem?_cons_succ, nilckPV, Int.reduceToNat, Int.reduceLE, true_and, and_true, reduceCtorEq, or_false, false_or, or_true, Option.some.injEq, exists_eq_left', Bool.not_true, Bool.not_false, ne_eq, Int.reduceEq, not_true_eq_false, not_false_eq_true, Int.reduceLT, UInt8.reduceLT, UInt8.reduceLE, UInt8.reduceToNat]
              exact bad (by simp [nmC, q2, q4, q5]) _ rfl
        · by_cases q5 : c = 45
          · simp (maxSteps := 1000000) (disch := omega) only [h0, h6, h7, hlt, idx_s, ← hc, q1, q2, q3, eq_true q5, add_n, W_seq, W_region, W_cond, W_block, W_skip, W_label, W_exit, W_goto, W_ret, WO_cons, WO_consG, WO_nil, wantedA_eq, wantB, evOp, ev_tmp, ev_const, ev_fn, WN_some, WN_none, updO_some, updO_none, upd_eq,
 ↓reduceIte, Nat.reduceEqDiff, List.nil_append, List.cons_append, List.append_nil, List.map_cons, List.map_nil, env0_zero, env0_succ, env0_nil, Option.map_some, Option.map_none, seqQ_normal, seqQ_ret, seqQ_exit, seqQ_goto, blockQ_normal, blockQ_ret, blockQ_exit, blockQ_goto, condW_bool, loopQ_ret, loopQ_exit, loopQ_goto, endQ_ret, endQ_normal,
 lss_i, leq_i, gtr_i, geq_i, eql_i, neq_i, eql_8, neq_8, lss_8, leq_8, gtr_8, geq_8, eql_s, neq_s, eql_b, neq_b, not_b, by_bys, by_nils, load_cp1, beq_true, beq_false, Bool.not_eq_true', decide_eq_true_eq, decide_eq_false_iff_not, decide_true, decide_false,
 Int.toNat_natCast, Int.ofNat_lt, Int.ofNat_le, Int.natCast_inj, Bool.false_eq_true, Bool.true_eq_false, extPV, List.getElem?_cons_zero, List.getElem?_cons_succ, nilckPV, Int.reduceToNat, Int.reduceLE, true_and, and_true, reduceCtorEq, or_false, false_or, or_true, Option.some.injEq, exists_eq_left', Bool.not_true, Bool.not_false, ne_eq, Int.reduceEq, not_true_eq_false, not_false_eq_true, Int.reduceLT, UInt8.reduceLT, UInt8.reduceLE, UInt8.reduceToNat]
            exact loopQ_intro (m := l.length - (i + 1)) (by omega) (good (by simp [nmC, q5]) _ h0 h6 rfl)
          · simp (maxSteps := 1000000) (disch := omega) only [h0, h6, h7, hlt, idx_s, ← hc, q1, q2, q3, q5, W_seq, W_region, W_cond, W_block, W_skip, W_label, W_exit, W_goto, W_ret, WO_cons, WO_consG, WO_nil, wantedA_eq, wantB, evOp, ev_tmp, ev_const, ev_fn, WN_some, WN_none, updO_some, updO_none, upd_eq,
 ↓reduceIte, Nat.reduceEqDiff, List.nil_append, List.cons_append, List.append_nil, List.map_cons, List.map_nil, env0_zero, env0_succ, env0_nil, Option.map_some, Option.map_none, seqQ_normal, seqQ_ret, seqQ_exit, seqQ_goto, blockQ_normal, blockQ_ret, blockQ_exit, blockQ_goto, condW_bool, loopQ_ret, loopQ_exit, loopQ_goto, endQ_ret, endQ_normal,
 lss_i, leq_i, gtr_i, geq_i, eql_i, neq_i, eql_8, neq_8, lss_8, leq_8, gtr_8, geq_8, eql_s, neq_s, eql_b, neq_b, not_b, by_bys, by_nils, load_cp1, beq_true, beq_false, Bool.not_eq_true', decide_eq_true_eq, decide_eq_false_iff_not, decide_true, decide_false,
 Int.toNat_natCast, Int.ofNat_lt, Int.ofNat_le, Int.natCast_inj, Bool.false_eq_true, Bool.true_eq_false, extPV, List.getElem?_cons_zero, List.getElem?_cons_succ, nilckPV, Int.reduceToNat, Int.reduceLE, true_and, and_true, reduceCtorEq, or_false, false_or, or_true, Option.some.injEq, exists_eq_left', Bool.not_true, Bool.not_false, ne_eq, Int.reduceEq, not_true_eq_false, not_false_eq_true, Int.reduceLT, UInt8.reduceLT, UInt8.reduceLE, UInt8.reduceToNat]
            exact bad (by simp [nmC, q2, q3, q5]) _ rfl
    · by_cases q3 : 48 ≤ c
      · by_cases q4 : c ≤ 57
        · simp (maxSteps := 1000000) (disch := omega) only [h0, h6, h7, hlt, idx_s, ← hc, q1, q3, q4, add_n, W_seq, W_region, W_cond, W_block, W_skip, W_label, W_exit, W_goto, W_ret, WO_cons, WO_consG, WO_nil, wantedA_eq, wantB, evOp, ev_tmp, ev_const, ev_fn, WN_some, WN_none, updO_some, updO_none, upd_eq,
 ↓reduceIte, Nat.reduceEqDiff, List.nil_append, List.cons_append, List.append_nil, List.map_cons, List.map_nil, env0_zero, env0_succ, env0_nil, Option.map_some, Option.map_none, seqQ_normal, seqQ_ret, seqQ_exit, seqQ_goto, blockQ_normal, blockQ_ret, blockQ_exit, blockQ_goto, condW_bool, loopQ_ret, loopQ_exit, loopQ_goto, endQ_ret, endQ_normal,
 lss_i, leq_i, gtr_i, geq_i, eql_i, neq_i, eql_8, neq_8, lss_8, leq_8, gtr_8, geq_8, eql_s, neq_s, eql_b, neq_b, not_b, by_bys, by_nils, load_cp1, beq_true, beq_false, Bool.not_eq_true', decide_eq_true_eq, decide_eq_false_iff_not, decide_true, decide_false,
 Int.toNat_natCast, Int.ofNat_lt, Int.ofNat_le, Int.natCast_inj, Bool.false_eq_true, Bool.true_eq_false, extPV, List.getElem?_cons_zero, List.getElem?_cons_succ, nilckPV, Int.reduceToNat, Int.reduceLE, true_and, and_true, reduceCtorEq, or_false, false_or, or_true, Option.some.injEq, exists_eq_left', Bool.not_true, Bool.not_false, ne_eq, Int.reduceEq, not_true_eq_false, not_false_eq_true, Int.reduceLT, UInt8.reduceLT, UInt8.reduceLE, UInt8.reduceToNat]
          exact loopQ_intro (m := l.length - (i + 1)) (by omega) (good (by simp [nmC, q3, q4]) _ h0 h6 rfl)
        · by_cases q5 : c = 45
          · simp (maxSteps := 1000000) (disch := omega) only [h0, h6, h7, hlt, idx_s, ← hc, q1, q3, q4, eq_true q5, add_n, W_seq, W_region, W_cond, W_block, W_skip, W_label, W_exit, W_goto, W_ret, WO_cons, WO_consG, WO_nil, wantedA_eq, wantB, evOp, ev_tmp, ev_const, ev_fn, WN_some, WN_none, updO_some, updO_none, upd_eq,
 ↓reduceIte, Nat.reduceEqDiff, List.nil_append, List.cons_append, List.append_nil, List.map_cons, List.map_nil, env0_zero, env0_succ, env0_nil, Option.map_some, Option.map_none, seqQ_normal, seqQ_ret, seqQ_exit, seqQ_goto, blockQ_normal, blockQ_ret, blockQ_exit, blockQ_goto, condW_bool, loopQ_ret, loopQ_exit, loopQ_goto, endQ_ret, endQ_normal,
 lss_i, leq_i, gtr_i, geq_i, eql_i, neq_i, eql_8, neq_8, lss_8, leq_8, gtr_8, geq_8, eql_s, neq_s, eql_b, neq_b, not_b, by_bys, by_nils, load_cp1, beq_true, beq_false, Bool.not_eq_true', decide_eq_true_eq, decide_eq_false_iff_not, decide_true, decide_false,
 Int.toNat_natCast, Int.ofNat_lt, Int.ofNat_le, Int.natCast_inj, Bool.false_eq_true, Bool.true_eq_false, extPV, List.getElem?_cons_zero, List.getElem?_cons_succ, nilckPV, Int.reduceToNat, Int.reduceLE, true_and, and_true, reduceCtorEq, or_false, false_or, or_true, Option.some.injEq, exists_eq_left', Bool.not_true, Bool.not_false, ne_eq, Int.reduceEq, not_true_eq_false, not_false_eq_true, Int.reduceLT, UInt8.reduceLT, UInt8.reduceLE, UInt8.reduceToNat]
            exact loopQ_intro (m := l.length - (i + 1)) (by omega) (good (by simp [nmC, q5]) _ h0 h6 rfl)
          · simp (maxSteps := 1000000) (disch := omega) only [h0, h6, h7, hlt, idx_s, ← hc, q1, q3, q4, q5, W_seq, W_region, W_cond, W_block, W_skip, W_label, W_exit, W_goto, W_ret, WO_cons, WO_consG, WO_nil, wantedA_eq, wantB, evOp, ev_tmp, ev_const, ev_fn, WN_some, WN_none, updO_some, updO_none, upd_eq,
 ↓reduceIte, Nat.reduceEqDiff, List.nil_append, List.cons_append, List.append_nil, List.map_cons, List.map_nil, env0_zero, env0_succ, env0_nil, Option.map_some, Option.map_none, seqQ_normal, seqQ_ret, seqQ_exit, seqQ_goto, blockQ_normal, blockQ_ret, blockQ_exit, blockQ_goto, condW_bool, loopQ_ret, loopQ_exit, loopQ_goto, endQ_ret, endQ_normal,
 lss_i, leq_i, gtr_i, geq_i, eql_i, neq_i, eql_8, neq_8, lss_8, leq_8, gtr_8, geq_8, eql_s, neq_s, eql_b, neq_b, not_b, by_bys, by_nils, load_cp1, beq_true, beq_false, Bool.not_eq_true', decide_eq_true_eq, decide_eq_false_iff_not, decide_true, decide_false,
 Int.toNat_natCast, Int.ofNat_lt, Int.ofNat_le, Int.natCast_inj, Bool.false_eq_true, Bool.true_eq_false, extPV, List.getElem?_cons_zero, List.getElem?_cons_succ, nilckPV, Int.reduceToNat, Int.reduceLE, true_and, and_true, reduceCtorEq, or_false, false_or, or_true, Option.some.injEq, exists_eq_left', Bool.not_true, Bool.not_false, ne_eq, Int.reduceEq, not_true_eq_false, not_false_eq_true, Int.reduceLT, UInt8.reduceLT, UInt8.reduceLE, UInt8.reduceToNat]
            exact bad (by simp [nmC, q1, q4, q5]) _ rfl
      · by_cases q5 : c = 45
        · simp (maxSteps := 1000000) (disch := omega) only [h0, h6, h7, hlt, idx_s, ← hc, q1, q3, eq_true q5, add_n, W_seq, W_region, W_cond, W_block, W_skip, W_label, W_exit, W_goto, W_ret, WO_cons, WO_consG, WO_nil, wantedA_eq, wantB, evOp, ev_tmp, ev_const, ev_fn, WN_some, WN_none, updO_some, updO_none, upd_eq,
 ↓reduceIte, Nat.reduceEqDiff, List.nil_append, List.cons_append, List.append_nil, List.map_cons, List.map_nil, env0_zero, env0_succ, env0_nil, Option.map_some, Option.map_none, seqQ_normal, seqQ_ret, seqQ_exit, seqQ_goto, blockQ_normal, blockQ_ret, blockQ_exit, blockQ_goto, condW_bool, loopQ_ret, loopQ_exit, loopQ_goto, endQ_ret, endQ_normal,
 lss_i, leq_i, gtr_i, geq_i, eql_i, neq_i, eql_8, neq_8, lss_8, leq_8, gtr_8, geq_8, eql_s, neq_s, eql_b, neq_b, not_b, by_bys, by_nils, load_cp1, beq_true, beq_false, Bool.not_eq_true', decide_eq_true_eq, decide_eq_false_iff_not, decide_true, decide_false,
 Int.toNat_natCast, Int.ofNat_lt, Int.ofNat_le, Int.natCast_inj, Bool.false_eq_true, Bool.true_eq_false, extPV, List.getElem?_cons_zero, List.getElem?_cons_succ, nilckPV, Int.reduceToNat, Int.reduceLE, true_and, and_true, reduceCtorEq, or_false, false_or, or_true, Option.some.injEq, exists_eq_left', Bool.not_true, Bool.not_false, ne_eq, Int.reduceEq, not_true_eq_false, not_false_eq_true, Int.reduceLT, UInt8.reduceLT, UInt8.reduceLE, UInt8.reduceToNat]
          exact loopQ_intro (m := l.length - (i + 1)) (by omega) (good (by simp [nmC, q5]) _ h0 h6 rfl)
        · simp (maxSteps := 1000000) (disch := omega) only [h0, h6, h7, hlt, idx_s, ← hc, q1, q3, q5, W_seq, W_region, W_cond, W_block, W_skip, W_label, W_exit, W_goto, W_ret, WO_cons, WO_consG, WO_nil, wantedA_eq, wantB, evOp, ev_tmp, ev_const, ev_fn, WN_some, WN_none, updO_some, updO_none, upd_eq,
 ↓reduceIte, Nat.reduceEqDiff, List.nil_append, List.cons_append, List.append_nil, List.map_cons, List.map_nil, env0_zero, env0_succ, env0_nil, Option.map_some, Option.map_none, seqQ_normal, seqQ_ret, seqQ_exit, seqQ_goto, blockQ_normal, blockQ_ret, blockQ_exit, blockQ_goto, condW_bool, loopQ_ret, loopQ_exit, loopQ_goto, endQ_ret, endQ_normal,
 lss_i, leq_i, gtr_i, geq_i, eql_i, neq_i, eql_8, neq_8, lss_8, leq_8, gtr_8, geq_8, eql_s, neq_s, eql_b, neq_b, not_b, by_bys, by_nils, load_cp1, beq_true, beq_false, Bool.not_eq_true', decide_eq_true_eq, decide_eq_false_iff_not, decide_true, decide_false,
 Int.toNat_natCast, Int.ofNat_lt, Int.ofNat_le, Int.natCast_inj, Bool.false_eq_true, Bool.true_eq_false, extPV, List.getElem?_cons_zero, List.getElem?_cons_succ, nilckPV, Int.reduceToNat, Int.reduceLE, true_and, and_true, reduceCtorEq, or_false, false_or, or_true, Option.some.injEq, exists_eq_left', Bool.not_true, Bool.not_false, ne_eq, Int.reduceEq, not_true_eq_false, not_false_eq_true, Int.reduceLT, UInt8.reduceLT, UInt8.reduceLE, UInt8.reduceToNat]
          exact bad (by simp [nmC, q1, q3, q5]) _ rfl
  · obtain rfl : i = l.length := by omega
    have ha := all_getD (p := nmC) hall
    by_cases g0 : l = []
    · simp (maxSteps := 1000000) (disch := omega) only [h0, h6, h7, hlt, eq_true g0, W_seq, W_region, W_cond, W_block, W_skip, W_label, W_exit, W_goto, W_ret, WO_cons, WO_consG, WO_nil, wantedA_eq, wantB, evOp, ev_tmp, ev_const, ev_fn, WN_some, WN_none, updO_some, updO_none, upd_eq,
 ↓reduceIte, Nat.reduceEqDiff, List.nil_append, List.cons_append, List.append_nil, List.map_cons, List.map_nil, env0_zero, env0_succ, env0_nil, Option.map_some, Option.map_none, seqQ_normal, seqQ_ret, seqQ_exit, seqQ_goto, blockQ_normal, blockQ_ret, blockQ_exit, blockQ_goto, condW_bool, loopQ_ret, loopQ_exit, loopQ_goto, endQ_ret, endQ_normal,
 lss_i, leq_i, gtr_i, geq_i, eql_i, neq_i, eql_8, neq_8, lss_8, leq_8, gtr_8, geq_8, eql_s, neq_s, eql_b, neq_b, not_b, by_bys, by_nils, load_cp1, beq_true, beq_false, Bool.not_eq_true', decide_eq_true_eq, decide_eq_false_iff_not, decide_true, decide_false,
 Int.toNat_natCast, Int.ofNat_lt, Int.ofNat_le, Int.natCast_inj, Bool.false_eq_true, Bool.true_eq_false, extPV, List.getElem?_cons_zero, List.getElem?_cons_succ, nilckPV, Int.reduceToNat, Int.reduceLE, true_and, and_true, reduceCtorEq, or_false, false_or, or_true, Option.some.injEq, exists_eq_left', Bool.not_true, Bool.not_false, ne_eq, Int.reduceEq, not_true_eq_false, not_false_eq_true, Int.reduceLT, UInt8.reduceLT, UInt8.reduceLE, UInt8.reduceToNat]
      exact ⟨.bool false, rfl, by rw [show nmB l = false by simp [nmB, g0]]; exact hk.leave rfl (fun _ _ => rfl)⟩
    · have hp := List.length_pos_iff.2 g0
      by_cases g2 : l.length ≤ 64
      · have e2 : (l.length : Int) ≤ 64 := by omega
        simp (maxSteps := 1000000) (disch := omega) only [h0, h6, h7, hlt, g0, len_s, e2, W_seq, W_region, W_cond, W_block, W_skip, W_label, W_exit, W_goto, W_ret, WO_cons, WO_consG, WO_nil, wantedA_eq, wantB, evOp, ev_tmp, ev_const, ev_fn, WN_some, WN_none, updO_some, updO_none, upd_eq,
 ↓reduceIte, Nat.reduceEqDiff, List.nil_append, List.cons_append, List.append_nil, List.map_cons, List.map_nil, env0_zero, env0_succ, env0_nil, Option.map_some, Option.map_none, seqQ_normal, seqQ_ret, seqQ_exit, seqQ_goto, blockQ_normal, blockQ_ret, blockQ_exit, blockQ_goto, condW_bool, loopQ_ret, loopQ_exit, loopQ_goto, endQ_ret, endQ_normal,
 lss_i, leq_i, gtr_i, geq_i, eql_i, neq_i, eql_8, neq_8, lss_8, leq_8, gtr_8, geq_8, eql_s, neq_s, eql_b, neq_b, not_b, by_bys, by_nils, load_cp1, beq_true, beq_false, Bool.not_eq_true', decide_eq_true_eq, decide_eq_false_iff_not, decide_true, decide_false,
 Int.toNat_natCast, Int.ofNat_lt, Int.ofNat_le, Int.natCast_inj, Bool.false_eq_true, Bool.true_eq_false, extPV, List.getElem?_cons_zero, List.getElem?_cons_succ, nilckPV, Int.reduceToNat, Int.reduceLE, true_and, and_true, reduceCtorEq, or_false, false_or, or_true, Option.some.injEq, exists_eq_left', Bool.not_true, Bool.not_false, ne_eq, Int.reduceEq, not_true_eq_false, not_false_eq_true, Int.reduceLT, UInt8.reduceLT, UInt8.reduceLE, UInt8.reduceToNat]
        exact ⟨.bool true, rfl, by rw [show nmB l = true by simp only [nmB, ha, Bool.and_true, Bool.and_eq_true, decide_eq_true_eq]; omega]; exact hk.leave rfl (fun _ _ => rfl)⟩
      · have e2 : ¬ (l.length : Int) ≤ 64 := by omega
        simp (maxSteps := 1000000) (disch := omega) only [h0, h6, h7, hlt, g0, len_s, e2, W_seq, W_region, W_cond, W_block, W_skip, W_label, W_exit, W_goto, W_ret, WO_cons, WO_consG, WO_nil, wantedA_eq, wantB, evOp, ev_tmp, ev_const, ev_fn, WN_some, WN_none, updO_some, updO_none, upd_eq,
 ↓reduceIte, Nat.reduceEqDiff, List.nil_append, List.cons_append, List.append_nil, List.map_cons, List.map_nil, env0_zero, env0_succ, env0_nil, Option.map_some, Option.map_none, seqQ_normal, seqQ_ret, seqQ_exit, seqQ_goto, blockQ_normal, blockQ_ret, blockQ_exit, blockQ_goto, condW_bool, loopQ_ret, loopQ_exit, loopQ_goto, endQ_ret, endQ_normal,
 lss_i, leq_i, gtr_i, geq_i, eql_i, neq_i, eql_8, neq_8, lss_8, leq_8, gtr_8, geq_8, eql_s, neq_s, eql_b, neq_b, not_b, by_bys, by_nils, load_cp1, beq_true, beq_false, Bool.not_eq_true', decide_eq_true_eq, decide_eq_false_iff_not, decide_true, decide_false,
 Int.toNat_natCast, Int.ofNat_lt, Int.ofNat_le, Int.natCast_inj, Bool.false_eq_true, Bool.true_eq_false, extPV, List.getElem?_cons_zero, List.getElem?_cons_succ, nilckPV, Int.reduceToNat, Int.reduceLE, true_and, and_true, reduceCtorEq, or_false, false_or, or_true, Option.some.injEq, exists_eq_left', Bool.not_true, Bool.not_false, ne_eq, Int.reduceEq, not_true_eq_false, not_false_eq_true, Int.reduceLT, UInt8.reduceLT, UInt8.reduceLE, UInt8.reduceToNat]
        exact ⟨.bool false, rfl, by rw [show nmB l = false by simp [nmB, g2]]; exact hk.leave rfl (fun _ _ => rfl)⟩
theorem rNm_spec {l : List UInt8} (hl : l.length ≤ 1000000) : call prog (.fn 67 []) [.str l] st = some (.bool (nmB l), st) := by
  refine call_of_W prog_67 ?_
  unfold F_posthornref10_Name; dsimp only
  simp (maxSteps := 1000000) (disch := omega) only [len_s, W_seq, W_region, W_cond, W_block, W_skip, W_label, W_exit, W_goto, W_ret, WO_cons, WO_consG, WO_nil, wantedA_eq, wantB, evOp, ev_tmp, ev_const, ev_fn, WN_some, WN_none, updO_some, updO_none, upd_eq,
 ↓reduceIte, Nat.reduceEqDiff, List.nil_append, List.cons_append, List.append_nil, List.map_cons, List.map_nil, env0_zero, env0_succ, env0_nil, Option.map_some, Option.map_none, seqQ_normal, seqQ_ret, seqQ_exit, seqQ_goto, blockQ_normal, blockQ_ret, blockQ_exit, blockQ_goto, condW_bool, loopQ_ret, loopQ_exit, loopQ_goto, endQ_ret, endQ_normal,
 lss_i, leq_i, gtr_i, geq_i, eql_i, neq_i, eql_8, neq_8, lss_8, leq_8, gtr_8, geq_8, eql_s, neq_s, eql_b, neq_b, not_b, by_bys, by_nils, load_cp1, beq_true, beq_false, Bool.not_eq_true', decide_eq_true_eq, decide_eq_false_iff_not, decide_true, decide_false,
 Int.toNat_natCast, Int.ofNat_lt, Int.ofNat_le, Int.natCast_inj, Bool.false_eq_true, Bool.true_eq_false, extPV, List.getElem?_cons_zero, List.getElem?_cons_succ, nilckPV, Int.reduceToNat, Int.reduceLE, true_and, and_true, reduceCtorEq, or_false, false_or, or_true, Option.some.injEq, exists_eq_left', Bool.not_true, Bool.not_false, ne_eq, Int.reduceEq, not_true_eq_false, not_false_eq_true, Int.reduceLT, UInt8.reduceLT, UInt8.reduceLE, UInt8.reduceToNat]
  obtain ⟨I, hI⟩ : ∃ I : Nat → Env → St → Prop, I = fun k e s' => ∃ (i : Nat), k = l.length - i ∧ i ≤ l.length ∧ Kept st s' ∧ (∀ j, j < i → nmC (l.getD j 0) = true) ∧ e 0 = .str l ∧ e 3 = .int .i64 (i : Int) := ⟨_, rfl⟩
  refine W_loop I ?_ (n := l.length) (by
    rw [hI]
    exact ⟨0, rfl, by omega, Kept.start, fun j h => by omega, rfl, rfl⟩)
  intro k e s' hh
  rw [hI] at hh
  obtain ⟨i, rfl, hi, hk, hall, h0, h7⟩ := hh
  by_cases hlt : i < l.length
  · obtain ⟨c, hc⟩ : ∃ c, c = l.getD i 0 := ⟨_, rfl⟩
    have bad : nmC c = false → ∀ E : Env, E 2 = .bool false → ∃ rv, resOf E s' [.tmp 2] = some rv ∧ leave st s' rv = (.bool (nmB l), st) := fun h E k2 =>
      ⟨.bool false, by simp [resOf, rvAll, rv1, k2, notTup, packRes], by
        rw [show nmB l = false by simp only [nmB, all_bad (p := nmC) hlt (by rw [← hc]; exact h), Bool.and_false]]
        exact hk.leave rfl (fun _ _ => rfl)⟩
    have good : nmC c = true → ∀ E : Env, E 0 = .str l → E 3 = .int .i64 ((i + 1 : Nat) : Int) → I (l.length - (i + 1)) E s' := fun h E k0 k7 => by
      rw [hI]
      refine ⟨i + 1, rfl, by omega, hk, fun j hj => ?_, k0, k7⟩
      by_cases hji : j = i
      · subst hji; rw [← hc]; exact h
      · exact hall j (by omega)
    by_cases q1 : 65 ≤ c
    · by_cases q2 : c ≤ 90
      · simp (maxSteps := 1000000) (disch := omega) only [h0, h7, len_s, hlt, idx_s, ← hc, q1, q2, add_n, W_seq, W_region, W_cond, W_block, W_skip, W_label, W_exit, W_goto, W_ret, WO_cons, WO_consG, WO_nil, wantedA_eq, wantB, evOp, ev_tmp, ev_const, ev_fn, WN_some, WN_none, updO_some, updO_none, upd_eq,
 ↓reduceIte, Nat.reduceEqDiff, List.nil_append, List.cons_append, List.append_nil, List.map_cons, List.map_nil, env0_zero, env0_succ, env0_nil, Option.map_some, Option.map_none, seqQ_normal, seqQ_ret, seqQ_exit, seqQ_goto, blockQ_normal, blockQ_ret, blockQ_exit, blockQ_goto, condW_bool, loopQ_ret, loopQ_exit, loopQ_goto, endQ_ret, endQ_normal,
 lss_i, leq_i, gtr_i, geq_i, eql_i, neq_i, eql_8, neq_8, lss_8, leq_8, gtr_8, geq_8, eql_s, neq_s, eql_b, neq_b, not_b, by_bys, by_nils, load_cp1, beq_true, beq_false, Bool.not_eq_true', decide_eq_true_eq, decide_eq_false_iff_not, decide_true, decide_false,
 Int.toNat_natCast, Int.ofNat_lt, Int.ofNat_le, Int.natCast_inj, Bool.false_eq_true, Bool.true_eq_false, extPV, List.getElem?_cons_zero, List.getElem?_cons_succ, nilckPV, Int.reduceToNat, Int.reduceLE, true_and, and_true, reduceCtorEq, or_false, false_or, or_true, Option.some.injEq, exists_eq_left', Bool.not_true, Bool.not_false, ne_eq, Int.reduceEq, not_true_eq_false, not_false_eq_true, Int.reduceLT, UInt8.reduceLT, UInt8.reduceLE, UInt8.reduceToNat]
        exact loopQ_intro (m := l.length - (i + 1)) (by omega) (good (by simp [nmC, q1, q2]) _ h0 rfl)
      · by_cases q3 : 48 ≤ c
        · by_cases q4 : c ≤ 57
          · simp (maxSteps := 1000000) (disch := omega) only [h0, h7, len_s, hlt, idx_s, ← hc, q1, q2, q3, q4, add_n, W_seq, W_region, W_cond, W_block, W_skip, W_label, W_exit, W_goto, W_ret, WO_cons, WO_consG, WO_nil, wantedA_eq, wantB, evOp, ev_tmp, ev_const, ev_fn, WN_some, WN_none, updO_some, updO_none, upd_eq,
 ↓reduceIte, Nat.reduceEqDiff, List.nil_append, List.cons_append, List.append_nil, List.map_cons, List.map_nil, env0_zero, env0_succ, env0_nil, Option.map_some, Option.map_none, seqQ_normal, seqQ_ret, seqQ_exit, seqQ_goto, blockQ_normal, blockQ_ret, blockQ_exit, blockQ_goto, condW_bool, loopQ_ret, loopQ_exit, loopQ_goto, endQ_ret, endQ_normal,
 lss_i, leq_i, gtr_i, geq_i, eql_i, neq_i, eql_8, neq_8, lss_8, leq_8, gtr_8, geq_8, eql_s, neq_s, eql_b, neq_b, not_b, by_bys, by_nils, load_cp1, beq_true, beq_false, Bool.not_eq_true', decide_eq_true_eq, decide_eq_false_iff_not, decide_true, decide_false,
 Int.toNat_natCast, Int.ofNat_lt, Int.ofNat_le, Int.natCast_inj, Bool.false_eq_true, Bool.true_eq_false, extPV, List.getElem?_cons_zero, List.getElem?_cons_succ, nilckPV, Int.reduceToNat, Int.reduceLE, true_and, and_true, reduceCtorEq, or_false, false_or, or_true, Option.some.injEq, exists_eq_left', Bool.not_true, Bool.not_false, ne_eq, Int.reduceEq, not_true_eq_false, not_false_eq_true, Int.reduceLT, UInt8.reduceLT, UInt8.reduceLE, UInt8.reduceToNat]
            exact loopQ_intro (m := l.length - (i + 1)) (by omega) (good (by simp [nmC, q3, q4]) _ h0 rfl)
          · by_cases q5 : c = 45
            · simp (maxSteps := 1000000) (disch := omega) only [h0, h7, len_s, hlt, idx_s, ← hc, q1, q2, q3, q4, eq_true q5, add_n, W_seq, W_region, W_cond, W_block, W_skip, W_label, W_exit, W_goto, W_ret, WO_cons, WO_consG, WO_nil, wantedA_eq, wantB, evOp, ev_tmp, ev_const, ev_fn, WN_some, WN_none, updO_some, updO_none, upd_eq,
 ↓reduceIte, Nat.reduceEqDiff, List.nil_append, List.cons_append, List.append_nil, List.map_cons, List.map_nil, env0_zero, env0_succ, env0_nil, Option.map_some, Option.map_none, seqQ_normal, seqQ_ret, seqQ_exit, seqQ_goto, blockQ_normal, blockQ_ret, blockQ_exit, blockQ_goto, condW_bool, loopQ_ret, loopQ_exit, loopQ_goto, endQ_ret, endQ_normal,
 lss_i, leq_i, gtr_i, geq_i, eql_i, neq_i, eql_8, neq_8, lss_8, leq_8, gtr_8, geq_8, eql_s, neq_s, eql_b, neq_b, not_b, by_bys, by_nils, load_cp1, beq_true, beq_false, Bool.not_eq_true', decide_eq_true_eq, decide_eq_false_iff_not, decide_true, decide_false,
 Int.toNat_natCast, Int.ofNat_lt, Int.ofNat_le, Int.natCast_inj, Bool.false_eq_true, Bool.true_eq_false, extPV, List.getElem?_cons_zero, List.getElem?_cons_succ, nilckPV, Int.reduceToNat, Int.reduceLE, true_and, and_true, reduceCtorEq, or_false, false_or, or_true, Option.some.injEq, exists_eq_left', Bool.not_true, Bool.not_false, ne_eq, Int.reduceEq, not_true_eq_false, not_false_eq_true, Int.reduceLT, UInt8.reduceLT, UInt8.reduceLE, UInt8.reduceToNat]
              exact loopQ_intro (m := l.length - (i + 1)) (by omega) (good (by simp [nmC, q5]) _ h0 rfl)
            · simp (maxSteps := 1000000) (disch := omega) only [h0, h7, len_s, hlt, idx_s, ← hc, q1, q2, q3, q4, q5, W_seq, W_region, W_cond, W_block, W_skip, W_label, W_exit, W_goto, W_ret, WO_cons, WO_consG, WO_nil, wantedA_eq, wantB, evOp, ev_tmp, ev_const, ev_fn, WN_some, WN_none, updO_some, updO_none, upd_eq,
 ↓reduceIte, Nat.reduceEqDiff, List.nil_append, List.cons_append, List.append_nil, List.map_cons, List.map_nil, env0_zero, env0_succ, env0_nil, Option.map_some, Option.map_none, seqQ_normal, seqQ_ret, seqQ_exit, seqQ_goto, blockQ_normal, blockQ_ret, blockQ_exit, blockQ_goto, condW_bool, loopQ_ret, loopQ_exit, loopQ_goto, endQ_ret, endQ_normal,
 lss_i, leq_i, gtr_i, geq_i, eql_i, neq_i, eql_8, neq_8, lss_8, leq_8, gtr_8, geq_8, eql_s, neq_s, eql_b, neq_b, not_b, by_bys, by_nils, load_cp1, beq_true, beq_false, Bool.not_eq_true', decide_eq_true_eq, decide_eq_false_iff_not, decide_true, decide_false,
 Int.toNat_natCast, Int.ofNat_lt, Int.ofNat_le, Int.natCast_inj, Bool.false_eq_true, Bool.true_eq_false, extPV, List.getElem?_cons_zero, List.getElem?_cons_succ, nilckPV, Int.reduceToNat, Int.reduceLE, true_and, and_true, reduceCtorEq, or_false, false_or, or_true, Option.some.injEq, exists_eq_left', Bool.not_true, Bool.not_false, ne_eq, Int.reduceEq, not_true_eq_false, not_false_eq_true, Int.reduceLT, UInt8.reduceLT, UInt8.reduceLE, UInt8.reduceToNat]
              exact bad (by simp [nmC, q2, q4, q5]) _ rfl
        · by_cases q5 : c = 45
          · simp (maxSteps := 1000000) (disch := omega) only [h0, h7, len_s, hlt, idx_s, ← hc, q1, q2, q3, eq_true q5, add_n, W_seq, W_region, W_cond, W_block, W_skip, W_label, W_exit, W_goto, W_ret, WO_cons, WO_consG, WO_nil, wantedA_eq, wantB, evOp, ev_tmp, ev_const, ev_fn, WN_some, WN_none, updO_some, updO_none, upd_eq,
 ↓reduceIte, Nat.reduceEqDiff, List.nil_append, List.cons_append, List.append_nil, List.map_cons, List.map_nil, env0_zero, env0_succ, env0_nil, Option.map_some, Option.map_none, seqQ_normal, seqQ_ret, seqQ_exit, seqQ_goto, blockQ_normal, blockQ_ret, blockQ_exit, blockQ_goto, condW_bool, loopQ_ret, loopQ_exit, loopQ_goto, endQ_ret, endQ_normal,
 lss_i, leq_i, gtr_i, geq_i, eql_i, neq_i, eql_8, neq_8, lss_8, leq_8, gtr_8, geq_8, eql_s, neq_s, eql_b, neq_b, not_b, by_bys, by_nils, load_cp1, beq_true, beq_false, Bool.not_eq_true', decide_eq_true_eq, decide_eq_false_iff_not, decide_true, decide_false,
 Int.toNat_natCast, Int.ofNat_lt, Int.ofNat_le, Int.natCast_inj, Bool.false_eq_true, Bool.true_eq_false, extPV, List.getElem?_cons_zero, List.getElem?_cons_succ, nilckPV, Int.reduceToNat, Int.reduceLE, true_and, and_true, reduceCtorEq, or_false, false_or, or_true, Option.some.injEq, exists_eq_left', Bool.not_true, Bool.not_false, ne_eq, Int.reduceEq, not_true_eq_false, not_false_eq_true, Int.reduceLT, UInt8.reduceLT, UInt8.reduceLE, UInt8.reduceToNat]
            exact loopQ_intro (m := l.length - (i + 1)) (by omega) (good (by simp [nmC, q5]) _ h0 rfl)
          · simp (maxSteps := 1000000) (disch := omega) only [h0, h7, len_s, hlt, idx_s, ← hc, q1, q2, q3, q5, W_seq, W_region, W_cond, W_block, W_skip, W_label, W_exit, W_goto, W_ret, WO_cons, WO_consG, WO_nil, wantedA_eq, wantB, evOp, ev_tmp, ev_const, ev_fn, WN_some, WN_none, updO_some, updO_none, upd_eq,
 ↓reduceIte, Nat.reduceEqDiff, List.nil_append, List.cons_append, List.append_nil, List.map_cons, List.map_nil, env0_zero, env0_succ, env0_nil, Option.map_some, Option.map_none, seqQ_normal, seqQ_ret, seqQ_exit, seqQ_goto, blockQ_normal, blockQ_ret, blockQ_exit, blockQ_goto, condW_bool, loopQ_ret, loopQ_exit, loopQ_goto, endQ_ret, endQ_normal,
 lss_i, leq_i, gtr_i, geq_i, eql_i, neq_i, eql_8, neq_8, lss_8, leq_8, gtr_8, geq_8, eql_s, neq_s, eql_b, neq_b, not_b, by_bys, by_nils, load_cp1, beq_true, beq_false, Bool.not_eq_true', decide_eq_true_eq, decide_eq_false_iff_not, decide_true, decide_false,
 Int.toNat_natCast, Int.ofNat_lt, Int.ofNat_le, Int.natCast_inj, Bool.false_eq_true, Bool.true_eq_false, extPV, List.getElem?_cons_zero, List.getElem?_cons_succ, nilckPV, Int.reduceToNat, Int.reduceLE, true_and, and_true, reduceCtorEq, or_false, false_or, or_true, Option.some.injEq, exists_eq_left', Bool.not_true, Bool.not_false, ne_eq, Int.reduceEq, not_true_eq_false, not_false_eq_true, Int.reduceLT, UInt8.reduceLT, UInt8.reduceLE, UInt8.reduceToNat]
            exact bad (by simp [nmC, q2, q3, q5]) _ rfl
    · by_cases q3 : 48 ≤ c
      · by_cases q4 : c ≤ 57
        · simp (maxSteps := 1000000) (disch := omega) only [h0, h7, len_s, hlt, idx_s, ← hc, q1, q3, q4, add_n, W_seq, W_region, W_cond, W_block, W_skip, W_label, W_exit, W_goto, W_ret, WO_cons, WO_consG, WO_nil, wantedA_eq, wantB, evOp, ev_tmp, ev_const, ev_fn, WN_some, WN_none, updO_some, updO_none, upd_eq,
 ↓reduceIte, Nat.reduceEqDiff, List.nil_append, List.cons_append, List.append_nil, List.map_cons, List.map_nil, env0_zero, env0_succ, env0_nil, Option.map_some, Option.map_none, seqQ_normal, seqQ_ret, seqQ_exit, seqQ_goto, blockQ_normal, blockQ_ret, blockQ_exit, blockQ_goto, condW_bool, loopQ_ret, loopQ_exit, loopQ_goto, endQ_ret, endQ_normal,
 lss_i, leq_i, gtr_i, geq_i, eql_i, neq_i, eql_8, neq_8, lss_8, leq_8, gtr_8, geq_8, eql_s, neq_s, eql_b, neq_b, not_b, by_bys, by_nils, load_cp1, beq_true, beq_false, Bool.not_eq_true', decide_eq_true_eq, decide_eq_false_iff_not, decide_true, decide_false,
 Int.toNat_natCast, Int.ofNat_lt, Int.ofNat_le, Int.natCast_inj, Bool.false_eq_true, Bool.true_eq_false, extPV, List.getElem?_cons_zero, List.getElem?_cons_succ, nilckPV, Int.reduceToNat, Int.reduceLE, true_and, and_true, reduceCtorEq, or_false, false_or, or_true, Option.some.injEq, exists_eq_left', Bool.not_true, Bool.not_false, ne_eq, Int.reduceEq, not_true_eq_false, not_false_eq_true, Int.reduceLT, UInt8.reduceLT, UInt8.reduceLE, UInt8.reduceToNat]
          exact loopQ_intro (m := l.length - (i + 1)) (by omega) (good (by simp [nmC, q3, q4]) _ h0 rfl)
        · by_cases q5 : c = 45
          · simp (maxSteps := 1000000) (disch := omega) only [h0, h7, len_s, hlt, idx_s, ← hc, q1, q3, q4, eq_true q5, add_n, W_seq, W_region, W_cond, W_block, W_skip, W_label, W_exit, W_goto, W_ret, WO_cons, WO_consG, WO_nil, wantedA_eq, wantB, evOp, ev_tmp, ev_const, ev_fn, WN_some, WN_none, updO_some, updO_none, upd_eq,
 ↓reduceIte, Nat.reduceEqDiff, List.nil_append, List.cons_append, List.append_nil, List.map_cons, List.map_nil, env0_zero, env0_succ, env0_nil, Option.map_some, Option.map_none, seqQ_normal, seqQ_ret, seqQ_exit, seqQ_goto, blockQ_normal, blockQ_ret, blockQ_exit, blockQ_goto, condW_bool, loopQ_ret, loopQ_exit, loopQ_goto, endQ_ret, endQ_normal,
 lss_i, leq_i, gtr_i, geq_i, eql_i, neq_i, eql_8, neq_8, lss_8, leq_8, gtr_8, geq_8, eql_s, neq_s, eql_b, neq_b, not_b, by_bys, by_nils, load_cp1, beq_true, beq_false, Bool.not_eq_true', decide_eq_true_eq, decide_eq_false_iff_not, decide_true, decide_false,
 Int.toNat_natCast, Int.ofNat_lt, Int.ofNat_le, Int.natCast_inj, Bool.false_eq_true, Bool.true_eq_false, extPV, List.getElem?_cons_zero, List.getElem?_cons_succ, nilckPV, Int.reduceToNat, Int.reduceLE, true_and, and_true, reduceCtorEq, or_false, false_or, or_true, Option.some.injEq, exists_eq_left', Bool.not_true, Bool.not_false, ne_eq, Int.reduceEq, not_true_eq_false, not_false_eq_true, Int.reduceLT, UInt8.reduceLT, UInt8.reduceLE, UInt8.reduceToNat]
            exact loopQ_intro (m := l.length - (i + 1)) (by omega) (good (by simp [nmC, q5]) _ h0 rfl)
          · simp (maxSteps := 1000000) (disch := omega) only [h0, h7, len_s, hlt, idx_s, ← hc, q1, q3, q4, q5, W_seq, W_region, W_cond, W_block, W_skip, W_label, W_exit, W_goto, W_ret, WO_cons, WO_consG, WO_nil, wantedA_eq, wantB, evOp, ev_tmp, ev_const, ev_fn, WN_some, WN_none, updO_some, updO_none, upd_eq,
 ↓reduceIte, Nat.reduceEqDiff, List.nil_append, List.cons_append, List.append_nil, List.map_cons, List.map_nil, env0_zero, env0_succ, env0_nil, Option.map_some, Option.map_none, seqQ_normal, seqQ_ret, seqQ_exit, seqQ_goto, blockQ_normal, blockQ_ret, blockQ_exit, blockQ_goto, condW_bool, loopQ_ret, loopQ_exit, loopQ_goto, endQ_ret, endQ_normal,
 lss_i, leq_i, gtr_i, geq_i, eql_i, neq_i, eql_8, neq_8, lss_8, leq_8, gtr_8, geq_8, eql_s, neq_s, eql_b, neq_b, not_b, by_bys, by_nils, load_cp1, beq_true, beq_false, Bool.not_eq_true', decide_eq_true_eq, decide_eq_false_iff_not, decide_true, decide_false,
 Int.toNat_natCast, Int.ofNat_lt, Int.ofNat_le, Int.natCast_inj, Bool.false_eq_true, Bool.true_eq_false, extPV, List.getElem?_cons_zero, List.getElem?_cons_succ, nilckPV, Int.reduceToNat, Int.reduceLE, true_and, and_true, reduceCtorEq, or_false, false_or, or_true, Option.some.injEq, exists_eq_left', Bool.not_true, Bool.not_false, ne_eq, Int.reduceEq, not_true_eq_false, not_false_eq_true, Int.reduceLT, UInt8.reduceLT, UInt8.reduceLE, UInt8.reduceToNat]
            exact bad (by simp [nmC, q1, q4, q5]) _ rfl
      · by_cases q5 : c = 45
        · simp (maxSteps := 1000000) (disch := omega) only [h0, h7, len_s, hlt, idx_s, ← hc, q1, q3, eq_true q5, add_n, W_seq, W_region, W_cond, W_block, W_skip, W_label, W_exit, W_goto, W_ret, WO_cons, WO_consG, WO_nil, wantedA_eq, wantB, evOp, ev_tmp, ev_const, ev_fn, WN_some, WN_none, updO_some, updO_none, upd_eq,
 ↓reduceIte, Nat.reduceEqDiff, List.nil_append, List.cons_append, List.append_nil, List.map_cons, List.map_nil, env0_zero, env0_succ, env0_nil, Option.map_some, Option.map_none, seqQ_normal, seqQ_ret, seqQ_exit, seqQ_goto, blockQ_normal, blockQ_ret, blockQ_exit, blockQ_goto, condW_bool, loopQ_ret, loopQ_exit, loopQ_goto, endQ_ret, endQ_normal,
 lss_i, leq_i, gtr_i, geq_i, eql_i, neq_i, eql_8, neq_8, lss_8, leq_8, gtr_8, geq_8, eql_s, neq_s, eql_b, neq_b, not_b, by_bys, by_nils, load_cp1, beq_true, beq_false, Bool.not_eq_true', decide_eq_true_eq, decide_eq_false_iff_not, decide_true, decide_false,
 Int.toNat_natCast, Int.ofNat_lt, Int.ofNat_le, Int.natCast_inj, Bool.false_eq_true, Bool.true_eq_false, extPV, List.getElem?_cons_zero, List.getElem?_cons_succ, nilckPV, Int.reduceToNat, Int.reduceLE, true_and, and_true, reduceCtorEq, or_false, false_or, or_true, Option.some.injEq, exists_eq_left', Bool.not_true, Bool.not_false, ne_eq, Int.reduceEq, not_true_eq_false, not_false_eq_true, Int.reduceLT, UInt8.reduceLT, UInt8.reduceLE, UInt8.reduceToNat]
          exact loopQ_intro (m := l.length - (i + 1)) (by omega) (good (by simp [nmC, q5]) _ h0 rfl)
        · simp (maxSteps := 1000000) (disch := omega) only [h0, h7, len_s, hlt, idx_s, ← hc, q1, q3, q5, W_seq, W_region, W_cond, W_block, W_skip, W_label, W_exit, W_goto, W_ret, WO_cons, WO_consG, WO_nil, wantedA_eq, wantB, evOp, ev_tmp, ev_const, ev_fn, WN_some, WN_none, updO_some, updO_none, upd_eq,
 ↓reduceIte, Nat.reduceEqDiff, List.nil_append, List.cons_append, List.append_nil, List.map_cons, List.map_nil, env0_zero, env0_succ, env0_nil, Option.map_some, Option.map_none, seqQ_normal, seqQ_ret, seqQ_exit, seqQ_goto, blockQ_normal, blockQ_ret, blockQ_exit, blockQ_goto, condW_bool, loopQ_ret, loopQ_exit, loopQ_goto, endQ_ret, endQ_normal,
 lss_i, leq_i, gtr_i, geq_i, eql_i, neq_i, eql_8, neq_8, lss_8, leq_8, gtr_8, geq_8, eql_s, neq_s, eql_b, neq_b, not_b, by_bys, by_nils, load_cp1, beq_true, beq_false, Bool.not_eq_true', decide_eq_true_eq, decide_eq_false_iff_not, decide_true, decide_false,
 Int.toNat_natCast, Int.ofNat_lt, Int.ofNat_le, Int.natCast_inj, Bool.false_eq_true, Bool.true_eq_false, extPV, List.getElem?_cons_zero, List.getElem?_cons_succ, nilckPV, Int.reduceToNat, Int.reduceLE, true_and, and_true, reduceCtorEq, or_false, false_or, or_true, Option.some.injEq, exists_eq_left', Bool.not_true, Bool.not_false, ne_eq, Int.reduceEq, not_true_eq_false, not_false_eq_true, Int.reduceLT, UInt8.reduceLT, UInt8.reduceLE, UInt8.reduceToNat]
          exact bad (by simp [nmC, q1, q3, q5]) _ rfl
  · obtain rfl : i = l.length := by omega
    have ha := all_getD (p := nmC) hall
    by_cases g1 : 1 ≤ l.length
    · have e1 : (1 : Int) ≤ (l.length : Int) := by omega
      by_cases g2 : l.length ≤ 64
      · have e2 : (l.length : Int) ≤ 64 := by omega
        simp (maxSteps := 1000000) (disch := omega) only [h0, h7, hlt, len_s, e1, e2, W_seq, W_region, W_cond, W_block, W_skip, W_label, W_exit, W_goto, W_ret, WO_cons, WO_consG, WO_nil, wantedA_eq, wantB, evOp, ev_tmp, ev_const, ev_fn, WN_some, WN_none, updO_some, updO_none, upd_eq,
 ↓reduceIte, Nat.reduceEqDiff, List.nil_append, List.cons_append, List.append_nil, List.map_cons, List.map_nil, env0_zero, env0_succ, env0_nil, Option.map_some, Option.map_none, seqQ_normal, seqQ_ret, seqQ_exit, seqQ_goto, blockQ_normal, blockQ_ret, blockQ_exit, blockQ_goto, condW_bool, loopQ_ret, loopQ_exit, loopQ_goto, endQ_ret, endQ_normal,
 lss_i, leq_i, gtr_i, geq_i, eql_i, neq_i, eql_8, neq_8, lss_8, leq_8, gtr_8, geq_8, eql_s, neq_s, eql_b, neq_b, not_b, by_bys, by_nils, load_cp1, beq_true, beq_false, Bool.not_eq_true', decide_eq_true_eq, decide_eq_false_iff_not, decide_true, decide_false,
 Int.toNat_natCast, Int.ofNat_lt, Int.ofNat_le, Int.natCast_inj, Bool.false_eq_true, Bool.true_eq_false, extPV, List.getElem?_cons_zero, List.getElem?_cons_succ, nilckPV, Int.reduceToNat, Int.reduceLE, true_and, and_true, reduceCtorEq, or_false, false_or, or_true, Option.some.injEq, exists_eq_left', Bool.not_true, Bool.not_false, ne_eq, Int.reduceEq, not_true_eq_false, not_false_eq_true, Int.reduceLT, UInt8.reduceLT, UInt8.reduceLE, UInt8.reduceToNat]
        exact ⟨.bool true, rfl, by rw [show nmB l = true by simp only [nmB, ha, Bool.and_true, Bool.and_eq_true, decide_eq_true_eq]; omega]; exact hk.leave rfl (fun _ _ => rfl)⟩
      · have e2 : ¬ (l.length : Int) ≤ 64 := by omega
        simp (maxSteps := 1000000) (disch := omega) only [h0, h7, hlt, len_s, e1, e2, W_seq, W_region, W_cond, W_block, W_skip, W_label, W_exit, W_goto, W_ret, WO_cons, WO_consG, WO_nil, wantedA_eq, wantB, evOp, ev_tmp, ev_const, ev_fn, WN_some, WN_none, updO_some, updO_none, upd_eq,
 ↓reduceIte, Nat.reduceEqDiff, List.nil_append, List.cons_append, List.append_nil, List.map_cons, List.map_nil, env0_zero, env0_succ, env0_nil, Option.map_some, Option.map_none, seqQ_normal, seqQ_ret, seqQ_exit, seqQ_goto, blockQ_normal, blockQ_ret, blockQ_exit, blockQ_goto, condW_bool, loopQ_ret, loopQ_exit, loopQ_goto, endQ_ret, endQ_normal,
 lss_i, leq_i, gtr_i, geq_i, eql_i, neq_i, eql_8, neq_8, lss_8, leq_8, gtr_8, geq_8, eql_s, neq_s, eql_b, neq_b, not_b, by_bys, by_nils, load_cp1, beq_true, beq_false, Bool.not_eq_true', decide_eq_true_eq, decide_eq_false_iff_not, decide_true, decide_false,
 Int.toNat_natCast, Int.ofNat_lt, Int.ofNat_le, Int.natCast_inj, Bool.false_eq_true, Bool.true_eq_false, extPV, List.getElem?_cons_zero, List.getElem?_cons_succ, nilckPV, Int.reduceToNat, Int.reduceLE, true_and, and_true, reduceCtorEq, or_false, false_or, or_true, Option.some.injEq, exists_eq_left', Bool.not_true, Bool.not_false, ne_eq, Int.reduceEq, not_true_eq_false, not_false_eq_true, Int.reduceLT, UInt8.reduceLT, UInt8.reduceLE, UInt8.reduceToNat]
        exact ⟨.bool false, rfl, by rw [show nmB l = false by simp [nmB, g2]]; exact hk.leave rfl (fun _ _ => rfl)⟩
    · have e1 : ¬ (1 : Int) ≤ (l.length : Int) := by omega
      simp (maxSteps := 1000000) (disch := omega) only [h0, h7, hlt, len_s, e1, W_seq, W_region, W_cond, W_block, W_skip, W_label, W_exit, W_goto, W_ret, WO_cons, WO_consG, WO_nil, wantedA_eq, wantB, evOp, ev_tmp, ev_const, ev_fn, WN_some, WN_none, updO_some, updO_none, upd_eq,
 ↓reduceIte, Nat.reduceEqDiff, List.nil_append, List.cons_append, List.append_nil, List.map_cons, List.map_nil, env0_zero, env0_succ, env0_nil, Option.map_some, Option.map_none, seqQ_normal, seqQ_ret, seqQ_exit, seqQ_goto, blockQ_normal, blockQ_ret, blockQ_exit, blockQ_goto, condW_bool, loopQ_ret, loopQ_exit, loopQ_goto, endQ_ret, endQ_normal,
 lss_i, leq_i, gtr_i, geq_i, eql_i, neq_i, eql_8, neq_8, lss_8, leq_8, gtr_8, geq_8, eql_s, neq_s, eql_b, neq_b, not_b, by_bys, by_nils, load_cp1, beq_true, beq_false, Bool.not_eq_true', decide_eq_true_eq, decide_eq_false_iff_not, decide_true, decide_false,
 Int.toNat_natCast, Int.ofNat_lt, Int.ofNat_le, Int.natCast_inj, Bool.false_eq_true, Bool.true_eq_false, extPV, List.getElem?_cons_zero, List.getElem?_cons_succ, nilckPV, Int.reduceToNat, Int.reduceLE, true_and, and_true, reduceCtorEq, or_false, false_or, or_true, Option.some.injEq, exists_eq_left', Bool.not_true, Bool.not_false, ne_eq, Int.reduceEq, not_true_eq_false, not_false_eq_true, Int.reduceLT, UInt8.reduceLT, UInt8.reduceLE, UInt8.reduceToNat]
      exact ⟨.bool false, rfl, by rw [show nmB l = false by simp [nmB]; omega]; exact hk.leave rfl (fun _ _ => rfl)⟩

theorem sText_spec {l : List UInt8} {m : Nat} (hl : l.length ≤ 1000000) : call prog (.fn 65 []) [.str l, .int .i64 (m : Int)] st = some (.bool (txB l && decide (l.length ≤ m)), st) := by
  refine call_of_W prog_65 ?_
  unfold F_sheet_isText; dsimp only
  simp (maxSteps := 1000000) (disch := omega) only [len_s, W_seq, W_region, W_cond, W_block, W_skip, W_label, W_exit, W_goto, W_ret, WO_cons, WO_consG, WO_nil, wantedA_eq, wantB, evOp, ev_tmp, ev_const, ev_fn, WN_some, WN_none, updO_some, updO_none, upd_eq,
 ↓reduceIte, Nat.reduceEqDiff, List.nil_append, List.cons_append, List.append_nil, List.map_cons, List.map_nil, env0_zero, env0_succ, env0_nil, Option.map_some, Option.map_none, seqQ_normal, seqQ_ret, seqQ_exit, seqQ_goto, blockQ_normal, blockQ_ret, blockQ_exit, blockQ_goto, condW_bool, loopQ_ret, loopQ_exit, loopQ_goto, endQ_ret, endQ_normal,
 lss_i, leq_i, gtr_i, geq_i, eql_i, neq_i, eql_8, neq_8, lss_8, leq_8, gtr_8, geq_8, eql_s, neq_s, eql_b, neq_b, not_b, by_bys, by_nils, load_cp1, beq_true, beq_false, Bool.not_eq_true', decide_eq_true_eq, decide_eq_false_iff_not, decide_true, decide_false,
 Int.toNat_natCast, Int.ofNat_lt, Int.ofNat_le, Int.natCast_inj, Bool.false_eq_true, Bool.true_eq_false, extPV, List.getElem?_cons_zero, List.getElem?_cons_succ, nilckPV, Int.reduceToNat, Int.reduceLE, true_and, and_true, reduceCtorEq, or_false, false_or, or_true, Option.some.injEq, exists_eq_left', Bool.not_true, Bool.not_false, ne_eq, Int.reduceEq, not_true_eq_false, not_false_eq_true, Int.reduceLT, UInt8.reduceLT, UInt8.reduceLE, UInt8.reduceToNat]
  obtain ⟨I, hI⟩ : ∃ I : Nat → Env → St → Prop, I = fun k e s' => ∃ (i : Nat), k = l.length - i ∧ i ≤ l.length ∧ Kept st s' ∧ (∀ j, j < i → txC (l.getD j 0) = true) ∧ e 0 = .str l ∧ e 1 = .int .i64 (m : Int) ∧ e 7 = .int .i64 (l.length : Int) ∧ e 8 = .int .i64 (i : Int) := ⟨_, rfl⟩
  refine W_loop I ?_ (n := l.length) (by
    rw [hI]
    exact ⟨0, rfl, by omega, Kept.start, fun j h => by omega, rfl, rfl, rfl, rfl⟩)
  intro k e s' hh
  rw [hI] at hh
  obtain ⟨i, rfl, hi, hk, hall, h0, h1, h7, h8⟩ := hh
  by_cases hlt : i < l.length
  · obtain ⟨c, hc⟩ : ∃ c, c = l.getD i 0 := ⟨_, rfl⟩
    have bad : txC c = false → ∀ E : Env, E 4 = .bool false → ∃ rv, resOf E s' [.tmp 4] = some rv ∧ leave st s' rv = (.bool (txB l && decide (l.length ≤ m)), st) := fun h E k2 =>
      ⟨.bool false, by simp [resOf, rvAll, rv1, k2, notTup, packRes], by
        rw [show txB l = false by simp only [txB, all_bad (p := txC) hlt (by rw [← hc]; exact h), Bool.false_and], Bool.false_and]
        exact hk.leave rfl (fun _ _ => rfl)⟩
    have good : txC c = true → ∀ E : Env, E 0 = .str l → E 1 = .int .i64 (m : Int) → E 7 = .int .i64 (l.length : Int) → E 8 = .int .i64 ((i + 1 : Nat) : Int) → I (l.length - (i + 1)) E s' := fun h E k0 k1 k7 k8 => by
      rw [hI]
      refine ⟨i + 1, rfl, by omega, hk, fun j hj => ?_, k0, k1, k7, k8⟩
      by_cases hji : j = i
      · subst hji; rw [← hc]; exact h
      · exact hall j (by omega)
    by_cases q1 : c < 32
    · by_cases q2 : c = 9
      · have q3 : ¬ c = 127 := by rintro rfl; exact absurd q1 (by decide)
        simp (maxSteps := 1000000) (disch := omega) only [h0, h1, h7, h8, hlt, idx_s, ← hc, eq_true q1, eq_true q2, q3, add_n, W_seq, W_region, W_cond, W_block, W_skip, W_label, W_exit, W_goto, W_ret, WO_cons, WO_consG, WO_nil, wantedA_eq, wantB, evOp, ev_tmp, ev_const, ev_fn, WN_some, WN_none, updO_some, updO_none, upd_eq,
 ↓reduceIte, Nat.reduceEqDiff, List.nil_append, List.cons_append, List.append_nil, List.map_cons, List.map_nil, env0_zero, env0_succ, env0_nil, Option.map_some, Option.map_none, seqQ_normal, seqQ_ret, seqQ_exit, seqQ_goto, blockQ_normal, blockQ_ret, blockQ_exit, blockQ_goto, condW_bool, loopQ_ret, loopQ_exit, loopQ_goto, endQ_ret, endQ_normal,
 lss_i, leq_i, gtr_i, geq_i, eql_i, neq_i, eql_8, neq_8, lss_8, leq_8, gtr_8, geq_8, eql_s, neq_s, eql_b, neq_b, not_b, by_bys, by_nils, load_cp1, beq_true, beq_false, Bool.not_eq_true', decide_eq_true_eq, decide_eq_false_iff_not, decide_true, decide_false,
 Int.toNat_natCast, Int.ofNat_lt, Int.ofNat_le, Int.natCast_inj, Bool.false_eq_true, Bool.true_eq_false, extPV, List.getElem?_cons_zero, List.getElem?_cons_succ, nilckPV, Int.reduceToNat, Int.reduceLE, true_and, and_true, reduceCtorEq, or_false, false_or, or_true, Option.some.injEq, exists_eq_left', Bool.not_true, Bool.not_false, ne_eq, Int.reduceEq, not_true_eq_false, not_false_eq_true, Int.reduceLT, UInt8.reduceLT, UInt8.reduceLE, UInt8.reduceToNat]
        exact loopQ_intro (m := l.length - (i + 1)) (by omega) (good (by simp [txC, q2]) _ h0 h1 h7 rfl)
      · simp (maxSteps := 1000000) (disch := omega) only [h0, h1, h7, h8, hlt, idx_s, ← hc, eq_true q1, q2, W_seq, W_region, W_cond, W_block, W_skip, W_label, W_exit, W_goto, W_ret, WO_cons, WO_consG, WO_nil, wantedA_eq, wantB, evOp, ev_tmp, ev_const, ev_fn, WN_some, WN_none, updO_some, updO_none, upd_eq,
 ↓reduceIte, Nat.reduceEqDiff, List.nil_append, List.cons_append, List.append_nil, List.map_cons, List.map_nil, env0_zero, env0_succ, env0_nil, Option.map_some, Option.map_none, seqQ_normal, seqQ_ret, seqQ_exit, seqQ_goto, blockQ_normal, blockQ_ret, blockQ_exit, blockQ_goto, condW_bool, loopQ_ret, loopQ_exit, loopQ_goto, endQ_ret, endQ_normal,
 lss_i, leq_i, gtr_i, geq_i, eql_i, neq_i, eql_8, neq_8, lss_8, leq_8, gtr_8, geq_8, eql_s, neq_s, eql_b, neq_b, not_b, by_bys, by_nils, load_cp1, beq_true, beq_false, Bool.not_eq_true', decide_eq_true_eq, decide_eq_false_iff_not, decide_true, decide_false,
 Int.toNat_natCast, Int.ofNat_lt, Int.ofNat_le, Int.natCast_inj, Bool.false_eq_true, Bool.true_eq_false, extPV, List.getElem?_cons_zero, List.getElem?_cons_succ, nilckPV, Int.reduceToNat, Int.reduceLE, true_and, and_true, reduceCtorEq, or_false, false_or, or_true, Option.some.injEq, exists_eq_left', Bool.not_true, Bool.not_false, ne_eq, Int.reduceEq, not_true_eq_false, not_false_eq_true, Int.reduceLT, UInt8.reduceLT, UInt8.reduceLE, UInt8.reduceToNat]
        exact bad (by simp [txC, q1, q2]) _ rfl
    · by_cases q3 : c = 127
      · simp (maxSteps := 1000000) (disch := omega) only [h0, h1, h7, h8, hlt, idx_s, ← hc, q1, eq_true q3, W_seq, W_region, W_cond, W_block, W_skip, W_label, W_exit, W_goto, W_ret, WO_cons, WO_consG, WO_nil, wantedA_eq, wantB, evOp, ev_tmp, ev_const, ev_fn, WN_some, WN_none, updO_some, updO_none, upd_eq,
 ↓reduceIte, Nat.reduceEqDiff, List.nil_append, List.cons_append, List.append_nil, List.map_cons, List.map_nil, env0_zero, env0_succ, env0_nil, Option.map_some, Option.map_none, seqQ_normal, seqQ_ret, seqQ_exit, seqQ_goto, blockQ_normal, blockQ_ret, blockQ_exit, blockQ_goto, condW_bool, loopQ_ret, loopQ_exit, loopQ_goto, endQ_ret, endQ_normal,
 lss_i, leq_i, gtr_i, geq_i, eql_i, neq_i, eql_8, neq_8, lss_8, leq_8, gtr_8, geq_8, eql_s, neq_s, eql_b, neq_b, not_b, by_bys, by_nils, load_cp1, beq_true, beq_false, Bool.not_eq_true', decide_eq_true_eq, decide_eq_false_iff_not, decide_true, decide_false,
 Int.toNat_natCast, Int.ofNat_lt, Int.ofNat_le, Int.natCast_inj, Bool.false_eq_true, Bool.true_eq_false, extPV, List.getElem?_cons_zero, List.getElem?_cons_succ, nilckPV, Int.reduceToNat, Int.reduceLE, true_and, and_true, reduceCtorEq, or_false, false_or, or_true, Option.some.injEq, exists_eq_left', Bool.not_true, Bool.not_false, ne_eq, Int.reduceEq, not_true_eq_false, not_false_eq_true, Int.reduceLT, UInt8.reduceLT, UInt8.reduceLE, UInt8.reduceToNat]
        exact bad (by simp [txC, q3]) _ rfl
      · simp (maxSteps := 1000000) (disch := omega) only [h0, h1, h7, h8, hlt, idx_s, ← hc, q1, q3, add_n, W_seq, W_region, W_cond, W_block, W_skip, W_label, W_exit, W_goto, W_ret, WO_cons, WO_consG, WO_nil, wantedA_eq, wantB, evOp, ev_tmp, ev_const, ev_fn, WN_some, WN_none, updO_some, updO_none, upd_eq,
 ↓reduceIte, Nat.reduceEqDiff, List.nil_append, List.cons_append, List.append_nil, List.map_cons, List.map_nil, env0_zero, env0_succ, env0_nil, Option.map_some, Option.map_none, seqQ_normal, seqQ_ret, seqQ_exit, seqQ_goto, blockQ_normal, blockQ_ret, blockQ_exit, blockQ_goto, condW_bool, loopQ_ret, loopQ_exit, loopQ_goto, endQ_ret, endQ_normal,
 lss_i, leq_i, gtr_i, geq_i, eql_i, neq_i, eql_8, neq_8, lss_8, leq_8, gtr_8, geq_8, eql_s, neq_s, eql_b, neq_b, not_b, by_bys, by_nils, load_cp1, beq_true, beq_false, Bool.not_eq_true', decide_eq_true_eq, decide_eq_false_iff_not, decide_true, decide_false,
 Int.toNat_natCast, Int.ofNat_lt, Int.ofNat_le, Int.natCast_inj, Bool.false_eq_true, Bool.true_eq_false, extPV, List.getElem?_cons_zero, List.getElem?_cons_succ, nilckPV, Int.reduceToNat, Int.reduceLE, true_and, and_true, reduceCtorEq, or_false, false_or, or_true, Option.some.injEq, exists_eq_left', Bool.not_true, Bool.not_false, ne_eq, Int.reduceEq, not_true_eq_false, not_false_eq_true, Int.reduceLT, UInt8.reduceLT, UInt8.reduceLE, UInt8.reduceToNat]
        exact loopQ_intro (m := l.length - (i + 1)) (by omega) (good (by simp [txC, q1, q3]) _ h0 h1 h7 rfl)
  · obtain rfl : i = l.length := by omega
    have ha := all_getD (p := txC) hall
    by_cases g1 : l.length ≤ m
    · have hv := uValid_spec (st := s'.tok1) (x := .bys (.own s'.toks.length) l) (l := l) rfl (by omega)
      simp (maxSteps := 1000000) (disch := omega) only [h0, h1, h7, h8, hlt, len_s, g1, freshT_eq, hv, W_seq, W_region, W_cond, W_block, W_skip, W_label, W_exit, W_goto, W_ret, WO_cons, WO_consG, WO_nil, wantedA_eq, wantB, evOp, ev_tmp, ev_const, ev_fn, WN_some, WN_none, updO_some, updO_none, upd_eq,
 ↓reduceIte, Nat.reduceEqDiff, List.nil_append, List.cons_append, List.append_nil, List.map_cons, List.map_nil, env0_zero, env0_succ, env0_nil, Option.map_some, Option.map_none, seqQ_normal, seqQ_ret, seqQ_exit, seqQ_goto, blockQ_normal, blockQ_ret, blockQ_exit, blockQ_goto, condW_bool, loopQ_ret, loopQ_exit, loopQ_goto, endQ_ret, endQ_normal,
 lss_i, leq_i, gtr_i, geq_i, eql_i, neq_i, eql_8, neq_8, lss_8, leq_8, gtr_8, geq_8, eql_s, neq_s, eql_b, neq_b, not_b, by_bys, by_nils, load_cp1, beq_true, beq_false, Bool.not_eq_true', decide_eq_true_eq, decide_eq_false_iff_not, decide_true, decide_false,
 Int.toNat_natCast, Int.ofNat_lt, Int.ofNat_le, Int.natCast_inj, Bool.false_eq_true, Bool.true_eq_false, extPV, List.getElem?_cons_zero, List.getElem?_cons_succ, nilckPV, Int.reduceToNat, Int.reduceLE, true_and, and_true, reduceCtorEq, or_false, false_or, or_true, Option.some.injEq, exists_eq_left', Bool.not_true, Bool.not_false, ne_eq, Int.reduceEq, not_true_eq_false, not_false_eq_true, Int.reduceLT, UInt8.reduceLT, UInt8.reduceLE, UInt8.reduceToNat]
      exact ⟨.bool (validOf l), rfl, by rw [show (txB l && true) = validOf l by simp [txB, ha]]; exact hk.tok1.leave rfl (fun _ _ => rfl)⟩
    · simp (maxSteps := 1000000) (disch := omega) only [h0, h1, h7, h8, hlt, len_s, g1, W_seq, W_region, W_cond, W_block, W_skip, W_label, W_exit, W_goto, W_ret, WO_cons, WO_consG, WO_nil, wantedA_eq, wantB, evOp, ev_tmp, ev_const, ev_fn, WN_some, WN_none, updO_some, updO_none, upd_eq,
 ↓reduceIte, Nat.reduceEqDiff, List.nil_append, List.cons_append, List.append_nil, List.map_cons, List.map_nil, env0_zero, env0_succ, env0_nil, Option.map_some, Option.map_none, seqQ_normal, seqQ_ret, seqQ_exit, seqQ_goto, blockQ_normal, blockQ_ret, blockQ_exit, blockQ_goto, condW_bool, loopQ_ret, loopQ_exit, loopQ_goto, endQ_ret, endQ_normal,
 lss_i, leq_i, gtr_i, geq_i, eql_i, neq_i, eql_8, neq_8, lss_8, leq_8, gtr_8, geq_8, eql_s, neq_s, eql_b, neq_b, not_b, by_bys, by_nils, load_cp1, beq_true, beq_false, Bool.not_eq_true', decide_eq_true_eq, decide_eq_false_iff_not, decide_true, decide_false,
 Int.toNat_natCast, Int.ofNat_lt, Int.ofNat_le, Int.natCast_inj, Bool.false_eq_true, Bool.true_eq_false, extPV, List.getElem?_cons_zero, List.getElem?_cons_succ, nilckPV, Int.reduceToNat, Int.reduceLE, true_and, and_true, reduceCtorEq, or_false, false_or, or_true, Option.some.injEq, exists_eq_left', Bool.not_true, Bool.not_false, ne_eq, Int.reduceEq, not_true_eq_false, not_false_eq_true, Int.reduceLT, UInt8.reduceLT, UInt8.reduceLE, UInt8.reduceToNat]
      exact ⟨.bool false, rfl, by rw [Bool.and_false]; exact hk.leave rfl (fun _ _ => rfl)⟩

theorem rText_spec {l : List UInt8} (hl : l.length ≤ 1000000) : call prog (.fn 68 []) [.str l] st = some (.bool (txB l), st) := by
  refine call_of_W prog_68 ?_
  unfold F_posthornref10_Text; dsimp only
  simp (maxSteps := 1000000) (disch := omega) only [len_s, W_seq, W_region, W_cond, W_block, W_skip, W_label, W_exit, W_goto, W_ret, WO_cons, WO_consG, WO_nil, wantedA_eq, wantB, evOp, ev_tmp, ev_const, ev_fn, WN_some, WN_none, updO_some, updO_none, upd_eq,
 ↓reduceIte, Nat.reduceEqDiff, List.nil_append, List.cons_append, List.append_nil, List.map_cons, List.map_nil, env0_zero, env0_succ, env0_nil, Option.map_some, Option.map_none, seqQ_normal, seqQ_ret, seqQ_exit, seqQ_goto, blockQ_normal, blockQ_ret, blockQ_exit, blockQ_goto, condW_bool, loopQ_ret, loopQ_exit, loopQ_goto, endQ_ret, endQ_normal,
 lss_i, leq_i, gtr_i, geq_i, eql_i, neq_i, eql_8, neq_8, lss_8, leq_8, gtr_8, geq_8, eql_s, neq_s, eql_b, neq_b, not_b, by_bys, by_nils, load_cp1, beq_true, beq_false, Bool.not_eq_true', decide_eq_true_eq, decide_eq_false_iff_not, decide_true, decide_false,
 Int.toNat_natCast, Int.ofNat_lt, Int.ofNat_le, Int.natCast_inj, Bool.false_eq_true, Bool.true_eq_false, extPV, List.getElem?_cons_zero, List.getElem?_cons_succ, nilckPV, Int.reduceToNat, Int.reduceLE, true_and, and_true, reduceCtorEq, or_false, false_or, or_true, Option.some.injEq, exists_eq_left', Bool.not_true, Bool.not_false, ne_eq, Int.reduceEq, not_true_eq_false, not_false_eq_true, Int.reduceLT, UInt8.reduceLT, UInt8.reduceLE, UInt8.reduceToNat]
  obtain ⟨I, hI⟩ : ∃ I : Nat → Env → St → Prop, I = fun k e s' => ∃ (i : Nat), k = l.length - i ∧ i ≤ l.length ∧ Kept st s' ∧ (∀ j, j < i → txC (l.getD j 0) = true) ∧ e 0 = .str l ∧ e 3 = .int .i64 (i : Int) := ⟨_, rfl⟩
  refine W_loop I ?_ (n := l.length) (by
    rw [hI]
    exact ⟨0, rfl, by omega, Kept.start, fun j h => by omega, rfl, rfl⟩)
  intro k e s' hh
  rw [hI] at hh
  obtain ⟨i, rfl, hi, hk, hall, h0, h3⟩ := hh
  by_cases hlt : i < l.length
  · obtain ⟨c, hc⟩ : ∃ c, c = l.getD i 0 := ⟨_, rfl⟩
    have bad : txC c = false → ∀ E : Env, E 2 = .bool false → ∃ rv, resOf E s' [.tmp 2] = some rv ∧ leave st s' rv = (.bool (txB l), st) := fun h E k2 =>
      ⟨.bool false, by simp [resOf, rvAll, rv1, k2, notTup, packRes], by
        rw [show txB l = false by simp only [txB, all_bad (p := txC) hlt (by rw [← hc]; exact h), Bool.false_and]]
        exact hk.leave rfl (fun _ _ => rfl)⟩
    have good : txC c = true → ∀ E : Env, E 0 = .str l → E 3 = .int .i64 ((i + 1 : Nat) : Int) → I (l.length - (i + 1)) E s' := fun h E k0 k3 => by
      rw [hI]
      refine ⟨i + 1, rfl, by omega, hk, fun j hj => ?_, k0, k3⟩
      by_cases hji : j = i
      · subst hji; rw [← hc]; exact h
      · exact hall j (by omega)
    by_cases q3 : c = 127
    · simp (maxSteps := 1000000) (disch := omega) only [h0, h3, len_s, hlt, idx_s, ← hc, eq_true q3, W_seq, W_region, W_cond, W_block, W_skip, W_label, W_exit, W_goto, W_ret, WO_cons, WO_consG, WO_nil, wantedA_eq, wantB, evOp, ev_tmp, ev_const, ev_fn, WN_some, WN_none, updO_some, updO_none, upd_eq,
 ↓reduceIte, Nat.reduceEqDiff, List.nil_append, List.cons_append, List.append_nil, List.map_cons, List.map_nil, env0_zero, env0_succ, env0_nil, Option.map_some, Option.map_none, seqQ_normal, seqQ_ret, seqQ_exit, seqQ_goto, blockQ_normal, blockQ_ret, blockQ_exit, blockQ_goto, condW_bool, loopQ_ret, loopQ_exit, loopQ_goto, endQ_ret, endQ_normal,
 lss_i, leq_i, gtr_i, geq_i, eql_i, neq_i, eql_8, neq_8, lss_8, leq_8, gtr_8, geq_8, eql_s, neq_s, eql_b, neq_b, not_b, by_bys, by_nils, load_cp1, beq_true, beq_false, Bool.not_eq_true', decide_eq_true_eq, decide_eq_false_iff_not, decide_true, decide_false,
 Int.toNat_natCast, Int.ofNat_lt, Int.ofNat_le, Int.natCast_inj, Bool.false_eq_true, Bool.true_eq_false, extPV, List.getElem?_cons_zero, List.getElem?_cons_succ, nilckPV, Int.reduceToNat, Int.reduceLE, true_and, and_true, reduceCtorEq, or_false, false_or, or_true, Option.some.injEq, exists_eq_left', Bool.not_true, Bool.not_false, ne_eq, Int.reduceEq, not_true_eq_false, not_false_eq_true, Int.reduceLT, UInt8.reduceLT, UInt8.reduceLE, UInt8.reduceToNat]
      exact bad (by simp [txC, q3]) _ rfl
    by_cases q1 : c < 32
    · by_cases q2 : c = 9
      · simp (maxSteps := 1000000) (disch := omega) only [h0, h3, len_s, hlt, idx_s, ← hc, q3, eq_true q1, eq_true q2, add_n, W_seq, W_region, W_cond, W_block, W_skip, W_label, W_exit, W_goto, W_ret, WO_cons, WO_consG, WO_nil, wantedA_eq, wantB, evOp, ev_tmp, ev_const, ev_fn, WN_some, WN_none, updO_some, updO_none, upd_eq,
 ↓reduceIte, Nat.reduceEqDiff, List.nil_append, List.cons_append, List.append_nil, List.map_cons, List.map_nil, env0_zero, env0_succ, env0_nil, Option.map_some, Option.map_none, seqQ_normal, seqQ_ret, seqQ_exit, seqQ_goto, blockQ_normal, blockQ_ret, blockQ_exit, blockQ_goto, condW_bool, loopQ_ret, loopQ_exit, loopQ_goto, endQ_ret, endQ_normal,
 lss_i, leq_i, gtr_i, geq_i, eql_i, neq_i, eql_8, neq_8, lss_8, leq_8, gtr_8, geq_8, eql_s, neq_s, eql_b, neq_b, not_b, by_bys, by_nils, load_cp1, beq_true, beq_false, Bool.not_eq_true', decide_eq_true_eq, decide_eq_false_iff_not, decide_true, decide_false,
 Int.toNat_natCast, Int.ofNat_lt, Int.ofNat_le, Int.natCast_inj, Bool.false_eq_true, Bool.true_eq_false, extPV, List.getElem?_cons_zero, List.getElem?_cons_succ, nilckPV, Int.reduceToNat, Int.reduceLE, true_and, and_true, reduceCtorEq, or_false, false_or, or_true, Option.some.injEq, exists_eq_left', Bool.not_true, Bool.not_false, ne_eq, Int.reduceEq, not_true_eq_false, not_false_eq_true, Int.reduceLT, UInt8.reduceLT, UInt8.reduceLE, UInt8.reduceToNat]
        exact loopQ_intro (m := l.length - (i + 1)) (by omega) (good (by simp [txC, q2]) _ h0 rfl)
      · simp (maxSteps := 1000000) (disch := omega) only [h0, h3, len_s, hlt, idx_s, ← hc, q3, eq_true q1, q2, W_seq, W_region, W_cond, W_block, W_skip, W_label, W_exit, W_goto, W_ret, WO_cons, WO_consG, WO_nil, wantedA_eq, wantB, evOp, ev_tmp, ev_const, ev_fn, WN_some, WN_none, updO_some, updO_none, upd_eq,
 ↓reduceIte, Nat.reduceEqDiff, List.nil_append, List.cons_append, List.append_nil, List.map_cons, List.map_nil, env0_zero, env0_succ, env0_nil, Option.map_some, Option.map_none, seqQ_normal, seqQ_ret, seqQ_exit, seqQ_goto, blockQ_normal, blockQ_ret, blockQ_exit, blockQ_goto, condW_bool, loopQ_ret, loopQ_exit, loopQ_goto, endQ_ret, endQ_normal,
 lss_i, leq_i, gtr_i, geq_i, eql_i, neq_i, eql_8, neq_8, lss_8, leq_8, gtr_8, geq_8, eql_s, neq_s, eql_b, neq_b, not_b, by_bys, by_nils, load_cp1, beq_true, beq_false, Bool.not_eq_true', decide_eq_true_eq, decide_eq_false_iff_not, decide_true, decide_false,
 Int.toNat_natCast, Int.ofNat_lt, Int.ofNat_le, Int.natCast_inj, Bool.false_eq_true, Bool.true_eq_false, extPV, List.getElem?_cons_zero, List.getElem?_cons_succ, nilckPV, Int.reduceToNat, Int.reduceLE, true_and, and_true, reduceCtorEq, or_false, false_or, or_true, Option.some.injEq, exists_eq_left', Bool.not_true, Bool.not_false, ne_eq, Int.reduceEq, not_true_eq_false, not_false_eq_true, Int.reduceLT, UInt8.reduceLT, UInt8.reduceLE, UInt8.reduceToNat]
        exact bad (by simp [txC, q1, q2]) _ rfl
    · simp (maxSteps := 1000000) (disch := omega) only [h0, h3, len_s, hlt, idx_s, ← hc, q1, q3, add_n, W_seq, W_region, W_cond, W_block, W_skip, W_label, W_exit, W_goto, W_ret, WO_cons, WO_consG, WO_nil, wantedA_eq, wantB, evOp, ev_tmp, ev_const, ev_fn, WN_some, WN_none, updO_some, updO_none, upd_eq,
 ↓reduceIte, Nat.reduceEqDiff, List.nil_append, List.cons_append, List.append_nil, List.map_cons, List.map_nil, env0_zero, env0_succ, env0_nil, Option.map_some, Option.map_none, seqQ_normal, seqQ_ret, seqQ_exit, seqQ_goto, blockQ_normal, blockQ_ret, blockQ_exit, blockQ_goto, condW_bool, loopQ_ret, loopQ_exit, loopQ_goto, endQ_ret, endQ_normal,
 lss_i, leq_i, gtr_i, geq_i, eql_i, neq_i, eql_8, neq_8, lss_8, leq_8, gtr_8, geq_8, eql_s, neq_s, eql_b, neq_b, not_b, by_bys, by_nils, load_cp1, beq_true, beq_false, Bool.not_eq_true', decide_eq_true_eq, decide_eq_false_iff_not, decide_true, decide_false,
 Int.toNat_natCast, Int.ofNat_lt, Int.ofNat_le, Int.natCast_inj, Bool.false_eq_true, Bool.true_eq_false, extPV, List.getElem?_cons_zero, List.getElem?_cons_succ, nilckPV, Int.reduceToNat, Int.reduceLE, true_and, and_true, reduceCtorEq, or_false, false_or, or_true, Option.some.injEq, exists_eq_left', Bool.not_true, Bool.not_false, ne_eq, Int.reduceEq, not_true_eq_false, not_false_eq_true, Int.reduceLT, UInt8.reduceLT, UInt8.reduceLE, UInt8.reduceToNat]
      exact loopQ_intro (m := l.length - (i + 1)) (by omega) (good (by simp [txC, q1, q3]) _ h0 rfl)
  · obtain rfl : i = l.length := by omega
    have ha := all_getD (p := txC) hall
    have hv := rValid_spec (st := s'.tok1) (x := .bys (.own s'.toks.length) l) (l := l) rfl (by omega)
    simp (maxSteps := 1000000) (disch := omega) only [h0, h3, hlt, len_s, freshT_eq, hv, W_seq, W_region, W_cond, W_block, W_skip, W_label, W_exit, W_goto, W_ret, WO_cons, WO_consG, WO_nil, wantedA_eq, wantB, evOp, ev_tmp, ev_const, ev_fn, WN_some, WN_none, updO_some, updO_none, upd_eq,
 ↓reduceIte, Nat.reduceEqDiff, List.nil_append, List.cons_append, List.append_nil, List.map_cons, List.map_nil, env0_zero, env0_succ, env0_nil, Option.map_some, Option.map_none, seqQ_normal, seqQ_ret, seqQ_exit, seqQ_goto, blockQ_normal, blockQ_ret, blockQ_exit, blockQ_goto, condW_bool, loopQ_ret, loopQ_exit, loopQ_goto, endQ_ret, endQ_normal,
 lss_i, leq_i, gtr_i, geq_i, eql_i, neq_i, eql_8, neq_8, lss_8, leq_8, gtr_8, geq_8, eql_s, neq_s, eql_b, neq_b, not_b, by_bys, by_nils, load_cp1, beq_true, beq_false, Bool.not_eq_true', decide_eq_true_eq, decide_eq_false_iff_not, decide_true, decide_false,
 Int.toNat_natCast, Int.ofNat_lt, Int.ofNat_le, Int.natCast_inj, Bool.false_eq_true, Bool.true_eq_false, extPV, List.getElem?_cons_zero, List.getElem?_cons_succ, nilckPV, Int.reduceToNat, Int.reduceLE, true_and, and_true, reduceCtorEq, or_false, false_or, or_true, Option.some.injEq, exists_eq_left', Bool.not_true, Bool.not_false, ne_eq, Int.reduceEq, not_true_eq_false, not_false_eq_true, Int.reduceLT, UInt8.reduceLT, UInt8.reduceLE, UInt8.reduceToNat]
    exact ⟨.bool (validOf l), rfl, by rw [show txB l = validOf l by simp [txB, ha]]; exact hk.tok1.leave rfl (fun _ _ => rfl)⟩
end Go.Ab

/-
  Lines that may be.
-/
namespace Go.Ab
set_option linter.unusedVariables false
set_option linter.unusedSimpArgs false
variable {st s : St} {e : Env}

/-- A line: its name, its parameters (as a value, as a list), its value. -/
structure Ln where
  n : List UInt8
  pv : PV
  ps : List Fld
  v : List UInt8
def lV (L : Ln) : PV := .agg [.str L.n, L.pv, .str L.v]
structure Ln.ok (L : Ln) : Prop where
  vs : L.pv.vs 2 = some (L.ps.map fV)
  ib : ∀ n, L.pv.inB n = true
  lf : leafOk L.pv = true
  tk : tokOf L.pv = none
  l1 : L.n.length ≤ 300
  l2 : L.v.length ≤ 5000
  l3 : L.ps.length ≤ 30
  l4 : ∀ p ∈ L.ps, p.1.length + p.2.length ≤ 500

def parOK (p : Fld) : Prop := nmB p.1 = true ∧ txB p.2 = true ∧ p.2.length ≤ 256 ∧ hasB p.2 [34] = false
def rtP (L : Ln) : Prop := nmB L.n = true ∧ txB L.v = true ∧ L.v.length ≤ 4096 ∧ L.ps.length ≤ 16 ∧ (∀ i, i < L.ps.length → parOK (L.ps.getD i ([], []))) ∧ ∀ i, i < L.ps.length → ∀ k, k < i → (L.ps.getD k ([], [])).1 ≠ (L.ps.getD i ([], [])).1
noncomputable def rtB (L : Ln) : Bool := @decide (rtP L) (Classical.propDecidable _)
theorem rtB_true {L : Ln} (h : rtP L) : rtB L = true := by unfold rtB; simp [h]
theorem rtB_false {L : Ln} (h : ¬ rtP L) : rtB L = false := by unfold rtB; simp [h]

/-! ### Boxes that stay -/
def At (s : St) (b : Nat) (cs : List PV) : Prop := s.boxes[b]? = some cs
theorem At.alloc {b : Nat} {cs z : List PV} {T : List Bool} {Lp : List LoopS} {lo : Nat} (h : At s b cs) : At ⟨s.boxes ++ [z], T, Lp, lo⟩ b cs := by
  unfold At at *
  have := (List.getElem?_eq_some_iff.1 h).1
  show (s.boxes ++ [z])[b]? = _
  rw [List.getElem?_append_left this]; exact h
theorem At.last {z : List PV} {T : List Bool} {Lp : List LoopS} {lo : Nat} : At ⟨s.boxes ++ [z], T, Lp, lo⟩ s.boxes.length z := by
  unfold At; simp
theorem At.load {b k : Nat} {cs : List PV} {v : PV} {r : List PV} (h : At s b cs) (hk : cs.drop k = v :: r) : loadPV s false 1 (.ptr b k) = some v := by
  unfold At at h
  simp [loadPV, h, hk, readCells]
theorem slc_vs {x : PV} {xs : List PV} {esz : Nat} {k : IntKind} {c : Nat} (h : x.vs esz = some xs) (he : esz ≠ 0) (hc : c ≤ xs.length) : ∃ y, slcPV esz x none (some (.int k (c : Int))) none = some y ∧ y.vs esz = some (xs.take c) := by
  rcases vs_cases h with ⟨rfl, rfl⟩ | ⟨t, rfl⟩
  · simp at hc; subst hc
    exact ⟨.nils, by simp [slcPV, bnd, intOf, he], by simp [PV.vs]⟩
  · exact ⟨.sl esz .no (xs.take c), by simp [slcPV, bnd, intOf, he, sufTok, hc], by simp [PV.vs]⟩

theorem box_l {L : Ln} (h : L.ok) {n : Nat} : (lV L).inB n = true ∧ (lV L).cells.all leafOk = true := by
  constructor
  · simp [lV, PV.inB, PV.inB.inBAll, h.ib]
  · show (leafOk (.str L.n) && (leafOk L.pv && (leafOk (.str L.v) && true))) = true
    rw [h.lf]; rfl

set_option maxHeartbeats 1000000 in
theorem sRight_spec {L : Ln} (h : L.ok) : call prog (.fn 50 []) [lV L] st = some (.bool (rtB L), st) := by
  refine call_of_W prog_50 ?_
  unfold F_sheet_Right; dsimp only
  have hbx := box_l h (n := st.boxes.length)
  obtain ⟨q, hq⟩ : ∃ q, q = lV L := ⟨_, rfl⟩
  rw [← hq] at hbx
  have hqc : q.cells = [.str L.n, L.pv, .str L.v] := by rw [hq]; rfl
  rw [hqc] at hbx
  have hll := len_vs h.vs
  rw [List.length_map] at hll
  have hl3 := h.l3
  obtain ⟨b0, hb0⟩ : ∃ b0, b0 = st.boxes.length := ⟨_, rfl⟩
  refine W_cut (fun E S => Kept st S ∧ At S b0 [.str L.n, L.pv, .str L.v] ∧ E 1 = .ptr b0 0) ?_ ?_
  · rw [← hq]
    simp (maxSteps := 1000000) (disch := omega) only [hbx.1, hbx.2, and_self, allocPV, hqc, W_seq, W_region, W_cond, W_block, W_skip, W_label, W_exit, W_goto, W_ret, WO_cons, WO_consG, WO_nil, wantedA_eq, wantB, evOp, ev_tmp, ev_const, ev_fn, WN_some, WN_none, updO_some, updO_none, upd_eq,
 ↓reduceIte, Nat.reduceEqDiff, List.nil_append, List.cons_append, List.append_nil, List.map_cons, List.map_nil, env0_zero, env0_succ, env0_nil, Option.map_some, Option.map_none, seqQ_normal, seqQ_ret, seqQ_exit, seqQ_goto, blockQ_normal, blockQ_ret, blockQ_exit, blockQ_goto, condW_bool, loopQ_ret, loopQ_exit, loopQ_goto, endQ_ret, endQ_normal,
 lss_i, leq_i, gtr_i, geq_i, eql_i, neq_i, eql_8, neq_8, lss_8, leq_8, gtr_8, geq_8, eql_s, neq_s, eql_b, neq_b, not_b, by_bys, by_nils, load_cp1, beq_true, beq_false, Bool.not_eq_true', decide_eq_true_eq, decide_eq_false_iff_not, decide_true, decide_false,
 Int.toNat_natCast, Int.ofNat_lt, Int.ofNat_le, Int.natCast_inj, Bool.false_eq_true, Bool.true_eq_false, extPV, List.getElem?_cons_zero, List.getElem?_cons_succ, nilckPV, Int.reduceToNat, Int.reduceLE, true_and, and_true, reduceCtorEq, or_false, false_or, or_true, Option.some.injEq, exists_eq_left', Bool.not_true, Bool.not_false, ne_eq, Int.reduceEq, not_true_eq_false, not_false_eq_true, Int.reduceLT, UInt8.reduceLT, UInt8.reduceLE, UInt8.reduceToNat]
    refine ⟨Kept.start.alloc, ?_, by rw [hb0]⟩
    rw [hb0]; exact At.last
  clear hbx hqc hq
  rintro e S ⟨hk, hA, h1⟩
  have fin : ∀ (E : Env) (S : St) (b : Bool), Kept st S → rtB L = b → E 2 = .bool b → ∃ rv, resOf E S [.tmp 2] = some rv ∧ leave st S rv = (.bool (rtB L), st) := fun E S b k1 hb k2 =>
    ⟨.bool b, by simp [resOf, rvAll, rv1, k2, notTup, packRes], by rw [hb]; exact k1.leave rfl (fun _ _ => rfl)⟩
  have hld1 := fun (S : St) (hA : At S b0 [.str L.n, L.pv, .str L.v]) => hA.load (k := 1) (v := L.pv) (r := [.str L.v]) rfl
  have hld0 := fun (S : St) (hA : At S b0 [.str L.n, L.pv, .str L.v]) => hA.load (k := 0) (v := .str L.n) (r := [L.pv, .str L.v]) rfl
  have hld2 := fun (S : St) (hA : At S b0 [.str L.n, L.pv, .str L.v]) => hA.load (k := 2) (v := .str L.v) (r := []) rfl
  simp (maxSteps := 1000000) (disch := omega) only [h1, faddrPV, Nat.zero_add, hld1 S hA, hll, W_seq, W_region, W_cond, W_block, W_skip, W_label, W_exit, W_goto, W_ret, WO_cons, WO_consG, WO_nil, wantedA_eq, wantB, evOp, ev_tmp, ev_const, ev_fn, WN_some, WN_none, updO_some, updO_none, upd_eq,
 ↓reduceIte, Nat.reduceEqDiff, List.nil_append, List.cons_append, List.append_nil, List.map_cons, List.map_nil, env0_zero, env0_succ, env0_nil, Option.map_some, Option.map_none, seqQ_normal, seqQ_ret, seqQ_exit, seqQ_goto, blockQ_normal, blockQ_ret, blockQ_exit, blockQ_goto, condW_bool, loopQ_ret, loopQ_exit, loopQ_goto, endQ_ret, endQ_normal,
 lss_i, leq_i, gtr_i, geq_i, eql_i, neq_i, eql_8, neq_8, lss_8, leq_8, gtr_8, geq_8, eql_s, neq_s, eql_b, neq_b, not_b, by_bys, by_nils, load_cp1, beq_true, beq_false, Bool.not_eq_true', decide_eq_true_eq, decide_eq_false_iff_not, decide_true, decide_false,
 Int.toNat_natCast, Int.ofNat_lt, Int.ofNat_le, Int.natCast_inj, Bool.false_eq_true, Bool.true_eq_false, extPV, List.getElem?_cons_zero, List.getElem?_cons_succ, nilckPV, Int.reduceToNat, Int.reduceLE, true_and, and_true, reduceCtorEq, or_false, false_or, or_true, Option.some.injEq, exists_eq_left', Bool.not_true, Bool.not_false, ne_eq, Int.reduceEq, not_true_eq_false, not_false_eq_true, Int.reduceLT, UInt8.reduceLT, UInt8.reduceLE, UInt8.reduceToNat]
  obtain ⟨I, hI⟩ : ∃ I : Nat → Env → St → Prop, I = fun z E S => ∃ i, z = L.ps.length - i ∧ i ≤ L.ps.length ∧ Kept st S ∧ At S b0 [.str L.n, L.pv, .str L.v] ∧ (∀ j, j < i → parOK (L.ps.getD j ([], [])) ∧ ∀ k, k < j → (L.ps.getD k ([], [])).1 ≠ (L.ps.getD j ([], [])).1) ∧ E 1 = .ptr b0 0 ∧ E 8 = L.pv ∧ E 9 = .int .i64 (L.ps.length : Int) ∧ E 10 = .int .i64 (i : Int) := ⟨_, rfl⟩
  refine W_loop I ?_ (n := L.ps.length) (by
    rw [hI]
    exact ⟨0, rfl, by omega, hk, hA, fun j hj => by omega, h1, rfl, rfl, rfl⟩)
  clear hk hA h1
  intro z e S hh
  rw [hI] at hh
  obtain ⟨i, rfl, hi, hk, hA, hall, h1, h8, h9, h10⟩ := hh
  by_cases hlt : i < L.ps.length
  · obtain ⟨f, hfe⟩ : ∃ f, f = L.ps.getD i ([], []) := ⟨_, rfl⟩
    have hfm : f ∈ L.ps := by rw [hfe]; simp [List.getD, hlt]
    have hf4 := h.l4 f hfm
    have hnot : ¬ parOK f → ¬ rtP L := fun hn hp => hn (by rw [hfe]; exact hp.2.2.2.2.1 i hlt)
    have hnm : ∀ S : St, call prog (.fn 64 []) [.str f.1] S = some (.bool (nmB f.1), S) := fun S => sName_spec (by omega)
    have htx : ∀ S : St, call prog (.fn 65 []) [.str f.2, .int .i64 256] S = some (.bool (txB f.2 && decide (f.2.length ≤ 256)), S) := fun S => sText_spec (m := 256) (by omega)
    have hco : ∀ S : St, call prog (.fn 66 []) [.str f.2, .str [34]] S = some (.bool (hasB f.2 [34]), S) := fun S => Contains_spec (by omega)
    have hk2 := hk.alloc' (z := [.str f.1, .str f.2])
    have hA2 := hA.alloc (z := [.str f.1, .str f.2]) (T := S.toks) (Lp := S.loops) (lo := S.low)
    cases q1 : nmB f.1 with
    | false =>
      rw [q1] at hnm
      simp (maxSteps := 1000000) (disch := omega) only [h1, h8, h9, h10, hlt, iaddr_f h.vs, ← hfe, load_f2, allocPV, store_f, faddrPV, Nat.add_zero, Nat.zero_add, load_b0, load_b1, hnm, W_seq, W_region, W_cond, W_block, W_skip, W_label, W_exit, W_goto, W_ret, WO_cons, WO_consG, WO_nil, wantedA_eq, wantB, evOp, ev_tmp, ev_const, ev_fn, WN_some, WN_none, updO_some, updO_none, upd_eq,
 ↓reduceIte, Nat.reduceEqDiff, List.nil_append, List.cons_append, List.append_nil, List.map_cons, List.map_nil, env0_zero, env0_succ, env0_nil, Option.map_some, Option.map_none, seqQ_normal, seqQ_ret, seqQ_exit, seqQ_goto, blockQ_normal, blockQ_ret, blockQ_exit, blockQ_goto, condW_bool, loopQ_ret, loopQ_exit, loopQ_goto, endQ_ret, endQ_normal,
 lss_i, leq_i, gtr_i, geq_i, eql_i, neq_i, eql_8, neq_8, lss_8, leq_8, gtr_8, geq_8, eql_s, neq_s, eql_b, neq_b, not_b, by_bys, by_nils, load_cp1, beq_true, beq_false, Bool.not_eq_true', decide_eq_true_eq, decide_eq_false_iff_not, decide_true, decide_false,
 Int.toNat_natCast, Int.ofNat_lt, Int.ofNat_le, Int.natCast_inj, Bool.false_eq_true, Bool.true_eq_false, extPV, List.getElem?_cons_zero, List.getElem?_cons_succ, nilckPV, Int.reduceToNat, Int.reduceLE, true_and, and_true, reduceCtorEq, or_false, false_or, or_true, Option.some.injEq, exists_eq_left', Bool.not_true, Bool.not_false, ne_eq, Int.reduceEq, not_true_eq_false, not_false_eq_true, Int.reduceLT, UInt8.reduceLT, UInt8.reduceLE, UInt8.reduceToNat]
      exact fin _ _ false hk2 (rtB_false (hnot fun hp => by rw [hp.1] at q1; cases q1)) rfl
    | true =>
    rw [q1] at hnm
    cases q2 : (txB f.2 && decide (f.2.length ≤ 256)) with
    | false =>
      rw [q2] at htx
      simp (maxSteps := 1000000) (disch := omega) only [h1, h8, h9, h10, hlt, iaddr_f h.vs, ← hfe, load_f2, allocPV, store_f, faddrPV, Nat.add_zero, Nat.zero_add, load_b0, load_b1, hnm, htx, W_seq, W_region, W_cond, W_block, W_skip, W_label, W_exit, W_goto, W_ret, WO_cons, WO_consG, WO_nil, wantedA_eq, wantB, evOp, ev_tmp, ev_const, ev_fn, WN_some, WN_none, updO_some, updO_none, upd_eq,
 ↓reduceIte, Nat.reduceEqDiff, List.nil_append, List.cons_append, List.append_nil, List.map_cons, List.map_nil, env0_zero, env0_succ, env0_nil, Option.map_some, Option.map_none, seqQ_normal, seqQ_ret, seqQ_exit, seqQ_goto, blockQ_normal, blockQ_ret, blockQ_exit, blockQ_goto, condW_bool, loopQ_ret, loopQ_exit, loopQ_goto, endQ_ret, endQ_normal,
 lss_i, leq_i, gtr_i, geq_i, eql_i, neq_i, eql_8, neq_8, lss_8, leq_8, gtr_8, geq_8, eql_s, neq_s, eql_b, neq_b, not_b, by_bys, by_nils, load_cp1, beq_true, beq_false, Bool.not_eq_true', decide_eq_true_eq, decide_eq_false_iff_not, decide_true, decide_false,
 Int.toNat_natCast, Int.ofNat_lt, Int.ofNat_le, Int.natCast_inj, Bool.false_eq_true, Bool.true_eq_false, extPV, List.getElem?_cons_zero, List.getElem?_cons_succ, nilckPV, Int.reduceToNat, Int.reduceLE, true_and, and_true, reduceCtorEq, or_false, false_or, or_true, Option.some.injEq, exists_eq_left', Bool.not_true, Bool.not_false, ne_eq, Int.reduceEq, not_true_eq_false, not_false_eq_true, Int.reduceLT, UInt8.reduceLT, UInt8.reduceLE, UInt8.reduceToNat]
      exact fin _ _ false hk2 (rtB_false (hnot fun hp => by rw [hp.2.1] at q2; simp [hp.2.2.1] at q2)) rfl
    | true =>
    rw [q2] at htx
    cases q3 : hasB f.2 [34] with
    | true =>
      rw [q3] at hco
      simp (maxSteps := 1000000) (disch := omega) only [h1, h8, h9, h10, hlt, iaddr_f h.vs, ← hfe, load_f2, allocPV, store_f, faddrPV, Nat.add_zero, Nat.zero_add, load_b0, load_b1, hnm, htx, hco, W_seq, W_region, W_cond, W_block, W_skip, W_label, W_exit, W_goto, W_ret, WO_cons, WO_consG, WO_nil, wantedA_eq, wantB, evOp, ev_tmp, ev_const, ev_fn, WN_some, WN_none, updO_some, updO_none, upd_eq,
 ↓reduceIte, Nat.reduceEqDiff, List.nil_append, List.cons_append, List.append_nil, List.map_cons, List.map_nil, env0_zero, env0_succ, env0_nil, Option.map_some, Option.map_none, seqQ_normal, seqQ_ret, seqQ_exit, seqQ_goto, blockQ_normal, blockQ_ret, blockQ_exit, blockQ_goto, condW_bool, loopQ_ret, loopQ_exit, loopQ_goto, endQ_ret, endQ_normal,
 lss_i, leq_i, gtr_i, geq_i, eql_i, neq_i, eql_8, neq_8, lss_8, leq_8, gtr_8, geq_8, eql_s, neq_s, eql_b, neq_b, not_b, by_bys, by_nils, load_cp1, beq_true, beq_false, Bool.not_eq_true', decide_eq_true_eq, decide_eq_false_iff_not, decide_true, decide_false,
 Int.toNat_natCast, Int.ofNat_lt, Int.ofNat_le, Int.natCast_inj, Bool.false_eq_true, Bool.true_eq_false, extPV, List.getElem?_cons_zero, List.getElem?_cons_succ, nilckPV, Int.reduceToNat, Int.reduceLE, true_and, and_true, reduceCtorEq, or_false, false_or, or_true, Option.some.injEq, exists_eq_left', Bool.not_true, Bool.not_false, ne_eq, Int.reduceEq, not_true_eq_false, not_false_eq_true, Int.reduceLT, UInt8.reduceLT, UInt8.reduceLE, UInt8.reduceToNat]
      exact fin _ _ false hk2 (rtB_false (hnot fun hp => by rw [hp.2.2.2] at q3; cases q3)) rfl
    | false =>
    rw [q3] at hco
    have hpar : parOK f := by
      simp only [Bool.and_eq_true, decide_eq_true_eq] at q2
      exact ⟨q1, q2.1, q2.2, q3⟩
    obtain ⟨y, hy1, hy2⟩ := slc_vs (k := .i64) (c := i) h.vs (by omega) (by simpa using hi)
    rw [← List.map_take] at hy2
    have hly := len_vs hy2
    rw [List.length_map, List.length_take, Nat.min_eq_left hi] at hly
    simp (maxSteps := 1000000) (disch := omega) only [h1, h8, h9, h10, hlt, iaddr_f h.vs, ← hfe, load_f2, allocPV, store_f, faddrPV, Nat.add_zero, Nat.zero_add, load_b0, load_b1, hnm, htx, hco, hld1 _ hA2, hy1, hly, W_seq, W_region, W_cond, W_block, W_skip, W_label, W_exit, W_goto, W_ret, WO_cons, WO_consG, WO_nil, wantedA_eq, wantB, evOp, ev_tmp, ev_const, ev_fn, WN_some, WN_none, updO_some, updO_none, upd_eq,
 ↓reduceIte, Nat.reduceEqDiff, List.nil_append, List.cons_append, List.append_nil, List.map_cons, List.map_nil, env0_zero, env0_succ, env0_nil, Option.map_some, Option.map_none, seqQ_normal, seqQ_ret, seqQ_exit, seqQ_goto, blockQ_normal, blockQ_ret, blockQ_exit, blockQ_goto, condW_bool, loopQ_ret, loopQ_exit, loopQ_goto, endQ_ret, endQ_normal,
 lss_i, leq_i, gtr_i, geq_i, eql_i, neq_i, eql_8, neq_8, lss_8, leq_8, gtr_8, geq_8, eql_s, neq_s, eql_b, neq_b, not_b, by_bys, by_nils, load_cp1, beq_true, beq_false, Bool.not_eq_true', decide_eq_true_eq, decide_eq_false_iff_not, decide_true, decide_false,
 Int.toNat_natCast, Int.ofNat_lt, Int.ofNat_le, Int.natCast_inj, Bool.false_eq_true, Bool.true_eq_false, extPV, List.getElem?_cons_zero, List.getElem?_cons_succ, nilckPV, Int.reduceToNat, Int.reduceLE, true_and, and_true, reduceCtorEq, or_false, false_or, or_true, Option.some.injEq, exists_eq_left', Bool.not_true, Bool.not_false, ne_eq, Int.reduceEq, not_true_eq_false, not_false_eq_true, Int.reduceLT, UInt8.reduceLT, UInt8.reduceLE, UInt8.reduceToNat]
    obtain ⟨b1, hb1⟩ : ∃ b1, b1 = S.boxes.length := ⟨_, rfl⟩
    obtain ⟨II, hII⟩ : ∃ II : Nat → Env → St → Prop, II = fun z E S => ∃ k, z = i - k ∧ k ≤ i ∧ Kept st S ∧ At S b0 [.str L.n, L.pv, .str L.v] ∧ At S b1 [.str f.1, .str f.2] ∧ (∀ j, j < k → (L.ps.getD j ([], [])).1 ≠ f.1) ∧ E 1 = .ptr b0 0 ∧ E 4 = .ptr b1 0 ∧ E 8 = L.pv ∧ E 9 = .int .i64 (L.ps.length : Int) ∧ E 10 = .int .i64 (i : Int) ∧ E 33 = y ∧ E 34 = .int .i64 (i : Int) ∧ E 35 = .int .i64 (k : Int) := ⟨_, rfl⟩
    refine W_loop II ?_ (n := i) (by
      rw [hII]
      exact ⟨0, rfl, by omega, hk2, hA2, by rw [hb1]; exact At.last, fun j hj => by omega, h1, by rw [hb1]; rfl, h8, h9, h10, rfl, rfl, rfl⟩)
    clear hk hA hk2 hA2 h1 h8 h9 h10
    intro z e S hh
    rw [hII] at hh
    obtain ⟨k, rfl, hki, hk, hA, hB, hdif, h1, h4, h8, h9, h10, h33, h34, h35⟩ := hh
    have hldB := hB.load (k := 0) (v := .str f.1) (r := [.str f.2]) rfl
    by_cases hkt : k < i
    · obtain ⟨g, hge⟩ : ∃ g, g = L.ps.getD k ([], []) := ⟨_, rfl⟩
      have hgt : (L.ps.take i).getD k ([], []) = g := by
        rw [hge]; simp [List.getD, List.getElem?_take, hkt]
      have hiy := iaddr_f (k := .i64) (c := (k : Int)) hy2 (by omega) (by rw [Int.toNat_natCast, List.length_take, Nat.min_eq_left hi]; exact hkt)
      rw [Int.toNat_natCast, hgt] at hiy
      have hk3 := hk.alloc' (z := [.str g.1, .str g.2])
      have hA3 := hA.alloc (z := [.str g.1, .str g.2]) (T := S.toks) (Lp := S.loops) (lo := S.low)
      have hB3 := hB.alloc (z := [.str g.1, .str g.2]) (T := S.toks) (Lp := S.loops) (lo := S.low)
      have hldB3 := hB3.load (k := 0) (v := .str f.1) (r := [.str f.2]) rfl
      by_cases hgf : g.1 = f.1
      · simp (maxSteps := 1000000) (disch := omega) only [h1, h4, h8, h9, h10, h33, h34, h35, hkt, hiy, load_f2, allocPV, store_f, faddrPV, Nat.add_zero, Nat.zero_add, load_b0, hldB3, eq_true hgf, W_seq, W_region, W_cond, W_block, W_skip, W_label, W_exit, W_goto, W_ret, WO_cons, WO_consG, WO_nil, wantedA_eq, wantB, evOp, ev_tmp, ev_const, ev_fn, WN_some, WN_none, updO_some, updO_none, upd_eq,
 ↓reduceIte, Nat.reduceEqDiff, List.nil_append, List.cons_append, List.append_nil, List.map_cons, List.map_nil, env0_zero, env0_succ, env0_nil, Option.map_some, Option.map_none, seqQ_normal, seqQ_ret, seqQ_exit, seqQ_goto, blockQ_normal, blockQ_ret, blockQ_exit, blockQ_goto, condW_bool, loopQ_ret, loopQ_exit, loopQ_goto, endQ_ret, endQ_normal,
 lss_i, leq_i, gtr_i, geq_i, eql_i, neq_i, eql_8, neq_8, lss_8, leq_8, gtr_8, geq_8, eql_s, neq_s, eql_b, neq_b, not_b, by_bys, by_nils, load_cp1, beq_true, beq_false, Bool.not_eq_true', decide_eq_true_eq, decide_eq_false_iff_not, decide_true, decide_false,
 Int.toNat_natCast, Int.ofNat_lt, Int.ofNat_le, Int.natCast_inj, Bool.false_eq_true, Bool.true_eq_false, extPV, List.getElem?_cons_zero, List.getElem?_cons_succ, nilckPV, Int.reduceToNat, Int.reduceLE, true_and, and_true, reduceCtorEq, or_false, false_or, or_true, Option.some.injEq, exists_eq_left', Bool.not_true, Bool.not_false, ne_eq, Int.reduceEq, not_true_eq_false, not_false_eq_true, Int.reduceLT, UInt8.reduceLT, UInt8.reduceLE, UInt8.reduceToNat]
        exact fin _ _ false hk3 (rtB_false fun hp => hp.2.2.2.2.2 i hlt k hkt (by rw [← hge, ← hfe]; exact hgf)) rfl
      · simp (maxSteps := 1000000) (disch := omega) only [h1, h4, h8, h9, h10, h33, h34, h35, hkt, hiy, load_f2, allocPV, store_f, faddrPV, Nat.add_zero, Nat.zero_add, load_b0, hldB3, hgf, add_n, W_seq, W_region, W_cond, W_block, W_skip, W_label, W_exit, W_goto, W_ret, WO_cons, WO_consG, WO_nil, wantedA_eq, wantB, evOp, ev_tmp, ev_const, ev_fn, WN_some, WN_none, updO_some, updO_none, upd_eq,
 ↓reduceIte, Nat.reduceEqDiff, List.nil_append, List.cons_append, List.append_nil, List.map_cons, List.map_nil, env0_zero, env0_succ, env0_nil, Option.map_some, Option.map_none, seqQ_normal, seqQ_ret, seqQ_exit, seqQ_goto, blockQ_normal, blockQ_ret, blockQ_exit, blockQ_goto, condW_bool, loopQ_ret, loopQ_exit, loopQ_goto, endQ_ret, endQ_normal,
 lss_i, leq_i, gtr_i, geq_i, eql_i, neq_i, eql_8, neq_8, lss_8, leq_8, gtr_8, geq_8, eql_s, neq_s, eql_b, neq_b, not_b, by_bys, by_nils, load_cp1, beq_true, beq_false, Bool.not_eq_true', decide_eq_true_eq, decide_eq_false_iff_not, decide_true, decide_false,
 Int.toNat_natCast, Int.ofNat_lt, Int.ofNat_le, Int.natCast_inj, Bool.false_eq_true, Bool.true_eq_false, extPV, List.getElem?_cons_zero, List.getElem?_cons_succ, nilckPV, Int.reduceToNat, Int.reduceLE, true_and, and_true, reduceCtorEq, or_false, false_or, or_true, Option.some.injEq, exists_eq_left', Bool.not_true, Bool.not_false, ne_eq, Int.reduceEq, not_true_eq_false, not_false_eq_true, Int.reduceLT, UInt8.reduceLT, UInt8.reduceLE, UInt8.reduceToNat]
        refine loopQ_intro (m := i - (k + 1)) (by omega) ?_
        rw [hII]
        refine ⟨k + 1, rfl, by omega, hk3, hA3, hB3, fun j hj => ?_, h1, h4, h8, h9, h10, h33, h34, rfl⟩
        by_cases hjk : j = k
        · subst hjk; rw [← hge]; exact hgf
        · exact hdif j (by omega)
    · obtain rfl : k = i := by omega
      simp (maxSteps := 1000000) (disch := omega) only [h1, h4, h8, h9, h10, h33, h34, h35, hkt, add_n, W_seq, W_region, W_cond, W_block, W_skip, W_label, W_exit, W_goto, W_ret, WO_cons, WO_consG, WO_nil, wantedA_eq, wantB, evOp, ev_tmp, ev_const, ev_fn, WN_some, WN_none, updO_some, updO_none, upd_eq,
 ↓reduceIte, Nat.reduceEqDiff, List.nil_append, List.cons_append, List.append_nil, List.map_cons, List.map_nil, env0_zero, env0_succ, env0_nil, Option.map_some, Option.map_none, seqQ_normal, seqQ_ret, seqQ_exit, seqQ_goto, blockQ_normal, blockQ_ret, blockQ_exit, blockQ_goto, condW_bool, loopQ_ret, loopQ_exit, loopQ_goto, endQ_ret, endQ_normal,
 lss_i, leq_i, gtr_i, geq_i, eql_i, neq_i, eql_8, neq_8, lss_8, leq_8, gtr_8, geq_8, eql_s, neq_s, eql_b, neq_b, not_b, by_bys, by_nils, load_cp1, beq_true, beq_false, Bool.not_eq_true', decide_eq_true_eq, decide_eq_false_iff_not, decide_true, decide_false,
 Int.toNat_natCast, Int.ofNat_lt, Int.ofNat_le, Int.natCast_inj, Bool.false_eq_true, Bool.true_eq_false, extPV, List.getElem?_cons_zero, List.getElem?_cons_succ, nilckPV, Int.reduceToNat, Int.reduceLE, true_and, and_true, reduceCtorEq, or_false, false_or, or_true, Option.some.injEq, exists_eq_left', Bool.not_true, Bool.not_false, ne_eq, Int.reduceEq, not_true_eq_false, not_false_eq_true, Int.reduceLT, UInt8.reduceLT, UInt8.reduceLE, UInt8.reduceToNat]
      refine loopQ_intro (m := L.ps.length - (k + 1)) (by omega) ?_
      rw [hI]
      refine ⟨k + 1, rfl, by omega, hk, hA, fun j hj => ?_, h1, h8, h9, rfl⟩
      by_cases hji : j = k
      · subst hji
        refine ⟨by rw [← hfe]; exact hpar, fun k' hk' => by rw [← hfe]; exact hdif k' hk'⟩
      · exact hall j (by omega)
  · obtain rfl : i = L.ps.length := by omega
    have hnm : ∀ S : St, call prog (.fn 64 []) [.str L.n] S = some (.bool (nmB L.n), S) := fun S => sName_spec (by have := h.l1; omega)
    have htx : ∀ S : St, call prog (.fn 65 []) [.str L.v, .int .i64 4096] S = some (.bool (txB L.v && decide (L.v.length ≤ 4096)), S) := fun S => sText_spec (m := 4096) (by have := h.l2; omega)
    cases q1 : nmB L.n with
    | false =>
      rw [q1] at hnm
      simp (maxSteps := 1000000) (disch := omega) only [h1, h8, h9, h10, hlt, faddrPV, Nat.zero_add, hld0 S hA, hld1 S hA, hld2 S hA, hnm, hll, W_seq, W_region, W_cond, W_block, W_skip, W_label, W_exit, W_goto, W_ret, WO_cons, WO_consG, WO_nil, wantedA_eq, wantB, evOp, ev_tmp, ev_const, ev_fn, WN_some, WN_none, updO_some, updO_none, upd_eq,
 ↓reduceIte, Nat.reduceEqDiff, List.nil_append, List.cons_append, List.append_nil, List.map_cons, List.map_nil, env0_zero, env0_succ, env0_nil, Option.map_some, Option.map_none, seqQ_normal, seqQ_ret, seqQ_exit, seqQ_goto, blockQ_normal, blockQ_ret, blockQ_exit, blockQ_goto, condW_bool, loopQ_ret, loopQ_exit, loopQ_goto, endQ_ret, endQ_normal,
 lss_i, leq_i, gtr_i, geq_i, eql_i, neq_i, eql_8, neq_8, lss_8, leq_8, gtr_8, geq_8, eql_s, neq_s, eql_b, neq_b, not_b, by_bys, by_nils, load_cp1, beq_true, beq_false, Bool.not_eq_true', decide_eq_true_eq, decide_eq_false_iff_not, decide_true, decide_false,
 Int.toNat_natCast, Int.ofNat_lt, Int.ofNat_le, Int.natCast_inj, Bool.false_eq_true, Bool.true_eq_false, extPV, List.getElem?_cons_zero, List.getElem?_cons_succ, nilckPV, Int.reduceToNat, Int.reduceLE, true_and, and_true, reduceCtorEq, or_false, false_or, or_true, Option.some.injEq, exists_eq_left', Bool.not_true, Bool.not_false, ne_eq, Int.reduceEq, not_true_eq_false, not_false_eq_true, Int.reduceLT, UInt8.reduceLT, UInt8.reduceLE, UInt8.reduceToNat]
      exact fin _ _ false hk (rtB_false fun hp => by rw [hp.1] at q1; cases q1) rfl
    | true =>
    rw [q1] at hnm
    cases q2 : (txB L.v && decide (L.v.length ≤ 4096)) with
    | false =>
      rw [q2] at htx
      simp (maxSteps := 1000000) (disch := omega) only [h1, h8, h9, h10, hlt, faddrPV, Nat.zero_add, hld0 S hA, hld1 S hA, hld2 S hA, hnm, htx, hll, W_seq, W_region, W_cond, W_block, W_skip, W_label, W_exit, W_goto, W_ret, WO_cons, WO_consG, WO_nil, wantedA_eq, wantB, evOp, ev_tmp, ev_const, ev_fn, WN_some, WN_none, updO_some, updO_none, upd_eq,
 ↓reduceIte, Nat.reduceEqDiff, List.nil_append, List.cons_append, List.append_nil, List.map_cons, List.map_nil, env0_zero, env0_succ, env0_nil, Option.map_some, Option.map_none, seqQ_normal, seqQ_ret, seqQ_exit, seqQ_goto, blockQ_normal, blockQ_ret, blockQ_exit, blockQ_goto, condW_bool, loopQ_ret, loopQ_exit, loopQ_goto, endQ_ret, endQ_normal,
 lss_i, leq_i, gtr_i, geq_i, eql_i, neq_i, eql_8, neq_8, lss_8, leq_8, gtr_8, geq_8, eql_s, neq_s, eql_b, neq_b, not_b, by_bys, by_nils, load_cp1, beq_true, beq_false, Bool.not_eq_true', decide_eq_true_eq, decide_eq_false_iff_not, decide_true, decide_false,
 Int.toNat_natCast, Int.ofNat_lt, Int.ofNat_le, Int.natCast_inj, Bool.false_eq_true, Bool.true_eq_false, extPV, List.getElem?_cons_zero, List.getElem?_cons_succ, nilckPV, Int.reduceToNat, Int.reduceLE, true_and, and_true, reduceCtorEq, or_false, false_or, or_true, Option.some.injEq, exists_eq_left', Bool.not_true, Bool.not_false, ne_eq, Int.reduceEq, not_true_eq_false, not_false_eq_true, Int.reduceLT, UInt8.reduceLT, UInt8.reduceLE, UInt8.reduceToNat]
      exact fin _ _ false hk (rtB_false fun hp => by rw [hp.2.1] at q2; simp [hp.2.2.1] at q2) rfl
    | true =>
    rw [q2] at htx
    simp only [Bool.and_eq_true, decide_eq_true_eq] at q2
    by_cases q3 : L.ps.length ≤ 16
    · have e3 : (L.ps.length : Int) ≤ 16 := by omega
      simp (maxSteps := 1000000) (disch := omega) only [h1, h8, h9, h10, hlt, faddrPV, Nat.zero_add, hld0 S hA, hld1 S hA, hld2 S hA, hnm, htx, hll, e3, W_seq, W_region, W_cond, W_block, W_skip, W_label, W_exit, W_goto, W_ret, WO_cons, WO_consG, WO_nil, wantedA_eq, wantB, evOp, ev_tmp, ev_const, ev_fn, WN_some, WN_none, updO_some, updO_none, upd_eq,
 ↓reduceIte, Nat.reduceEqDiff, List.nil_append, List.cons_append, List.append_nil, List.map_cons, List.map_nil, env0_zero, env0_succ, env0_nil, Option.map_some, Option.map_none, seqQ_normal, seqQ_ret, seqQ_exit, seqQ_goto, blockQ_normal, blockQ_ret, blockQ_exit, blockQ_goto, condW_bool, loopQ_ret, loopQ_exit, loopQ_goto, endQ_ret, endQ_normal,
 lss_i, leq_i, gtr_i, geq_i, eql_i, neq_i, eql_8, neq_8, lss_8, leq_8, gtr_8, geq_8, eql_s, neq_s, eql_b, neq_b, not_b, by_bys, by_nils, load_cp1, beq_true, beq_false, Bool.not_eq_true', decide_eq_true_eq, decide_eq_false_iff_not, decide_true, decide_false,
 Int.toNat_natCast, Int.ofNat_lt, Int.ofNat_le, Int.natCast_inj, Bool.false_eq_true, Bool.true_eq_false, extPV, List.getElem?_cons_zero, List.getElem?_cons_succ, nilckPV, Int.reduceToNat, Int.reduceLE, true_and, and_true, reduceCtorEq, or_false, false_or, or_true, Option.some.injEq, exists_eq_left', Bool.not_true, Bool.not_false, ne_eq, Int.reduceEq, not_true_eq_false, not_false_eq_true, Int.reduceLT, UInt8.reduceLT, UInt8.reduceLE, UInt8.reduceToNat]
      exact fin _ _ true hk (rtB_true ⟨q1, q2.1, q2.2, q3, fun i hi => (hall i hi).1, fun i hi => (hall i hi).2⟩) rfl
    · have e3 : ¬ (L.ps.length : Int) ≤ 16 := by omega
      simp (maxSteps := 1000000) (disch := omega) only [h1, h8, h9, h10, hlt, faddrPV, Nat.zero_add, hld0 S hA, hld1 S hA, hld2 S hA, hnm, htx, hll, e3, W_seq, W_region, W_cond, W_block, W_skip, W_label, W_exit, W_goto, W_ret, WO_cons, WO_consG, WO_nil, wantedA_eq, wantB, evOp, ev_tmp, ev_const, ev_fn, WN_some, WN_none, updO_some, updO_none, upd_eq,
 ↓reduceIte, Nat.reduceEqDiff, List.nil_append, List.cons_append, List.append_nil, List.map_cons, List.map_nil, env0_zero, env0_succ, env0_nil, Option.map_some, Option.map_none, seqQ_normal, seqQ_ret, seqQ_exit, seqQ_goto, blockQ_normal, blockQ_ret, blockQ_exit, blockQ_goto, condW_bool, loopQ_ret, loopQ_exit, loopQ_goto, endQ_ret, endQ_normal,
 lss_i, leq_i, gtr_i, geq_i, eql_i, neq_i, eql_8, neq_8, lss_8, leq_8, gtr_8, geq_8, eql_s, neq_s, eql_b, neq_b, not_b, by_bys, by_nils, load_cp1, beq_true, beq_false, Bool.not_eq_true', decide_eq_true_eq, decide_eq_false_iff_not, decide_true, decide_false,
 Int.toNat_natCast, Int.ofNat_lt, Int.ofNat_le, Int.natCast_inj, Bool.false_eq_true, Bool.true_eq_false, extPV, List.getElem?_cons_zero, List.getElem?_cons_succ, nilckPV, Int.reduceToNat, Int.reduceLE, true_and, and_true, reduceCtorEq, or_false, false_or, or_true, Option.some.injEq, exists_eq_left', Bool.not_true, Bool.not_false, ne_eq, Int.reduceEq, not_true_eq_false, not_false_eq_true, Int.reduceLT, UInt8.reduceLT, UInt8.reduceLE, UInt8.reduceToNat]
      exact fin _ _ false hk (rtB_false fun hp => q3 hp.2.2.2.1) rfl
end Go.Ab

/-
  Lines that may be, by the document.
-/
namespace Go.Ab
set_option linter.unusedVariables false
set_option linter.unusedSimpArgs false
variable {st s : St} {e : Env}

theorem load_ch {a : PV} {r : List PV} : loadPV st false 1 (.cp (a :: r)) = some a := rfl

set_option maxHeartbeats 1000000 in
theorem rRight_spec {L : Ln} (h : L.ok) : call prog (.fn 51 []) [lV L] st = some (.bool (rtB L), st) := by
  refine call_of_W prog_51 ?_
  unfold F_posthornref10_Right; dsimp only
  have hbx := box_l h (n := st.boxes.length)
  obtain ⟨q, hq⟩ : ∃ q, q = lV L := ⟨_, rfl⟩
  rw [← hq] at hbx
  have hqc : q.cells = [.str L.n, L.pv, .str L.v] := by rw [hq]; rfl
  rw [hqc] at hbx
  have hll := len_vs h.vs
  rw [List.length_map] at hll
  have hl3 := h.l3
  obtain ⟨b0, hb0⟩ : ∃ b0, b0 = st.boxes.length := ⟨_, rfl⟩
  refine W_cut (fun E S => Kept st S ∧ At S b0 [.str L.n, L.pv, .str L.v] ∧ E 1 = .ptr b0 0) ?_ ?_
  · rw [← hq]
    simp (maxSteps := 1000000) (disch := omega) only [hbx.1, hbx.2, and_self, allocPV, hqc, W_seq, W_region, W_cond, W_block, W_skip, W_label, W_exit, W_goto, W_ret, WO_cons, WO_consG, WO_nil, wantedA_eq, wantB, evOp, ev_tmp, ev_const, ev_fn, WN_some, WN_none, updO_some, updO_none, upd_eq,
 ↓reduceIte, Nat.reduceEqDiff, List.nil_append, List.cons_append, List.append_nil, List.map_cons, List.map_nil, env0_zero, env0_succ, env0_nil, Option.map_some, Option.map_none, seqQ_normal, seqQ_ret, seqQ_exit, seqQ_goto, blockQ_normal, blockQ_ret, blockQ_exit, blockQ_goto, condW_bool, loopQ_ret, loopQ_exit, loopQ_goto, endQ_ret, endQ_normal,
 lss_i, leq_i, gtr_i, geq_i, eql_i, neq_i, eql_8, neq_8, lss_8, leq_8, gtr_8, geq_8, eql_s, neq_s, eql_b, neq_b, not_b, by_bys, by_nils, load_cp1, beq_true, beq_false, Bool.not_eq_true', decide_eq_true_eq, decide_eq_false_iff_not, decide_true, decide_false,
 Int.toNat_natCast, Int.ofNat_lt, Int.ofNat_le, Int.natCast_inj, Bool.false_eq_true, Bool.true_eq_false, extPV, List.getElem?_cons_zero, List.getElem?_cons_succ, nilckPV, Int.reduceToNat, Int.reduceLE, true_and, and_true, reduceCtorEq, or_false, false_or, or_true, Option.some.injEq, exists_eq_left', Bool.not_true, Bool.not_false, ne_eq, Int.reduceEq, not_true_eq_false, not_false_eq_true, Int.reduceLT, UInt8.reduceLT, UInt8.reduceLE, UInt8.reduceToNat]
    refine ⟨Kept.start.alloc, ?_, by rw [hb0]⟩
    rw [hb0]; exact At.last
  clear hbx hqc hq
  rintro e S ⟨hk, hA, h1⟩
  have fin : ∀ (E : Env) (S : St) (b : Bool), Kept st S → rtB L = b → E 2 = .bool b → ∃ rv, resOf E S [.tmp 2] = some rv ∧ leave st S rv = (.bool (rtB L), st) := fun E S b k1 hb k2 =>
    ⟨.bool b, by simp [resOf, rvAll, rv1, k2, notTup, packRes], by rw [hb]; exact k1.leave rfl (fun _ _ => rfl)⟩
  have hld1 := fun (S : St) (hA : At S b0 [.str L.n, L.pv, .str L.v]) => hA.load (k := 1) (v := L.pv) (r := [.str L.v]) rfl
  have hld0 := fun (S : St) (hA : At S b0 [.str L.n, L.pv, .str L.v]) => hA.load (k := 0) (v := .str L.n) (r := [L.pv, .str L.v]) rfl
  have hld2 := fun (S : St) (hA : At S b0 [.str L.n, L.pv, .str L.v]) => hA.load (k := 2) (v := .str L.v) (r := []) rfl
  have hnm : ∀ S : St, call prog (.fn 67 []) [.str L.n] S = some (.bool (nmB L.n), S) := fun S => rNm_spec (by have := h.l1; omega)
  have htx : ∀ S : St, call prog (.fn 68 []) [.str L.v] S = some (.bool (txB L.v), S) := fun S => rText_spec (by have := h.l2; omega)
  cases q1 : nmB L.n with
  | false =>
    rw [q1] at hnm
    simp (maxSteps := 1000000) (disch := omega) only [h1, faddrPV, Nat.zero_add, hld0 S hA, hld1 S hA, hld2 S hA, hnm, hll, W_seq, W_region, W_cond, W_block, W_skip, W_label, W_exit, W_goto, W_ret, WO_cons, WO_consG, WO_nil, wantedA_eq, wantB, evOp, ev_tmp, ev_const, ev_fn, WN_some, WN_none, updO_some, updO_none, upd_eq,
 ↓reduceIte, Nat.reduceEqDiff, List.nil_append, List.cons_append, List.append_nil, List.map_cons, List.map_nil, env0_zero, env0_succ, env0_nil, Option.map_some, Option.map_none, seqQ_normal, seqQ_ret, seqQ_exit, seqQ_goto, blockQ_normal, blockQ_ret, blockQ_exit, blockQ_goto, condW_bool, loopQ_ret, loopQ_exit, loopQ_goto, endQ_ret, endQ_normal,
 lss_i, leq_i, gtr_i, geq_i, eql_i, neq_i, eql_8, neq_8, lss_8, leq_8, gtr_8, geq_8, eql_s, neq_s, eql_b, neq_b, not_b, by_bys, by_nils, load_cp1, beq_true, beq_false, Bool.not_eq_true', decide_eq_true_eq, decide_eq_false_iff_not, decide_true, decide_false,
 Int.toNat_natCast, Int.ofNat_lt, Int.ofNat_le, Int.natCast_inj, Bool.false_eq_true, Bool.true_eq_false, extPV, List.getElem?_cons_zero, List.getElem?_cons_succ, nilckPV, Int.reduceToNat, Int.reduceLE, true_and, and_true, reduceCtorEq, or_false, false_or, or_true, Option.some.injEq, exists_eq_left', Bool.not_true, Bool.not_false, ne_eq, Int.reduceEq, not_true_eq_false, not_false_eq_true, Int.reduceLT, UInt8.reduceLT, UInt8.reduceLE, UInt8.reduceToNat]
    exact fin _ _ false hk (rtB_false fun hp => by rw [hp.1] at q1; cases q1) rfl
  | true =>
  rw [q1] at hnm
  cases q2 : txB L.v with
  | false =>
    rw [q2] at htx
    simp (maxSteps := 1000000) (disch := omega) only [h1, faddrPV, Nat.zero_add, hld0 S hA, hld1 S hA, hld2 S hA, hnm, htx, hll, W_seq, W_region, W_cond, W_block, W_skip, W_label, W_exit, W_goto, W_ret, WO_cons, WO_consG, WO_nil, wantedA_eq, wantB, evOp, ev_tmp, ev_const, ev_fn, WN_some, WN_none, updO_some, updO_none, upd_eq,
 ↓reduceIte, Nat.reduceEqDiff, List.nil_append, List.cons_append, List.append_nil, List.map_cons, List.map_nil, env0_zero, env0_succ, env0_nil, Option.map_some, Option.map_none, seqQ_normal, seqQ_ret, seqQ_exit, seqQ_goto, blockQ_normal, blockQ_ret, blockQ_exit, blockQ_goto, condW_bool, loopQ_ret, loopQ_exit, loopQ_goto, endQ_ret, endQ_normal,
 lss_i, leq_i, gtr_i, geq_i, eql_i, neq_i, eql_8, neq_8, lss_8, leq_8, gtr_8, geq_8, eql_s, neq_s, eql_b, neq_b, not_b, by_bys, by_nils, load_cp1, beq_true, beq_false, Bool.not_eq_true', decide_eq_true_eq, decide_eq_false_iff_not, decide_true, decide_false,
 Int.toNat_natCast, Int.ofNat_lt, Int.ofNat_le, Int.natCast_inj, Bool.false_eq_true, Bool.true_eq_false, extPV, List.getElem?_cons_zero, List.getElem?_cons_succ, nilckPV, Int.reduceToNat, Int.reduceLE, true_and, and_true, reduceCtorEq, or_false, false_or, or_true, Option.some.injEq, exists_eq_left', Bool.not_true, Bool.not_false, ne_eq, Int.reduceEq, not_true_eq_false, not_false_eq_true, Int.reduceLT, UInt8.reduceLT, UInt8.reduceLE, UInt8.reduceToNat]
    exact fin _ _ false hk (rtB_false fun hp => by rw [hp.2.1] at q2; cases q2) rfl
  | true =>
  rw [q2] at htx
  by_cases q3 : 4096 < L.v.length
  · have e3 : (4096 : Int) < (L.v.length : Int) := by omega
    simp (maxSteps := 1000000) (disch := omega) only [h1, faddrPV, Nat.zero_add, hld0 S hA, hld1 S hA, hld2 S hA, hnm, htx, hll, len_s, e3, W_seq, W_region, W_cond, W_block, W_skip, W_label, W_exit, W_goto, W_ret, WO_cons, WO_consG, WO_nil, wantedA_eq, wantB, evOp, ev_tmp, ev_const, ev_fn, WN_some, WN_none, updO_some, updO_none, upd_eq,
 ↓reduceIte, Nat.reduceEqDiff, List.nil_append, List.cons_append, List.append_nil, List.map_cons, List.map_nil, env0_zero, env0_succ, env0_nil, Option.map_some, Option.map_none, seqQ_normal, seqQ_ret, seqQ_exit, seqQ_goto, blockQ_normal, blockQ_ret, blockQ_exit, blockQ_goto, condW_bool, loopQ_ret, loopQ_exit, loopQ_goto, endQ_ret, endQ_normal,
 lss_i, leq_i, gtr_i, geq_i, eql_i, neq_i, eql_8, neq_8, lss_8, leq_8, gtr_8, geq_8, eql_s, neq_s, eql_b, neq_b, not_b, by_bys, by_nils, load_cp1, beq_true, beq_false, Bool.not_eq_true', decide_eq_true_eq, decide_eq_false_iff_not, decide_true, decide_false,
 Int.toNat_natCast, Int.ofNat_lt, Int.ofNat_le, Int.natCast_inj, Bool.false_eq_true, Bool.true_eq_false, extPV, List.getElem?_cons_zero, List.getElem?_cons_succ, nilckPV, Int.reduceToNat, Int.reduceLE, true_and, and_true, reduceCtorEq, or_false, false_or, or_true, Option.some.injEq, exists_eq_left', Bool.not_true, Bool.not_false, ne_eq, Int.reduceEq, not_true_eq_false, not_false_eq_true, Int.reduceLT, UInt8.reduceLT, UInt8.reduceLE, UInt8.reduceToNat]
    exact fin _ _ false hk (rtB_false fun hp => by have := hp.2.2.1; omega) rfl
  have e3 : ¬ (4096 : Int) < (L.v.length : Int) := by omega
  by_cases q4 : 16 < L.ps.length
  · have e4 : (16 : Int) < (L.ps.length : Int) := by omega
    simp (maxSteps := 1000000) (disch := omega) only [h1, faddrPV, Nat.zero_add, hld0 S hA, hld1 S hA, hld2 S hA, hnm, htx, hll, len_s, e3, e4, W_seq, W_region, W_cond, W_block, W_skip, W_label, W_exit, W_goto, W_ret, WO_cons, WO_consG, WO_nil, wantedA_eq, wantB, evOp, ev_tmp, ev_const, ev_fn, WN_some, WN_none, updO_some, updO_none, upd_eq,
 ↓reduceIte, Nat.reduceEqDiff, List.nil_append, List.cons_append, List.append_nil, List.map_cons, List.map_nil, env0_zero, env0_succ, env0_nil, Option.map_some, Option.map_none, seqQ_normal, seqQ_ret, seqQ_exit, seqQ_goto, blockQ_normal, blockQ_ret, blockQ_exit, blockQ_goto, condW_bool, loopQ_ret, loopQ_exit, loopQ_goto, endQ_ret, endQ_normal,
 lss_i, leq_i, gtr_i, geq_i, eql_i, neq_i, eql_8, neq_8, lss_8, leq_8, gtr_8, geq_8, eql_s, neq_s, eql_b, neq_b, not_b, by_bys, by_nils, load_cp1, beq_true, beq_false, Bool.not_eq_true', decide_eq_true_eq, decide_eq_false_iff_not, decide_true, decide_false,
 Int.toNat_natCast, Int.ofNat_lt, Int.ofNat_le, Int.natCast_inj, Bool.false_eq_true, Bool.true_eq_false, extPV, List.getElem?_cons_zero, List.getElem?_cons_succ, nilckPV, Int.reduceToNat, Int.reduceLE, true_and, and_true, reduceCtorEq, or_false, false_or, or_true, Option.some.injEq, exists_eq_left', Bool.not_true, Bool.not_false, ne_eq, Int.reduceEq, not_true_eq_false, not_false_eq_true, Int.reduceLT, UInt8.reduceLT, UInt8.reduceLE, UInt8.reduceToNat]
    exact fin _ _ false hk (rtB_false fun hp => by have := hp.2.2.2.1; omega) rfl
  have e4 : ¬ (16 : Int) < (L.ps.length : Int) := by omega
  simp (maxSteps := 1000000) (disch := omega) only [h1, faddrPV, Nat.zero_add, hld0 S hA, hld1 S hA, hld2 S hA, hnm, htx, hll, len_s, e3, e4, W_seq, W_region, W_cond, W_block, W_skip, W_label, W_exit, W_goto, W_ret, WO_cons, WO_consG, WO_nil, wantedA_eq, wantB, evOp, ev_tmp, ev_const, ev_fn, WN_some, WN_none, updO_some, updO_none, upd_eq,
 ↓reduceIte, Nat.reduceEqDiff, List.nil_append, List.cons_append, List.append_nil, List.map_cons, List.map_nil, env0_zero, env0_succ, env0_nil, Option.map_some, Option.map_none, seqQ_normal, seqQ_ret, seqQ_exit, seqQ_goto, blockQ_normal, blockQ_ret, blockQ_exit, blockQ_goto, condW_bool, loopQ_ret, loopQ_exit, loopQ_goto, endQ_ret, endQ_normal,
 lss_i, leq_i, gtr_i, geq_i, eql_i, neq_i, eql_8, neq_8, lss_8, leq_8, gtr_8, geq_8, eql_s, neq_s, eql_b, neq_b, not_b, by_bys, by_nils, load_cp1, beq_true, beq_false, Bool.not_eq_true', decide_eq_true_eq, decide_eq_false_iff_not, decide_true, decide_false,
 Int.toNat_natCast, Int.ofNat_lt, Int.ofNat_le, Int.natCast_inj, Bool.false_eq_true, Bool.true_eq_false, extPV, List.getElem?_cons_zero, List.getElem?_cons_succ, nilckPV, Int.reduceToNat, Int.reduceLE, true_and, and_true, reduceCtorEq, or_false, false_or, or_true, Option.some.injEq, exists_eq_left', Bool.not_true, Bool.not_false, ne_eq, Int.reduceEq, not_true_eq_false, not_false_eq_true, Int.reduceLT, UInt8.reduceLT, UInt8.reduceLE, UInt8.reduceToNat]
  obtain ⟨I, hI⟩ : ∃ I : Nat → Env → St → Prop, I = fun z E S => ∃ i, z = L.ps.length - i ∧ i ≤ L.ps.length ∧ Kept st S ∧ At S b0 [.str L.n, L.pv, .str L.v] ∧ (∀ j, j < i → parOK (L.ps.getD j ([], [])) ∧ ∀ k, k < j → (L.ps.getD k ([], [])).1 ≠ (L.ps.getD j ([], [])).1) ∧ E 1 = .ptr b0 0 ∧ E 3 = .int .i64 (i : Int) := ⟨_, rfl⟩
  refine W_loop I ?_ (n := L.ps.length) (by
    rw [hI]
    exact ⟨0, rfl, by omega, hk, hA, fun j hj => by omega, h1, rfl⟩)
  clear hk hA h1
  intro z e S hh
  rw [hI] at hh
  obtain ⟨i, rfl, hi, hk, hA, hall, h1, h3⟩ := hh
  by_cases hlt : i < L.ps.length
  · obtain ⟨f, hfe⟩ : ∃ f, f = L.ps.getD i ([], []) := ⟨_, rfl⟩
    have hfm : f ∈ L.ps := by rw [hfe]; simp [List.getD, hlt]
    have hf4 := h.l4 f hfm
    have hnot : ¬ parOK f → ¬ rtP L := fun hn hp => hn (by rw [hfe]; exact hp.2.2.2.2.1 i hlt)
    have hnm2 : ∀ S : St, call prog (.fn 67 []) [.str f.1] S = some (.bool (nmB f.1), S) := fun S => rNm_spec (by omega)
    have htx2 : ∀ S : St, call prog (.fn 68 []) [.str f.2] S = some (.bool (txB f.2), S) := fun S => rText_spec (by omega)
    have hco : ∀ S : St, call prog (.fn 56 []) [.str f.2, .str [34]] S = some (.bool (hasB f.2 [34]), S) := fun S => Has_spec (by omega) (by simp)
    have hk2 := hk.alloc' (z := [.str f.1, .str f.2])
    have hA2 := hA.alloc (z := [.str f.1, .str f.2]) (T := S.toks) (Lp := S.loops) (lo := S.low)
    cases p1 : nmB f.1 with
    | false =>
      rw [p1] at hnm2
      simp (maxSteps := 1000000) (disch := omega) only [h1, h3, hld1 S hA, hll, hlt, iaddr_f h.vs, ← hfe, load_f2, allocPV, store_f, faddrPV, Nat.add_zero, Nat.zero_add, load_b0, load_b1, hnm2, W_seq, W_region, W_cond, W_block, W_skip, W_label, W_exit, W_goto, W_ret, WO_cons, WO_consG, WO_nil, wantedA_eq, wantB, evOp, ev_tmp, ev_const, ev_fn, WN_some, WN_none, updO_some, updO_none, upd_eq,
 ↓reduceIte, Nat.reduceEqDiff, List.nil_append, List.cons_append, List.append_nil, List.map_cons, List.map_nil, env0_zero, env0_succ, env0_nil, Option.map_some, Option.map_none, seqQ_normal, seqQ_ret, seqQ_exit, seqQ_goto, blockQ_normal, blockQ_ret, blockQ_exit, blockQ_goto, condW_bool, loopQ_ret, loopQ_exit, loopQ_goto, endQ_ret, endQ_normal,
 lss_i, leq_i, gtr_i, geq_i, eql_i, neq_i, eql_8, neq_8, lss_8, leq_8, gtr_8, geq_8, eql_s, neq_s, eql_b, neq_b, not_b, by_bys, by_nils, load_cp1, beq_true, beq_false, Bool.not_eq_true', decide_eq_true_eq, decide_eq_false_iff_not, decide_true, decide_false,
 Int.toNat_natCast, Int.ofNat_lt, Int.ofNat_le, Int.natCast_inj, Bool.false_eq_true, Bool.true_eq_false, extPV, List.getElem?_cons_zero, List.getElem?_cons_succ, nilckPV, Int.reduceToNat, Int.reduceLE, true_and, and_true, reduceCtorEq, or_false, false_or, or_true, Option.some.injEq, exists_eq_left', Bool.not_true, Bool.not_false, ne_eq, Int.reduceEq, not_true_eq_false, not_false_eq_true, Int.reduceLT, UInt8.reduceLT, UInt8.reduceLE, UInt8.reduceToNat]
      exact fin _ _ false hk2 (rtB_false (hnot fun hp => by rw [hp.1] at p1; cases p1)) rfl
    | true =>
    rw [p1] at hnm2
    cases p2 : txB f.2 with
    | false =>
      rw [p2] at htx2
      simp (maxSteps := 1000000) (disch := omega) only [h1, h3, hld1 S hA, hll, hlt, iaddr_f h.vs, ← hfe, load_f2, allocPV, store_f, faddrPV, Nat.add_zero, Nat.zero_add, load_b0, load_b1, hnm2, htx2, W_seq, W_region, W_cond, W_block, W_skip, W_label, W_exit, W_goto, W_ret, WO_cons, WO_consG, WO_nil, wantedA_eq, wantB, evOp, ev_tmp, ev_const, ev_fn, WN_some, WN_none, updO_some, updO_none, upd_eq,
 ↓reduceIte, Nat.reduceEqDiff, List.nil_append, List.cons_append, List.append_nil, List.map_cons, List.map_nil, env0_zero, env0_succ, env0_nil, Option.map_some, Option.map_none, seqQ_normal, seqQ_ret, seqQ_exit, seqQ_goto, blockQ_normal, blockQ_ret, blockQ_exit, blockQ_goto, condW_bool, loopQ_ret, loopQ_exit, loopQ_goto, endQ_ret, endQ_normal,
 lss_i, leq_i, gtr_i, geq_i, eql_i, neq_i, eql_8, neq_8, lss_8, leq_8, gtr_8, geq_8, eql_s, neq_s, eql_b, neq_b, not_b, by_bys, by_nils, load_cp1, beq_true, beq_false, Bool.not_eq_true', decide_eq_true_eq, decide_eq_false_iff_not, decide_true, decide_false,
 Int.toNat_natCast, Int.ofNat_lt, Int.ofNat_le, Int.natCast_inj, Bool.false_eq_true, Bool.true_eq_false, extPV, List.getElem?_cons_zero, List.getElem?_cons_succ, nilckPV, Int.reduceToNat, Int.reduceLE, true_and, and_true, reduceCtorEq, or_false, false_or, or_true, Option.some.injEq, exists_eq_left', Bool.not_true, Bool.not_false, ne_eq, Int.reduceEq, not_true_eq_false, not_false_eq_true, Int.reduceLT, UInt8.reduceLT, UInt8.reduceLE, UInt8.reduceToNat]
      exact fin _ _ false hk2 (rtB_false (hnot fun hp => by rw [hp.2.1] at p2; cases p2)) rfl
    | true =>
    rw [p2] at htx2
    by_cases p3 : 256 < f.2.length
    · have g3 : (256 : Int) < (f.2.length : Int) := by omega
      simp (maxSteps := 1000000) (disch := omega) only [h1, h3, hld1 S hA, hll, hlt, iaddr_f h.vs, ← hfe, load_f2, allocPV, store_f, faddrPV, Nat.add_zero, Nat.zero_add, load_b0, load_b1, hnm2, htx2, len_s, g3, W_seq, W_region, W_cond, W_block, W_skip, W_label, W_exit, W_goto, W_ret, WO_cons, WO_consG, WO_nil, wantedA_eq, wantB, evOp, ev_tmp, ev_const, ev_fn, WN_some, WN_none, updO_some, updO_none, upd_eq,
 ↓reduceIte, Nat.reduceEqDiff, List.nil_append, List.cons_append, List.append_nil, List.map_cons, List.map_nil, env0_zero, env0_succ, env0_nil, Option.map_some, Option.map_none, seqQ_normal, seqQ_ret, seqQ_exit, seqQ_goto, blockQ_normal, blockQ_ret, blockQ_exit, blockQ_goto, condW_bool, loopQ_ret, loopQ_exit, loopQ_goto, endQ_ret, endQ_normal,
 lss_i, leq_i, gtr_i, geq_i, eql_i, neq_i, eql_8, neq_8, lss_8, leq_8, gtr_8, geq_8, eql_s, neq_s, eql_b, neq_b, not_b, by_bys, by_nils, load_cp1, beq_true, beq_false, Bool.not_eq_true', decide_eq_true_eq, decide_eq_false_iff_not, decide_true, decide_false,
 Int.toNat_natCast, Int.ofNat_lt, Int.ofNat_le, Int.natCast_inj, Bool.false_eq_true, Bool.true_eq_false, extPV, List.getElem?_cons_zero, List.getElem?_cons_succ, nilckPV, Int.reduceToNat, Int.reduceLE, true_and, and_true, reduceCtorEq, or_false, false_or, or_true, Option.some.injEq, exists_eq_left', Bool.not_true, Bool.not_false, ne_eq, Int.reduceEq, not_true_eq_false, not_false_eq_true, Int.reduceLT, UInt8.reduceLT, UInt8.reduceLE, UInt8.reduceToNat]
      exact fin _ _ false hk2 (rtB_false (hnot fun hp => by have := hp.2.2.1; omega)) rfl
    have g3 : ¬ (256 : Int) < (f.2.length : Int) := by omega
    cases p4 : hasB f.2 [34] with
    | true =>
      rw [p4] at hco
      simp (maxSteps := 1000000) (disch := omega) only [h1, h3, hld1 S hA, hll, hlt, iaddr_f h.vs, ← hfe, load_f2, allocPV, store_f, faddrPV, Nat.add_zero, Nat.zero_add, load_b0, load_b1, hnm2, htx2, len_s, g3, hco, W_seq, W_region, W_cond, W_block, W_skip, W_label, W_exit, W_goto, W_ret, WO_cons, WO_consG, WO_nil, wantedA_eq, wantB, evOp, ev_tmp, ev_const, ev_fn, WN_some, WN_none, updO_some, updO_none, upd_eq,
 ↓reduceIte, Nat.reduceEqDiff, List.nil_append, List.cons_append, List.append_nil, List.map_cons, List.map_nil, env0_zero, env0_succ, env0_nil, Option.map_some, Option.map_none, seqQ_normal, seqQ_ret, seqQ_exit, seqQ_goto, blockQ_normal, blockQ_ret, blockQ_exit, blockQ_goto, condW_bool, loopQ_ret, loopQ_exit, loopQ_goto, endQ_ret, endQ_normal,
 lss_i, leq_i, gtr_i, geq_i, eql_i, neq_i, eql_8, neq_8, lss_8, leq_8, gtr_8, geq_8, eql_s, neq_s, eql_b, neq_b, not_b, by_bys, by_nils, load_cp1, beq_true, beq_false, Bool.not_eq_true', decide_eq_true_eq, decide_eq_false_iff_not, decide_true, decide_false,
 Int.toNat_natCast, Int.ofNat_lt, Int.ofNat_le, Int.natCast_inj, Bool.false_eq_true, Bool.true_eq_false, extPV, List.getElem?_cons_zero, List.getElem?_cons_succ, nilckPV, Int.reduceToNat, Int.reduceLE, true_and, and_true, reduceCtorEq, or_false, false_or, or_true, Option.some.injEq, exists_eq_left', Bool.not_true, Bool.not_false, ne_eq, Int.reduceEq, not_true_eq_false, not_false_eq_true, Int.reduceLT, UInt8.reduceLT, UInt8.reduceLE, UInt8.reduceToNat]
      exact fin _ _ false hk2 (rtB_false (hnot fun hp => by rw [hp.2.2.2] at p4; cases p4)) rfl
    | false =>
    rw [p4] at hco
    have hpar : parOK f := ⟨p1, p2, by omega, p4⟩
    simp (maxSteps := 1000000) (disch := omega) only [h1, h3, hld1 S hA, hll, hlt, iaddr_f h.vs, ← hfe, load_f2, allocPV, store_f, faddrPV, Nat.add_zero, Nat.zero_add, load_b0, load_b1, hnm2, htx2, len_s, g3, hco, W_seq, W_region, W_cond, W_block, W_skip, W_label, W_exit, W_goto, W_ret, WO_cons, WO_consG, WO_nil, wantedA_eq, wantB, evOp, ev_tmp, ev_const, ev_fn, WN_some, WN_none, updO_some, updO_none, upd_eq,
 ↓reduceIte, Nat.reduceEqDiff, List.nil_append, List.cons_append, List.append_nil, List.map_cons, List.map_nil, env0_zero, env0_succ, env0_nil, Option.map_some, Option.map_none, seqQ_normal, seqQ_ret, seqQ_exit, seqQ_goto, blockQ_normal, blockQ_ret, blockQ_exit, blockQ_goto, condW_bool, loopQ_ret, loopQ_exit, loopQ_goto, endQ_ret, endQ_normal,
 lss_i, leq_i, gtr_i, geq_i, eql_i, neq_i, eql_8, neq_8, lss_8, leq_8, gtr_8, geq_8, eql_s, neq_s, eql_b, neq_b, not_b, by_bys, by_nils, load_cp1, beq_true, beq_false, Bool.not_eq_true', decide_eq_true_eq, decide_eq_false_iff_not, decide_true, decide_false,
 Int.toNat_natCast, Int.ofNat_lt, Int.ofNat_le, Int.natCast_inj, Bool.false_eq_true, Bool.true_eq_false, extPV, List.getElem?_cons_zero, List.getElem?_cons_succ, nilckPV, Int.reduceToNat, Int.reduceLE, true_and, and_true, reduceCtorEq, or_false, false_or, or_true, Option.some.injEq, exists_eq_left', Bool.not_true, Bool.not_false, ne_eq, Int.reduceEq, not_true_eq_false, not_false_eq_true, Int.reduceLT, UInt8.reduceLT, UInt8.reduceLE, UInt8.reduceToNat]
    obtain ⟨b1, hb1⟩ : ∃ b1, b1 = S.boxes.length := ⟨_, rfl⟩
    obtain ⟨II, hII⟩ : ∃ II : Nat → Env → St → Prop, II = fun z E S => ∃ k, z = i - k ∧ k ≤ i ∧ Kept st S ∧ At S b0 [.str L.n, L.pv, .str L.v] ∧ At S b1 [.str f.1, .str f.2] ∧ (∀ j, j < k → (L.ps.getD j ([], [])).1 ≠ f.1) ∧ E 1 = .ptr b0 0 ∧ E 4 = .ptr b1 0 ∧ E 3 = .int .i64 (i : Int) ∧ E 5 = .int .i64 (k : Int) := ⟨_, rfl⟩
    refine W_loop II ?_ (n := i) (by
      rw [hII]
      exact ⟨0, rfl, by omega, hk2, hA2, by rw [hb1]; exact At.last, fun j hj => by omega, h1, by rw [hb1]; rfl, h3, rfl⟩)
    clear hk hA hk2 hA2 h1 h3
    intro z e S hh
    rw [hII] at hh
    obtain ⟨k, rfl, hki, hk, hA, hB, hdif, h1, h4, h3, h5⟩ := hh
    have hldB := hB.load (k := 0) (v := .str f.1) (r := [.str f.2]) rfl
    by_cases hkt : k < i
    · obtain ⟨g, hge⟩ : ∃ g, g = L.ps.getD k ([], []) := ⟨_, rfl⟩
      have hiy := iaddr_f (k := .i64) (c := (k : Int)) h.vs (by omega) (by rw [Int.toNat_natCast]; omega)
      rw [Int.toNat_natCast, ← hge] at hiy
      by_cases hgf : g.1 = f.1
      · simp (maxSteps := 1000000) (disch := omega) only [h1, h3, h4, h5, hkt, hld1 S hA, hiy, faddrPV, List.drop_zero, load_ch, Nat.add_zero, Nat.zero_add, hldB, eq_true hgf, W_seq, W_region, W_cond, W_block, W_skip, W_label, W_exit, W_goto, W_ret, WO_cons, WO_consG, WO_nil, wantedA_eq, wantB, evOp, ev_tmp, ev_const, ev_fn, WN_some, WN_none, updO_some, updO_none, upd_eq,
 ↓reduceIte, Nat.reduceEqDiff, List.nil_append, List.cons_append, List.append_nil, List.map_cons, List.map_nil, env0_zero, env0_succ, env0_nil, Option.map_some, Option.map_none, seqQ_normal, seqQ_ret, seqQ_exit, seqQ_goto, blockQ_normal, blockQ_ret, blockQ_exit, blockQ_goto, condW_bool, loopQ_ret, loopQ_exit, loopQ_goto, endQ_ret, endQ_normal,
 lss_i, leq_i, gtr_i, geq_i, eql_i, neq_i, eql_8, neq_8, lss_8, leq_8, gtr_8, geq_8, eql_s, neq_s, eql_b, neq_b, not_b, by_bys, by_nils, load_cp1, beq_true, beq_false, Bool.not_eq_true', decide_eq_true_eq, decide_eq_false_iff_not, decide_true, decide_false,
 Int.toNat_natCast, Int.ofNat_lt, Int.ofNat_le, Int.natCast_inj, Bool.false_eq_true, Bool.true_eq_false, extPV, List.getElem?_cons_zero, List.getElem?_cons_succ, nilckPV, Int.reduceToNat, Int.reduceLE, true_and, and_true, reduceCtorEq, or_false, false_or, or_true, Option.some.injEq, exists_eq_left', Bool.not_true, Bool.not_false, ne_eq, Int.reduceEq, not_true_eq_false, not_false_eq_true, Int.reduceLT, UInt8.reduceLT, UInt8.reduceLE, UInt8.reduceToNat]
        exact fin _ _ false hk (rtB_false fun hp => hp.2.2.2.2.2 i hlt k hkt (by rw [← hge, ← hfe]; exact hgf)) rfl
      · simp (maxSteps := 1000000) (disch := omega) only [h1, h3, h4, h5, hkt, hld1 S hA, hiy, faddrPV, List.drop_zero, load_ch, Nat.add_zero, Nat.zero_add, hldB, hgf, add_n, W_seq, W_region, W_cond, W_block, W_skip, W_label, W_exit, W_goto, W_ret, WO_cons, WO_consG, WO_nil, wantedA_eq, wantB, evOp, ev_tmp, ev_const, ev_fn, WN_some, WN_none, updO_some, updO_none, upd_eq,
 ↓reduceIte, Nat.reduceEqDiff, List.nil_append, List.cons_append, List.append_nil, List.map_cons, List.map_nil, env0_zero, env0_succ, env0_nil, Option.map_some, Option.map_none, seqQ_normal, seqQ_ret, seqQ_exit, seqQ_goto, blockQ_normal, blockQ_ret, blockQ_exit, blockQ_goto, condW_bool, loopQ_ret, loopQ_exit, loopQ_goto, endQ_ret, endQ_normal,
 lss_i, leq_i, gtr_i, geq_i, eql_i, neq_i, eql_8, neq_8, lss_8, leq_8, gtr_8, geq_8, eql_s, neq_s, eql_b, neq_b, not_b, by_bys, by_nils, load_cp1, beq_true, beq_false, Bool.not_eq_true', decide_eq_true_eq, decide_eq_false_iff_not, decide_true, decide_false,
 Int.toNat_natCast, Int.ofNat_lt, Int.ofNat_le, Int.natCast_inj, Bool.false_eq_true, Bool.true_eq_false, extPV, List.getElem?_cons_zero, List.getElem?_cons_succ, nilckPV, Int.reduceToNat, Int.reduceLE, true_and, and_true, reduceCtorEq, or_false, false_or, or_true, Option.some.injEq, exists_eq_left', Bool.not_true, Bool.not_false, ne_eq, Int.reduceEq, not_true_eq_false, not_false_eq_true, Int.reduceLT, UInt8.reduceLT, UInt8.reduceLE, UInt8.reduceToNat]
        refine loopQ_intro (m := i - (k + 1)) (by omega) ?_
        rw [hII]
        refine ⟨k + 1, rfl, by omega, hk, hA, hB, fun j hj => ?_, h1, h4, h3, rfl⟩
        by_cases hjk : j = k
        · subst hjk; rw [← hge]; exact hgf
        · exact hdif j (by omega)
    · obtain rfl : k = i := by omega
      simp (maxSteps := 1000000) (disch := omega) only [h1, h3, h4, h5, hkt, add_n, W_seq, W_region, W_cond, W_block, W_skip, W_label, W_exit, W_goto, W_ret, WO_cons, WO_consG, WO_nil, wantedA_eq, wantB, evOp, ev_tmp, ev_const, ev_fn, WN_some, WN_none, updO_some, updO_none, upd_eq,
 ↓reduceIte, Nat.reduceEqDiff, List.nil_append, List.cons_append, List.append_nil, List.map_cons, List.map_nil, env0_zero, env0_succ, env0_nil, Option.map_some, Option.map_none, seqQ_normal, seqQ_ret, seqQ_exit, seqQ_goto, blockQ_normal, blockQ_ret, blockQ_exit, blockQ_goto, condW_bool, loopQ_ret, loopQ_exit, loopQ_goto, endQ_ret, endQ_normal,
 lss_i, leq_i, gtr_i, geq_i, eql_i, neq_i, eql_8, neq_8, lss_8, leq_8, gtr_8, geq_8, eql_s, neq_s, eql_b, neq_b, not_b, by_bys, by_nils, load_cp1, beq_true, beq_false, Bool.not_eq_true', decide_eq_true_eq, decide_eq_false_iff_not, decide_true, decide_false,
 Int.toNat_natCast, Int.ofNat_lt, Int.ofNat_le, Int.natCast_inj, Bool.false_eq_true, Bool.true_eq_false, extPV, List.getElem?_cons_zero, List.getElem?_cons_succ, nilckPV, Int.reduceToNat, Int.reduceLE, true_and, and_true, reduceCtorEq, or_false, false_or, or_true, Option.some.injEq, exists_eq_left', Bool.not_true, Bool.not_false, ne_eq, Int.reduceEq, not_true_eq_false, not_false_eq_true, Int.reduceLT, UInt8.reduceLT, UInt8.reduceLE, UInt8.reduceToNat]
      refine loopQ_intro (m := L.ps.length - (k + 1)) (by omega) ?_
      rw [hI]
      refine ⟨k + 1, rfl, by omega, hk, hA, fun j hj => ?_, h1, rfl⟩
      by_cases hji : j = k
      · subst hji
        exact ⟨by rw [← hfe]; exact hpar, fun k' hk' => by rw [← hfe]; exact hdif k' hk'⟩
      · exact hall j (by omega)
  · obtain rfl : i = L.ps.length := by omega
    simp (maxSteps := 1000000) (disch := omega) only [h1, h3, faddrPV, Nat.zero_add, hld1 S hA, hll, hlt, W_seq, W_region, W_cond, W_block, W_skip, W_label, W_exit, W_goto, W_ret, WO_cons, WO_consG, WO_nil, wantedA_eq, wantB, evOp, ev_tmp, ev_const, ev_fn, WN_some, WN_none, updO_some, updO_none, upd_eq,
 ↓reduceIte, Nat.reduceEqDiff, List.nil_append, List.cons_append, List.append_nil, List.map_cons, List.map_nil, env0_zero, env0_succ, env0_nil, Option.map_some, Option.map_none, seqQ_normal, seqQ_ret, seqQ_exit, seqQ_goto, blockQ_normal, blockQ_ret, blockQ_exit, blockQ_goto, condW_bool, loopQ_ret, loopQ_exit, loopQ_goto, endQ_ret, endQ_normal,
 lss_i, leq_i, gtr_i, geq_i, eql_i, neq_i, eql_8, neq_8, lss_8, leq_8, gtr_8, geq_8, eql_s, neq_s, eql_b, neq_b, not_b, by_bys, by_nils, load_cp1, beq_true, beq_false, Bool.not_eq_true', decide_eq_true_eq, decide_eq_false_iff_not, decide_true, decide_false,
 Int.toNat_natCast, Int.ofNat_lt, Int.ofNat_le, Int.natCast_inj, Bool.false_eq_true, Bool.true_eq_false, extPV, List.getElem?_cons_zero, List.getElem?_cons_succ, nilckPV, Int.reduceToNat, Int.reduceLE, true_and, and_true, reduceCtorEq, or_false, false_or, or_true, Option.some.injEq, exists_eq_left', Bool.not_true, Bool.not_false, ne_eq, Int.reduceEq, not_true_eq_false, not_false_eq_true, Int.reduceLT, UInt8.reduceLT, UInt8.reduceLE, UInt8.reduceToNat]
    exact fin _ _ true hk (rtB_true ⟨q1, q2, by omega, by omega, fun i hi => (hall i hi).1, fun i hi => (hall i hi).2⟩) rfl

/-! ### A line as a text -/
def quoteOf (v : List UInt8) : List UInt8 := if hasB v [59] = true ∨ hasB v [58] = true ∨ hasB v [44] = true then 34 :: (v ++ [34]) else v
def parOf (p : Fld) : List UInt8 := 59 :: (p.1 ++ 61 :: quoteOf p.2)
def textOfL (L : Ln) : List UInt8 := L.n ++ L.ps.flatMap parOf ++ 58 :: L.v
end Go.Ab

/-
  A line as a text.
-/
namespace Go.Ab
set_option linter.unusedVariables false
set_option linter.unusedSimpArgs false
variable {st s : St} {e : Env}

theorem quote_len {v : List UInt8} : (quoteOf v).length ≤ v.length + 2 := by
  unfold quoteOf; split <;> simp
theorem parOf_len {p : Fld} : (parOf p).length ≤ p.1.length + p.2.length + 4 := by
  have := quote_len (v := p.2)
  unfold parOf; simp; omega
theorem pars_len : ∀ {ps : List Fld}, (∀ p ∈ ps, p.1.length + p.2.length ≤ 500) → (ps.flatMap parOf).length ≤ ps.length * 600 := by
  intro ps
  induction ps with
  | nil => intro _; simp
  | cons p r ih =>
    intro h
    have h1 := h p (by simp)
    have h2 := parOf_len (p := p)
    have h3 := ih (fun q hq => h q (by simp [hq]))
    simp only [List.flatMap_cons, List.length_append, List.length_cons]
    omega
theorem textL_len {L : Ln} (h : L.ok) : (textOfL L).length ≤ 23400 := by
  have h1 := pars_len h.l4
  have h2 := h.l1; have h3 := h.l2; have h4 := h.l3
  unfold textOfL
  simp only [List.length_append, List.length_cons]
  omega

set_option maxHeartbeats 1000000 in
theorem line_spec {L : Ln} (h : L.ok) : call prog (.fn 60 []) [lV L] st = some (.str (textOfL L), st) := by
  refine call_of_W prog_60 ?_
  unfold F_sheet_line; dsimp only
  have hbx := box_l h (n := st.boxes.length)
  obtain ⟨q, hq⟩ : ∃ q, q = lV L := ⟨_, rfl⟩
  rw [← hq] at hbx
  have hqc : q.cells = [.str L.n, L.pv, .str L.v] := by rw [hq]; rfl
  rw [hqc] at hbx
  have hll := len_vs h.vs
  rw [List.length_map] at hll
  have hl1 := h.l1; have hl2 := h.l2; have hl3 := h.l3
  obtain ⟨b0, hb0⟩ : ∃ b0, b0 = st.boxes.length := ⟨_, rfl⟩
  refine W_cut (fun E S => Kept st S ∧ At S b0 [.str L.n, L.pv, .str L.v] ∧ E 1 = .ptr b0 0) ?_ ?_
  · rw [← hq]
    simp (maxSteps := 1000000) (disch := omega) only [hbx.1, hbx.2, and_self, allocPV, hqc, W_seq, W_region, W_cond, W_block, W_skip, W_label, W_exit, W_goto, W_ret, WO_cons, WO_consG, WO_nil, wantedA_eq, wantB, evOp, ev_tmp, ev_const, ev_fn, WN_some, WN_none, updO_some, updO_none, upd_eq,
 ↓reduceIte, Nat.reduceEqDiff, List.nil_append, List.cons_append, List.append_nil, List.map_cons, List.map_nil, env0_zero, env0_succ, env0_nil, Option.map_some, Option.map_none, seqQ_normal, seqQ_ret, seqQ_exit, seqQ_goto, blockQ_normal, blockQ_ret, blockQ_exit, blockQ_goto, condW_bool, loopQ_ret, loopQ_exit, loopQ_goto, endQ_ret, endQ_normal,
 lss_i, leq_i, gtr_i, geq_i, eql_i, neq_i, eql_8, neq_8, lss_8, leq_8, gtr_8, geq_8, eql_s, neq_s, eql_b, neq_b, not_b, by_bys, by_nils, load_cp1, beq_true, beq_false, Bool.not_eq_true', decide_eq_true_eq, decide_eq_false_iff_not, decide_true, decide_false,
 Int.toNat_natCast, Int.ofNat_lt, Int.ofNat_le, Int.natCast_inj, Bool.false_eq_true, Bool.true_eq_false, extPV, List.getElem?_cons_zero, List.getElem?_cons_succ, nilckPV, Int.reduceToNat, Int.reduceLE, true_and, and_true, reduceCtorEq, or_false, false_or, or_true, Option.some.injEq, exists_eq_left', Bool.not_true, Bool.not_false, ne_eq, Int.reduceEq, not_true_eq_false, not_false_eq_true, Int.reduceLT, UInt8.reduceLT, UInt8.reduceLE, UInt8.reduceToNat]
    refine ⟨Kept.start.alloc, ?_, by rw [hb0]⟩
    rw [hb0]; exact At.last
  clear hbx hqc hq
  rintro e S ⟨hk, hA, h1⟩
  have hld1 := fun (S : St) (hA : At S b0 [.str L.n, L.pv, .str L.v]) => hA.load (k := 1) (v := L.pv) (r := [.str L.v]) rfl
  have hld0 := fun (S : St) (hA : At S b0 [.str L.n, L.pv, .str L.v]) => hA.load (k := 0) (v := .str L.n) (r := [L.pv, .str L.v]) rfl
  have hld2 := fun (S : St) (hA : At S b0 [.str L.n, L.pv, .str L.v]) => hA.load (k := 2) (v := .str L.v) (r := []) rfl
  simp (maxSteps := 1000000) (disch := omega) only [h1, faddrPV, Nat.zero_add, hld0 S hA, hld1 S hA, hll, W_seq, W_region, W_cond, W_block, W_skip, W_label, W_exit, W_goto, W_ret, WO_cons, WO_consG, WO_nil, wantedA_eq, wantB, evOp, ev_tmp, ev_const, ev_fn, WN_some, WN_none, updO_some, updO_none, upd_eq,
 ↓reduceIte, Nat.reduceEqDiff, List.nil_append, List.cons_append, List.append_nil, List.map_cons, List.map_nil, env0_zero, env0_succ, env0_nil, Option.map_some, Option.map_none, seqQ_normal, seqQ_ret, seqQ_exit, seqQ_goto, blockQ_normal, blockQ_ret, blockQ_exit, blockQ_goto, condW_bool, loopQ_ret, loopQ_exit, loopQ_goto, endQ_ret, endQ_normal,
 lss_i, leq_i, gtr_i, geq_i, eql_i, neq_i, eql_8, neq_8, lss_8, leq_8, gtr_8, geq_8, eql_s, neq_s, eql_b, neq_b, not_b, by_bys, by_nils, load_cp1, beq_true, beq_false, Bool.not_eq_true', decide_eq_true_eq, decide_eq_false_iff_not, decide_true, decide_false,
 Int.toNat_natCast, Int.ofNat_lt, Int.ofNat_le, Int.natCast_inj, Bool.false_eq_true, Bool.true_eq_false, extPV, List.getElem?_cons_zero, List.getElem?_cons_succ, nilckPV, Int.reduceToNat, Int.reduceLE, true_and, and_true, reduceCtorEq, or_false, false_or, or_true, Option.some.injEq, exists_eq_left', Bool.not_true, Bool.not_false, ne_eq, Int.reduceEq, not_true_eq_false, not_false_eq_true, Int.reduceLT, UInt8.reduceLT, UInt8.reduceLE, UInt8.reduceToNat]
  obtain ⟨I, hI⟩ : ∃ I : Nat → Env → St → Prop, I = fun z E S => ∃ i, z = L.ps.length - i ∧ i ≤ L.ps.length ∧ Kept st S ∧ At S b0 [.str L.n, L.pv, .str L.v] ∧ E 1 = .ptr b0 0 ∧ E 3 = .str (L.n ++ (L.ps.take i).flatMap parOf) ∧ E 10 = L.pv ∧ E 11 = .int .i64 (L.ps.length : Int) ∧ E 12 = .int .i64 (i : Int) := ⟨_, rfl⟩
  refine W_loop I ?_ (n := L.ps.length) (by
    rw [hI]
    exact ⟨0, rfl, by omega, hk, hA, h1, by simp [upd], rfl, rfl, rfl⟩)
  clear hk hA h1
  intro z e S hh
  rw [hI] at hh
  obtain ⟨i, rfl, hi, hk, hA, h1, h3, h10, h11, h12⟩ := hh
  obtain ⟨out, hout⟩ : ∃ out, out = L.n ++ (L.ps.take i).flatMap parOf := ⟨_, rfl⟩
  rw [← hout] at h3
  have hol : out.length ≤ 20000 := by
    have := pars_len (ps := L.ps.take i) (fun p hp => h.l4 p (List.mem_of_mem_take hp))
    rw [hout, List.length_append]
    have h6 : (L.ps.take i).length ≤ 30 := by simp; omega
    omega
  by_cases hlt : i < L.ps.length
  · obtain ⟨f, hfe⟩ : ∃ f, f = L.ps.getD i ([], []) := ⟨_, rfl⟩
    have hfm : f ∈ L.ps := by rw [hfe]; simp [List.getD, hlt]
    have hf4 := h.l4 f hfm
    have hco : ∀ (c : UInt8) (S : St), call prog (.fn 66 []) [.str f.2, .str [c]] S = some (.bool (hasB f.2 [c]), S) := fun c S => Contains_spec (by omega)
    obtain ⟨b1, hb1⟩ : ∃ b1, b1 = S.boxes.length := ⟨_, rfl⟩
    obtain ⟨J, hJ⟩ : ∃ J : Env → St → Prop, J = fun E S => Kept st S ∧ At S b0 [.str L.n, L.pv, .str L.v] ∧ E 1 = .ptr b0 0 ∧ E 3 = .str out ∧ E 10 = L.pv ∧ E 11 = .int .i64 (L.ps.length : Int) ∧ E 12 = .int .i64 (i : Int) := ⟨_, rfl⟩
    refine W_cut (fun E S => J E S ∧ E 13 = .bool true) ?_ ?_
    · simp (maxSteps := 1000000) (disch := omega) only [h1, h3, h10, h11, h12, hlt, hJ, W_seq, W_region, W_cond, W_block, W_skip, W_label, W_exit, W_goto, W_ret, WO_cons, WO_consG, WO_nil, wantedA_eq, wantB, evOp, ev_tmp, ev_const, ev_fn, WN_some, WN_none, updO_some, updO_none, upd_eq,
 ↓reduceIte, Nat.reduceEqDiff, List.nil_append, List.cons_append, List.append_nil, List.map_cons, List.map_nil, env0_zero, env0_succ, env0_nil, Option.map_some, Option.map_none, seqQ_normal, seqQ_ret, seqQ_exit, seqQ_goto, blockQ_normal, blockQ_ret, blockQ_exit, blockQ_goto, condW_bool, loopQ_ret, loopQ_exit, loopQ_goto, endQ_ret, endQ_normal,
 lss_i, leq_i, gtr_i, geq_i, eql_i, neq_i, eql_8, neq_8, lss_8, leq_8, gtr_8, geq_8, eql_s, neq_s, eql_b, neq_b, not_b, by_bys, by_nils, load_cp1, beq_true, beq_false, Bool.not_eq_true', decide_eq_true_eq, decide_eq_false_iff_not, decide_true, decide_false,
 Int.toNat_natCast, Int.ofNat_lt, Int.ofNat_le, Int.natCast_inj, Bool.false_eq_true, Bool.true_eq_false, extPV, List.getElem?_cons_zero, List.getElem?_cons_succ, nilckPV, Int.reduceToNat, Int.reduceLE, true_and, and_true, reduceCtorEq, or_false, false_or, or_true, Option.some.injEq, exists_eq_left', Bool.not_true, Bool.not_false, ne_eq, Int.reduceEq, not_true_eq_false, not_false_eq_true, Int.reduceLT, UInt8.reduceLT, UInt8.reduceLE, UInt8.reduceToNat]
      exact ⟨hk, hA⟩
    rintro e' S' ⟨hj, h13⟩
    have hSb : True := trivial
    refine W_cut J ?_ ?_
    · simp (maxSteps := 1000000) (disch := omega) only [h13, W_seq, W_region, W_cond, W_block, W_skip, W_label, W_exit, W_goto, W_ret, WO_cons, WO_consG, WO_nil, wantedA_eq, wantB, evOp, ev_tmp, ev_const, ev_fn, WN_some, WN_none, updO_some, updO_none, upd_eq,
 ↓reduceIte, Nat.reduceEqDiff, List.nil_append, List.cons_append, List.append_nil, List.map_cons, List.map_nil, env0_zero, env0_succ, env0_nil, Option.map_some, Option.map_none, seqQ_normal, seqQ_ret, seqQ_exit, seqQ_goto, blockQ_normal, blockQ_ret, blockQ_exit, blockQ_goto, condW_bool, loopQ_ret, loopQ_exit, loopQ_goto, endQ_ret, endQ_normal,
 lss_i, leq_i, gtr_i, geq_i, eql_i, neq_i, eql_8, neq_8, lss_8, leq_8, gtr_8, geq_8, eql_s, neq_s, eql_b, neq_b, not_b, by_bys, by_nils, load_cp1, beq_true, beq_false, Bool.not_eq_true', decide_eq_true_eq, decide_eq_false_iff_not, decide_true, decide_false,
 Int.toNat_natCast, Int.ofNat_lt, Int.ofNat_le, Int.natCast_inj, Bool.false_eq_true, Bool.true_eq_false, extPV, List.getElem?_cons_zero, List.getElem?_cons_succ, nilckPV, Int.reduceToNat, Int.reduceLE, true_and, and_true, reduceCtorEq, or_false, false_or, or_true, Option.some.injEq, exists_eq_left', Bool.not_true, Bool.not_false, ne_eq, Int.reduceEq, not_true_eq_false, not_false_eq_true, Int.reduceLT, UInt8.reduceLT, UInt8.reduceLE, UInt8.reduceToNat]
      exact hj
    clear hk hA h1 h3 h10 h11 h12 hj h13 hb1
    intro e S hj
    rw [hJ] at hj
    obtain ⟨hk, hA, h1, h3, h10, h11, h12⟩ := hj
    rw [W_seq, W_block]
    refine W_cut (fun E S => J E S ∧ ∃ b1, At S b1 [.str f.1, .str f.2] ∧ E 5 = .ptr b1 0) ?_ ?_
    · simp (maxSteps := 1000000) (disch := omega) only [h1, h3, h10, h11, h12, iaddr_f h.vs, ← hfe, load_f2, allocPV, store_f, hJ, W_seq, W_region, W_cond, W_block, W_skip, W_label, W_exit, W_goto, W_ret, WO_cons, WO_consG, WO_nil, wantedA_eq, wantB, evOp, ev_tmp, ev_const, ev_fn, WN_some, WN_none, updO_some, updO_none, upd_eq,
 ↓reduceIte, Nat.reduceEqDiff, List.nil_append, List.cons_append, List.append_nil, List.map_cons, List.map_nil, env0_zero, env0_succ, env0_nil, Option.map_some, Option.map_none, seqQ_normal, seqQ_ret, seqQ_exit, seqQ_goto, blockQ_normal, blockQ_ret, blockQ_exit, blockQ_goto, condW_bool, loopQ_ret, loopQ_exit, loopQ_goto, endQ_ret, endQ_normal,
 lss_i, leq_i, gtr_i, geq_i, eql_i, neq_i, eql_8, neq_8, lss_8, leq_8, gtr_8, geq_8, eql_s, neq_s, eql_b, neq_b, not_b, by_bys, by_nils, load_cp1, beq_true, beq_false, Bool.not_eq_true', decide_eq_true_eq, decide_eq_false_iff_not, decide_true, decide_false,
 Int.toNat_natCast, Int.ofNat_lt, Int.ofNat_le, Int.natCast_inj, Bool.false_eq_true, Bool.true_eq_false, extPV, List.getElem?_cons_zero, List.getElem?_cons_succ, nilckPV, Int.reduceToNat, Int.reduceLE, true_and, and_true, reduceCtorEq, or_false, false_or, or_true, Option.some.injEq, exists_eq_left', Bool.not_true, Bool.not_false, ne_eq, Int.reduceEq, not_true_eq_false, not_false_eq_true, Int.reduceLT, UInt8.reduceLT, UInt8.reduceLE, UInt8.reduceToNat]
      exact ⟨⟨hk.alloc', hA.alloc⟩, S.boxes.length, At.last, rfl⟩
    clear hk hA h1 h3 h10 h11 h12
    rintro e S ⟨hj, b1, hB, h5⟩
    rw [hJ] at hj
    obtain ⟨hk, hA, h1, h3, h10, h11, h12⟩ := hj
    have hB0 := hB.load (k := 0) (v := .str f.1) (r := [.str f.2]) rfl
    have hB1 := hB.load (k := 1) (v := .str f.2) (r := []) rfl
    refine W_cut (fun E S' => S' = S ∧ J E S' ∧ E 5 = .ptr b1 0 ∧ E 6 = .str f.2) ?_ ?_
    · simp (maxSteps := 1000000) (disch := omega) only [h1, h3, h5, h10, h11, h12, faddrPV, Nat.zero_add, hB1, hJ, W_seq, W_region, W_cond, W_block, W_skip, W_label, W_exit, W_goto, W_ret, WO_cons, WO_consG, WO_nil, wantedA_eq, wantB, evOp, ev_tmp, ev_const, ev_fn, WN_some, WN_none, updO_some, updO_none, upd_eq,
 ↓reduceIte, Nat.reduceEqDiff, List.nil_append, List.cons_append, List.append_nil, List.map_cons, List.map_nil, env0_zero, env0_succ, env0_nil, Option.map_some, Option.map_none, seqQ_normal, seqQ_ret, seqQ_exit, seqQ_goto, blockQ_normal, blockQ_ret, blockQ_exit, blockQ_goto, condW_bool, loopQ_ret, loopQ_exit, loopQ_goto, endQ_ret, endQ_normal,
 lss_i, leq_i, gtr_i, geq_i, eql_i, neq_i, eql_8, neq_8, lss_8, leq_8, gtr_8, geq_8, eql_s, neq_s, eql_b, neq_b, not_b, by_bys, by_nils, load_cp1, beq_true, beq_false, Bool.not_eq_true', decide_eq_true_eq, decide_eq_false_iff_not, decide_true, decide_false,
 Int.toNat_natCast, Int.ofNat_lt, Int.ofNat_le, Int.natCast_inj, Bool.false_eq_true, Bool.true_eq_false, extPV, List.getElem?_cons_zero, List.getElem?_cons_succ, nilckPV, Int.reduceToNat, Int.reduceLE, true_and, and_true, reduceCtorEq, or_false, false_or, or_true, Option.some.injEq, exists_eq_left', Bool.not_true, Bool.not_false, ne_eq, Int.reduceEq, not_true_eq_false, not_false_eq_true, Int.reduceLT, UInt8.reduceLT, UInt8.reduceLE, UInt8.reduceToNat]
      exact ⟨hk, hA⟩
    clear hk hA h1 h3 h5 h10 h11 h12
    rintro e S' ⟨rfl, hj, h5, h6⟩
    rw [hJ] at hj
    obtain ⟨hk, hA, h1, h3, h10, h11, h12⟩ := hj
    have ha1 : ∀ ek, binPV .add ek (.str [34]) (.str f.2) = some (.str (34 :: f.2)) := fun ek => adds (a := [34]) (b := f.2) (by simp; omega)
    have ha2 : ∀ ek, binPV .add ek (.str (34 :: f.2)) (.str [34]) = some (.str (34 :: (f.2 ++ [34]))) := fun ek => adds (a := 34 :: f.2) (b := [34]) (by simp; omega)
    refine W_cut (fun E S2 => S2 = S' ∧ J E S2 ∧ E 5 = .ptr b1 0 ∧ E 6 = .str (quoteOf f.2)) ?_ ?_
    · cases p1 : hasB f.2 [59] with
      | true =>
        have hqo : quoteOf f.2 = 34 :: (f.2 ++ [34]) := by simp [quoteOf, p1]
        rw [hqo]
        simp (maxSteps := 1000000) (disch := omega) only [h1, h3, h5, h6, h10, h11, h12, hco, p1, ha1, ha2, hJ, W_seq, W_region, W_cond, W_block, W_skip, W_label, W_exit, W_goto, W_ret, WO_cons, WO_consG, WO_nil, wantedA_eq, wantB, evOp, ev_tmp, ev_const, ev_fn, WN_some, WN_none, updO_some, updO_none, upd_eq,
 ↓reduceIte, Nat.reduceEqDiff, List.nil_append, List.cons_append, List.append_nil, List.map_cons, List.map_nil, env0_zero, env0_succ, env0_nil, Option.map_some, Option.map_none, seqQ_normal, seqQ_ret, seqQ_exit, seqQ_goto, blockQ_normal, blockQ_ret, blockQ_exit, blockQ_goto, condW_bool, loopQ_ret, loopQ_exit, loopQ_goto, endQ_ret, endQ_normal,
 lss_i, leq_i, gtr_i, geq_i, eql_i, neq_i, eql_8, neq_8, lss_8, leq_8, gtr_8, geq_8, eql_s, neq_s, eql_b, neq_b, not_b, by_bys, by_nils, load_cp1, beq_true, beq_false, Bool.not_eq_true', decide_eq_true_eq, decide_eq_false_iff_not, decide_true, decide_false,
 Int.toNat_natCast, Int.ofNat_lt, Int.ofNat_le, Int.natCast_inj, Bool.false_eq_true, Bool.true_eq_false, extPV, List.getElem?_cons_zero, List.getElem?_cons_succ, nilckPV, Int.reduceToNat, Int.reduceLE, true_and, and_true, reduceCtorEq, or_false, false_or, or_true, Option.some.injEq, exists_eq_left', Bool.not_true, Bool.not_false, ne_eq, Int.reduceEq, not_true_eq_false, not_false_eq_true, Int.reduceLT, UInt8.reduceLT, UInt8.reduceLE, UInt8.reduceToNat]
        exact ⟨hk, hA⟩
      | false =>
        cases p2 : hasB f.2 [58] with
        | true =>
          have hqo : quoteOf f.2 = 34 :: (f.2 ++ [34]) := by simp [quoteOf, p2]
          rw [hqo]
          simp (maxSteps := 1000000) (disch := omega) only [h1, h3, h5, h6, h10, h11, h12, hco, p1, p2, ha1, ha2, hJ, W_seq, W_region, W_cond, W_block, W_skip, W_label, W_exit, W_goto, W_ret, WO_cons, WO_consG, WO_nil, wantedA_eq, wantB, evOp, ev_tmp, ev_const, ev_fn, WN_some, WN_none, updO_some, updO_none, upd_eq,
 ↓reduceIte, Nat.reduceEqDiff, List.nil_append, List.cons_append, List.append_nil, List.map_cons, List.map_nil, env0_zero, env0_succ, env0_nil, Option.map_some, Option.map_none, seqQ_normal, seqQ_ret, seqQ_exit, seqQ_goto, blockQ_normal, blockQ_ret, blockQ_exit, blockQ_goto, condW_bool, loopQ_ret, loopQ_exit, loopQ_goto, endQ_ret, endQ_normal,
 lss_i, leq_i, gtr_i, geq_i, eql_i, neq_i, eql_8, neq_8, lss_8, leq_8, gtr_8, geq_8, eql_s, neq_s, eql_b, neq_b, not_b, by_bys, by_nils, load_cp1, beq_true, beq_false, Bool.not_eq_true', decide_eq_true_eq, decide_eq_false_iff_not, decide_true, decide_false,
 Int.toNat_natCast, Int.ofNat_lt, Int.ofNat_le, Int.natCast_inj, Bool.false_eq_true, Bool.true_eq_false, extPV, List.getElem?_cons_zero, List.getElem?_cons_succ, nilckPV, Int.reduceToNat, Int.reduceLE, true_and, and_true, reduceCtorEq, or_false, false_or, or_true, Option.some.injEq, exists_eq_left', Bool.not_true, Bool.not_false, ne_eq, Int.reduceEq, not_true_eq_false, not_false_eq_true, Int.reduceLT, UInt8.reduceLT, UInt8.reduceLE, UInt8.reduceToNat]
          exact ⟨hk, hA⟩
        | false =>
          cases p3 : hasB f.2 [44] with
          | true =>
            have hqo : quoteOf f.2 = 34 :: (f.2 ++ [34]) := by simp [quoteOf, p3]
            rw [hqo]
            simp (maxSteps := 1000000) (disch := omega) only [h1, h3, h5, h6, h10, h11, h12, hco, p1, p2, p3, ha1, ha2, hJ, W_seq, W_region, W_cond, W_block, W_skip, W_label, W_exit, W_goto, W_ret, WO_cons, WO_consG, WO_nil, wantedA_eq, wantB, evOp, ev_tmp, ev_const, ev_fn, WN_some, WN_none, updO_some, updO_none, upd_eq,
 ↓reduceIte, Nat.reduceEqDiff, List.nil_append, List.cons_append, List.append_nil, List.map_cons, List.map_nil, env0_zero, env0_succ, env0_nil, Option.map_some, Option.map_none, seqQ_normal, seqQ_ret, seqQ_exit, seqQ_goto, blockQ_normal, blockQ_ret, blockQ_exit, blockQ_goto, condW_bool, loopQ_ret, loopQ_exit, loopQ_goto, endQ_ret, endQ_normal,
 lss_i, leq_i, gtr_i, geq_i, eql_i, neq_i, eql_8, neq_8, lss_8, leq_8, gtr_8, geq_8, eql_s, neq_s, eql_b, neq_b, not_b, by_bys, by_nils, load_cp1, beq_true, beq_false, Bool.not_eq_true', decide_eq_true_eq, decide_eq_false_iff_not, decide_true, decide_false,
 Int.toNat_natCast, Int.ofNat_lt, Int.ofNat_le, Int.natCast_inj, Bool.false_eq_true, Bool.true_eq_false, extPV, List.getElem?_cons_zero, List.getElem?_cons_succ, nilckPV, Int.reduceToNat, Int.reduceLE, true_and, and_true, reduceCtorEq, or_false, false_or, or_true, Option.some.injEq, exists_eq_left', Bool.not_true, Bool.not_false, ne_eq, Int.reduceEq, not_true_eq_false, not_false_eq_true, Int.reduceLT, UInt8.reduceLT, UInt8.reduceLE, UInt8.reduceToNat]
            exact ⟨hk, hA⟩
          | false =>
            have hqo : quoteOf f.2 = f.2 := by simp [quoteOf, p1, p2, p3]
            rw [hqo]
            simp (maxSteps := 1000000) (disch := omega) only [h1, h3, h5, h6, h10, h11, h12, hco, p1, p2, p3, hJ, W_seq, W_region, W_cond, W_block, W_skip, W_label, W_exit, W_goto, W_ret, WO_cons, WO_consG, WO_nil, wantedA_eq, wantB, evOp, ev_tmp, ev_const, ev_fn, WN_some, WN_none, updO_some, updO_none, upd_eq,
 ↓reduceIte, Nat.reduceEqDiff, List.nil_append, List.cons_append, List.append_nil, List.map_cons, List.map_nil, env0_zero, env0_succ, env0_nil, Option.map_some, Option.map_none, seqQ_normal, seqQ_ret, seqQ_exit, seqQ_goto, blockQ_normal, blockQ_ret, blockQ_exit, blockQ_goto, condW_bool, loopQ_ret, loopQ_exit, loopQ_goto, endQ_ret, endQ_normal,
 lss_i, leq_i, gtr_i, geq_i, eql_i, neq_i, eql_8, neq_8, lss_8, leq_8, gtr_8, geq_8, eql_s, neq_s, eql_b, neq_b, not_b, by_bys, by_nils, load_cp1, beq_true, beq_false, Bool.not_eq_true', decide_eq_true_eq, decide_eq_false_iff_not, decide_true, decide_false,
 Int.toNat_natCast, Int.ofNat_lt, Int.ofNat_le, Int.natCast_inj, Bool.false_eq_true, Bool.true_eq_false, extPV, List.getElem?_cons_zero, List.getElem?_cons_succ, nilckPV, Int.reduceToNat, Int.reduceLE, true_and, and_true, reduceCtorEq, or_false, false_or, or_true, Option.some.injEq, exists_eq_left', Bool.not_true, Bool.not_false, ne_eq, Int.reduceEq, not_true_eq_false, not_false_eq_true, Int.reduceLT, UInt8.reduceLT, UInt8.reduceLE, UInt8.reduceToNat]
            exact ⟨hk, hA⟩
    clear hk hA h1 h3 h5 h6 h10 h11 h12
    rintro e S2 ⟨rfl, hj, h5, h6⟩
    rw [hJ] at hj
    obtain ⟨hk, hA, h1, h3, h10, h11, h12⟩ := hj
    have hql := quote_len (v := f.2)
    have hb1' : ∀ ek, binPV .add ek (.str [59]) (.str f.1) = some (.str (59 :: f.1)) := fun ek => adds (a := [59]) (b := f.1) (by simp; omega)
    have hb2' : ∀ ek, binPV .add ek (.str (59 :: f.1)) (.str [61]) = some (.str (59 :: (f.1 ++ [61]))) := fun ek => adds (a := 59 :: f.1) (b := [61]) (by simp; omega)
    have hb3' : ∀ ek, binPV .add ek (.str (59 :: (f.1 ++ [61]))) (.str (quoteOf f.2)) = some (.str (parOf f)) := fun ek => by
      rw [adds (by simp; omega)]; simp [parOf]
    have hpl := parOf_len (p := f)
    have hb4' : ∀ ek, binPV .add ek (.str out) (.str (parOf f)) = some (.str (out ++ parOf f)) := fun ek => adds (by omega)
    simp (maxSteps := 1000000) (disch := omega) only [h1, h3, h5, h6, h10, h11, h12, faddrPV, Nat.zero_add, hB0, hb1', hb2', hb3', hb4', add_n, W_seq, W_region, W_cond, W_block, W_skip, W_label, W_exit, W_goto, W_ret, WO_cons, WO_consG, WO_nil, wantedA_eq, wantB, evOp, ev_tmp, ev_const, ev_fn, WN_some, WN_none, updO_some, updO_none, upd_eq,
 ↓reduceIte, Nat.reduceEqDiff, List.nil_append, List.cons_append, List.append_nil, List.map_cons, List.map_nil, env0_zero, env0_succ, env0_nil, Option.map_some, Option.map_none, seqQ_normal, seqQ_ret, seqQ_exit, seqQ_goto, blockQ_normal, blockQ_ret, blockQ_exit, blockQ_goto, condW_bool, loopQ_ret, loopQ_exit, loopQ_goto, endQ_ret, endQ_normal,
 lss_i, leq_i, gtr_i, geq_i, eql_i, neq_i, eql_8, neq_8, lss_8, leq_8, gtr_8, geq_8, eql_s, neq_s, eql_b, neq_b, not_b, by_bys, by_nils, load_cp1, beq_true, beq_false, Bool.not_eq_true', decide_eq_true_eq, decide_eq_false_iff_not, decide_true, decide_false,
 Int.toNat_natCast, Int.ofNat_lt, Int.ofNat_le, Int.natCast_inj, Bool.false_eq_true, Bool.true_eq_false, extPV, List.getElem?_cons_zero, List.getElem?_cons_succ, nilckPV, Int.reduceToNat, Int.reduceLE, true_and, and_true, reduceCtorEq, or_false, false_or, or_true, Option.some.injEq, exists_eq_left', Bool.not_true, Bool.not_false, ne_eq, Int.reduceEq, not_true_eq_false, not_false_eq_true, Int.reduceLT, UInt8.reduceLT, UInt8.reduceLE, UInt8.reduceToNat]
    refine loopQ_intro (m := L.ps.length - (i + 1)) (by omega) ?_
    rw [hI]
    refine ⟨i + 1, rfl, by omega, hk, hA, h1, ?_, h10, h11, rfl⟩
    show PV.str (out ++ parOf f) = _
    rw [hout, take_getD' hlt, ← hfe, List.flatMap_append]
    simp
  · obtain rfl : i = L.ps.length := by omega
    have ha1 : ∀ ek, binPV .add ek (.str out) (.str [58]) = some (.str (out ++ [58])) := fun ek => adds (by simp; omega)
    have ha2 : ∀ ek, binPV .add ek (.str (out ++ [58])) (.str L.v) = some (.str (textOfL L)) := fun ek => by
      rw [adds (by simp; omega), hout, List.take_length]; simp [textOfL]
    simp (maxSteps := 1000000) (disch := omega) only [h1, h3, h10, h11, h12, hlt, faddrPV, Nat.zero_add, hld2 S hA, ha1, ha2, W_seq, W_region, W_cond, W_block, W_skip, W_label, W_exit, W_goto, W_ret, WO_cons, WO_consG, WO_nil, wantedA_eq, wantB, evOp, ev_tmp, ev_const, ev_fn, WN_some, WN_none, updO_some, updO_none, upd_eq,
 ↓reduceIte, Nat.reduceEqDiff, List.nil_append, List.cons_append, List.append_nil, List.map_cons, List.map_nil, env0_zero, env0_succ, env0_nil, Option.map_some, Option.map_none, seqQ_normal, seqQ_ret, seqQ_exit, seqQ_goto, blockQ_normal, blockQ_ret, blockQ_exit, blockQ_goto, condW_bool, loopQ_ret, loopQ_exit, loopQ_goto, endQ_ret, endQ_normal,
 lss_i, leq_i, gtr_i, geq_i, eql_i, neq_i, eql_8, neq_8, lss_8, leq_8, gtr_8, geq_8, eql_s, neq_s, eql_b, neq_b, not_b, by_bys, by_nils, load_cp1, beq_true, beq_false, Bool.not_eq_true', decide_eq_true_eq, decide_eq_false_iff_not, decide_true, decide_false,
 Int.toNat_natCast, Int.ofNat_lt, Int.ofNat_le, Int.natCast_inj, Bool.false_eq_true, Bool.true_eq_false, extPV, List.getElem?_cons_zero, List.getElem?_cons_succ, nilckPV, Int.reduceToNat, Int.reduceLE, true_and, and_true, reduceCtorEq, or_false, false_or, or_true, Option.some.injEq, exists_eq_left', Bool.not_true, Bool.not_false, ne_eq, Int.reduceEq, not_true_eq_false, not_false_eq_true, Int.reduceLT, UInt8.reduceLT, UInt8.reduceLE, UInt8.reduceToNat]
    exact ⟨.str (textOfL L), rfl, hk.leave rfl (fun _ _ => rfl)⟩
end Go.Ab

/-
  A line as a text, by the document.
-/
namespace Go.Ab
set_option linter.unusedVariables false
set_option linter.unusedSimpArgs false
variable {st s : St} {e : Env}

set_option maxHeartbeats 1000000 in
theorem Plain_spec {L : Ln} (h : L.ok) : call prog (.fn 62 []) [lV L] st = some (.str (textOfL L), st) := by
  refine call_of_W prog_62 ?_
  unfold F_posthornref10_Plain; dsimp only
  have hbx := box_l h (n := st.boxes.length)
  obtain ⟨q, hq⟩ : ∃ q, q = lV L := ⟨_, rfl⟩
  rw [← hq] at hbx
  have hqc : q.cells = [.str L.n, L.pv, .str L.v] := by rw [hq]; rfl
  rw [hqc] at hbx
  have hll := len_vs h.vs
  rw [List.length_map] at hll
  have hl1 := h.l1; have hl2 := h.l2; have hl3 := h.l3
  obtain ⟨b0, hb0⟩ : ∃ b0, b0 = st.boxes.length := ⟨_, rfl⟩
  refine W_cut (fun E S => Kept st S ∧ At S b0 [.str L.n, L.pv, .str L.v] ∧ E 1 = .ptr b0 0) ?_ ?_
  · rw [← hq]
    simp (maxSteps := 1000000) (disch := omega) only [hbx.1, hbx.2, and_self, allocPV, hqc, W_seq, W_region, W_cond, W_block, W_skip, W_label, W_exit, W_goto, W_ret, WO_cons, WO_consG, WO_nil, wantedA_eq, wantB, evOp, ev_tmp, ev_const, ev_fn, WN_some, WN_none, updO_some, updO_none, upd_eq,
 ↓reduceIte, Nat.reduceEqDiff, List.nil_append, List.cons_append, List.append_nil, List.map_cons, List.map_nil, env0_zero, env0_succ, env0_nil, Option.map_some, Option.map_none, seqQ_normal, seqQ_ret, seqQ_exit, seqQ_goto, blockQ_normal, blockQ_ret, blockQ_exit, blockQ_goto, condW_bool, loopQ_ret, loopQ_exit, loopQ_goto, endQ_ret, endQ_normal,
 lss_i, leq_i, gtr_i, geq_i, eql_i, neq_i, eql_8, neq_8, lss_8, leq_8, gtr_8, geq_8, eql_s, neq_s, eql_b, neq_b, not_b, by_bys, by_nils, load_cp1, beq_true, beq_false, Bool.not_eq_true', decide_eq_true_eq, decide_eq_false_iff_not, decide_true, decide_false,
 Int.toNat_natCast, Int.ofNat_lt, Int.ofNat_le, Int.natCast_inj, Bool.false_eq_true, Bool.true_eq_false, extPV, List.getElem?_cons_zero, List.getElem?_cons_succ, nilckPV, Int.reduceToNat, Int.reduceLE, true_and, and_true, reduceCtorEq, or_false, false_or, or_true, Option.some.injEq, exists_eq_left', Bool.not_true, Bool.not_false, ne_eq, Int.reduceEq, not_true_eq_false, not_false_eq_true, Int.reduceLT, UInt8.reduceLT, UInt8.reduceLE, UInt8.reduceToNat]
    refine ⟨Kept.start.alloc, ?_, by rw [hb0]⟩
    rw [hb0]; exact At.last
  clear hbx hqc hq
  rintro e S ⟨hk, hA, h1⟩
  have hld1 := fun (S : St) (hA : At S b0 [.str L.n, L.pv, .str L.v]) => hA.load (k := 1) (v := L.pv) (r := [.str L.v]) rfl
  have hld0 := fun (S : St) (hA : At S b0 [.str L.n, L.pv, .str L.v]) => hA.load (k := 0) (v := .str L.n) (r := [L.pv, .str L.v]) rfl
  have hld2 := fun (S : St) (hA : At S b0 [.str L.n, L.pv, .str L.v]) => hA.load (k := 2) (v := .str L.v) (r := []) rfl
  simp (maxSteps := 1000000) (disch := omega) only [h1, faddrPV, Nat.zero_add, hld0 S hA, W_seq, W_region, W_cond, W_block, W_skip, W_label, W_exit, W_goto, W_ret, WO_cons, WO_consG, WO_nil, wantedA_eq, wantB, evOp, ev_tmp, ev_const, ev_fn, WN_some, WN_none, updO_some, updO_none, upd_eq,
 ↓reduceIte, Nat.reduceEqDiff, List.nil_append, List.cons_append, List.append_nil, List.map_cons, List.map_nil, env0_zero, env0_succ, env0_nil, Option.map_some, Option.map_none, seqQ_normal, seqQ_ret, seqQ_exit, seqQ_goto, blockQ_normal, blockQ_ret, blockQ_exit, blockQ_goto, condW_bool, loopQ_ret, loopQ_exit, loopQ_goto, endQ_ret, endQ_normal,
 lss_i, leq_i, gtr_i, geq_i, eql_i, neq_i, eql_8, neq_8, lss_8, leq_8, gtr_8, geq_8, eql_s, neq_s, eql_b, neq_b, not_b, by_bys, by_nils, load_cp1, beq_true, beq_false, Bool.not_eq_true', decide_eq_true_eq, decide_eq_false_iff_not, decide_true, decide_false,
 Int.toNat_natCast, Int.ofNat_lt, Int.ofNat_le, Int.natCast_inj, Bool.false_eq_true, Bool.true_eq_false, extPV, List.getElem?_cons_zero, List.getElem?_cons_succ, nilckPV, Int.reduceToNat, Int.reduceLE, true_and, and_true, reduceCtorEq, or_false, false_or, or_true, Option.some.injEq, exists_eq_left', Bool.not_true, Bool.not_false, ne_eq, Int.reduceEq, not_true_eq_false, not_false_eq_true, Int.reduceLT, UInt8.reduceLT, UInt8.reduceLE, UInt8.reduceToNat]
  obtain ⟨I, hI⟩ : ∃ I : Nat → Env → St → Prop, I = fun z E S => ∃ i, z = L.ps.length - i ∧ i ≤ L.ps.length ∧ Kept st S ∧ At S b0 [.str L.n, L.pv, .str L.v] ∧ E 1 = .ptr b0 0 ∧ E 3 = .str (L.n ++ (L.ps.take i).flatMap parOf) ∧ E 4 = .int .i64 (i : Int) := ⟨_, rfl⟩
  refine W_loop I ?_ (n := L.ps.length) (by
    rw [hI]
    exact ⟨0, rfl, by omega, hk, hA, h1, by simp [upd], rfl⟩)
  clear hk hA h1
  intro z e S hh
  rw [hI] at hh
  obtain ⟨i, rfl, hi, hk, hA, h1, h3, h4⟩ := hh
  obtain ⟨out, hout⟩ : ∃ out, out = L.n ++ (L.ps.take i).flatMap parOf := ⟨_, rfl⟩
  rw [← hout] at h3
  have hol : out.length ≤ 20000 := by
    have := pars_len (ps := L.ps.take i) (fun p hp => h.l4 p (List.mem_of_mem_take hp))
    rw [hout, List.length_append]
    have h6 : (L.ps.take i).length ≤ 30 := by simp; omega
    omega
  by_cases hlt : i < L.ps.length
  · obtain ⟨f, hfe⟩ : ∃ f, f = L.ps.getD i ([], []) := ⟨_, rfl⟩
    have hfm : f ∈ L.ps := by rw [hfe]; simp [List.getD, hlt]
    have hf4 := h.l4 f hfm
    have hco : ∀ (c : UInt8) (S : St), call prog (.fn 56 []) [.str f.2, .str [c]] S = some (.bool (hasB f.2 [c]), S) := fun c S => Has_spec (by omega) (by simp)
    have hia := iaddr_f (k := .i64) (c := (i : Int)) h.vs (by omega) (by rw [Int.toNat_natCast]; exact hlt)
    rw [Int.toNat_natCast, ← hfe] at hia
    obtain ⟨J, hJ⟩ : ∃ J : Env → St → Prop, J = fun E S2 => S2 = S ∧ E 1 = .ptr b0 0 ∧ E 3 = .str out ∧ E 4 = .int .i64 (i : Int) := ⟨_, rfl⟩
    refine W_cut J ?_ ?_
    · simp (maxSteps := 1000000) (disch := omega) only [h1, h3, h4, faddrPV, Nat.zero_add, hld1 S hA, hll, hlt, hJ, W_seq, W_region, W_cond, W_block, W_skip, W_label, W_exit, W_goto, W_ret, WO_cons, WO_consG, WO_nil, wantedA_eq, wantB, evOp, ev_tmp, ev_const, ev_fn, WN_some, WN_none, updO_some, updO_none, upd_eq,
 ↓reduceIte, Nat.reduceEqDiff, List.nil_append, List.cons_append, List.append_nil, List.map_cons, List.map_nil, env0_zero, env0_succ, env0_nil, Option.map_some, Option.map_none, seqQ_normal, seqQ_ret, seqQ_exit, seqQ_goto, blockQ_normal, blockQ_ret, blockQ_exit, blockQ_goto, condW_bool, loopQ_ret, loopQ_exit, loopQ_goto, endQ_ret, endQ_normal,
 lss_i, leq_i, gtr_i, geq_i, eql_i, neq_i, eql_8, neq_8, lss_8, leq_8, gtr_8, geq_8, eql_s, neq_s, eql_b, neq_b, not_b, by_bys, by_nils, load_cp1, beq_true, beq_false, Bool.not_eq_true', decide_eq_true_eq, decide_eq_false_iff_not, decide_true, decide_false,
 Int.toNat_natCast, Int.ofNat_lt, Int.ofNat_le, Int.natCast_inj, Bool.false_eq_true, Bool.true_eq_false, extPV, List.getElem?_cons_zero, List.getElem?_cons_succ, nilckPV, Int.reduceToNat, Int.reduceLE, true_and, and_true, reduceCtorEq, or_false, false_or, or_true, Option.some.injEq, exists_eq_left', Bool.not_true, Bool.not_false, ne_eq, Int.reduceEq, not_true_eq_false, not_false_eq_true, Int.reduceLT, UInt8.reduceLT, UInt8.reduceLE, UInt8.reduceToNat]
    clear h1 h3 h4
    intro e S2 hj
    rw [hJ] at hj
    obtain ⟨rfl, h1, h3, h4⟩ := hj
    rw [W_seq, W_block]
    refine W_cut (fun E S => J E S ∧ E 5 = .str f.2) ?_ ?_
    · simp (maxSteps := 1000000) (disch := omega) only [h1, h3, h4, faddrPV, Nat.zero_add, hld1 S2 hA, hia, List.drop_zero, List.drop_succ_cons, load_ch, hJ, W_seq, W_region, W_cond, W_block, W_skip, W_label, W_exit, W_goto, W_ret, WO_cons, WO_consG, WO_nil, wantedA_eq, wantB, evOp, ev_tmp, ev_const, ev_fn, WN_some, WN_none, updO_some, updO_none, upd_eq,
 ↓reduceIte, Nat.reduceEqDiff, List.nil_append, List.cons_append, List.append_nil, List.map_cons, List.map_nil, env0_zero, env0_succ, env0_nil, Option.map_some, Option.map_none, seqQ_normal, seqQ_ret, seqQ_exit, seqQ_goto, blockQ_normal, blockQ_ret, blockQ_exit, blockQ_goto, condW_bool, loopQ_ret, loopQ_exit, loopQ_goto, endQ_ret, endQ_normal,
 lss_i, leq_i, gtr_i, geq_i, eql_i, neq_i, eql_8, neq_8, lss_8, leq_8, gtr_8, geq_8, eql_s, neq_s, eql_b, neq_b, not_b, by_bys, by_nils, load_cp1, beq_true, beq_false, Bool.not_eq_true', decide_eq_true_eq, decide_eq_false_iff_not, decide_true, decide_false,
 Int.toNat_natCast, Int.ofNat_lt, Int.ofNat_le, Int.natCast_inj, Bool.false_eq_true, Bool.true_eq_false, extPV, List.getElem?_cons_zero, List.getElem?_cons_succ, nilckPV, Int.reduceToNat, Int.reduceLE, true_and, and_true, reduceCtorEq, or_false, false_or, or_true, Option.some.injEq, exists_eq_left', Bool.not_true, Bool.not_false, ne_eq, Int.reduceEq, not_true_eq_false, not_false_eq_true, Int.reduceLT, UInt8.reduceLT, UInt8.reduceLE, UInt8.reduceToNat]
    clear h1 h3 h4
    rintro e S ⟨hj, h5⟩
    rw [hJ] at hj
    obtain ⟨rfl, h1, h3, h4⟩ := hj
    have ha1 : ∀ ek, binPV .add ek (.str [34]) (.str f.2) = some (.str (34 :: f.2)) := fun ek => adds (a := [34]) (b := f.2) (by simp; omega)
    have ha2 : ∀ ek, binPV .add ek (.str (34 :: f.2)) (.str [34]) = some (.str (34 :: (f.2 ++ [34]))) := fun ek => adds (a := 34 :: f.2) (b := [34]) (by simp; omega)
    refine W_cut (fun E S => J E S ∧ E 5 = .str (quoteOf f.2)) ?_ ?_
    · cases p1 : hasB f.2 [59] with
      | true =>
        have hqo : quoteOf f.2 = 34 :: (f.2 ++ [34]) := by simp [quoteOf, p1]
        rw [hqo]
        simp (maxSteps := 1000000) (disch := omega) only [h1, h3, h4, h5, hco, p1, ha1, ha2, hJ, W_seq, W_region, W_cond, W_block, W_skip, W_label, W_exit, W_goto, W_ret, WO_cons, WO_consG, WO_nil, wantedA_eq, wantB, evOp, ev_tmp, ev_const, ev_fn, WN_some, WN_none, updO_some, updO_none, upd_eq,
 ↓reduceIte, Nat.reduceEqDiff, List.nil_append, List.cons_append, List.append_nil, List.map_cons, List.map_nil, env0_zero, env0_succ, env0_nil, Option.map_some, Option.map_none, seqQ_normal, seqQ_ret, seqQ_exit, seqQ_goto, blockQ_normal, blockQ_ret, blockQ_exit, blockQ_goto, condW_bool, loopQ_ret, loopQ_exit, loopQ_goto, endQ_ret, endQ_normal,
 lss_i, leq_i, gtr_i, geq_i, eql_i, neq_i, eql_8, neq_8, lss_8, leq_8, gtr_8, geq_8, eql_s, neq_s, eql_b, neq_b, not_b, by_bys, by_nils, load_cp1, beq_true, beq_false, Bool.not_eq_true', decide_eq_true_eq, decide_eq_false_iff_not, decide_true, decide_false,
 Int.toNat_natCast, Int.ofNat_lt, Int.ofNat_le, Int.natCast_inj, Bool.false_eq_true, Bool.true_eq_false, extPV, List.getElem?_cons_zero, List.getElem?_cons_succ, nilckPV, Int.reduceToNat, Int.reduceLE, true_and, and_true, reduceCtorEq, or_false, false_or, or_true, Option.some.injEq, exists_eq_left', Bool.not_true, Bool.not_false, ne_eq, Int.reduceEq, not_true_eq_false, not_false_eq_true, Int.reduceLT, UInt8.reduceLT, UInt8.reduceLE, UInt8.reduceToNat]
      | false =>
        cases p2 : hasB f.2 [58] with
        | true =>
          have hqo : quoteOf f.2 = 34 :: (f.2 ++ [34]) := by simp [quoteOf, p2]
          rw [hqo]
          simp (maxSteps := 1000000) (disch := omega) only [h1, h3, h4, h5, hco, p1, p2, ha1, ha2, hJ, W_seq, W_region, W_cond, W_block, W_skip, W_label, W_exit, W_goto, W_ret, WO_cons, WO_consG, WO_nil, wantedA_eq, wantB, evOp, ev_tmp, ev_const, ev_fn, WN_some, WN_none, updO_some, updO_none, upd_eq,
 ↓reduceIte, Nat.reduceEqDiff, List.nil_append, List.cons_append, List.append_nil, List.map_cons, List.map_nil, env0_zero, env0_succ, env0_nil, Option.map_some, Option.map_none, seqQ_normal, seqQ_ret, seqQ_exit, seqQ_goto, blockQ_normal, blockQ_ret, blockQ_exit, blockQ_goto, condW_bool, loopQ_ret, loopQ_exit, loopQ_goto, endQ_ret, endQ_normal,
 lss_i, leq_i, gtr_i, geq_i, eql_i, neq_i, eql_8, neq_8, lss_8, leq_8, gtr_8, geq_8, eql_s, neq_s, eql_b, neq_b, not_b, by_bys, by_nils, load_cp1, beq_true, beq_false, Bool.not_eq_true', decide_eq_true_eq, decide_eq_false_iff_not, decide_true, decide_false,
 Int.toNat_natCast, Int.ofNat_lt, Int.ofNat_le, Int.natCast_inj, Bool.false_eq_true, Bool.true_eq_false, extPV, List.getElem?_cons_zero, List.getElem?_cons_succ, nilckPV, Int.reduceToNat, Int.reduceLE, true_and, and_true, reduceCtorEq, or_false, false_or, or_true, Option.some.injEq, exists_eq_left', Bool.not_true, Bool.not_false, ne_eq, Int.reduceEq, not_true_eq_false, not_false_eq_true, Int.reduceLT, UInt8.reduceLT, UInt8.reduceLE, UInt8.reduceToNat]
        | false =>
          cases p3 : hasB f.2 [44] with
          | true =>
            have hqo : quoteOf f.2 = 34 :: (f.2 ++ [34]) := by simp [quoteOf, p3]
            rw [hqo]
            simp (maxSteps := 1000000) (disch := omega) only [h1, h3, h4, h5, hco, p1, p2, p3, ha1, ha2, hJ, W_seq, W_region, W_cond, W_block, W_skip, W_label, W_exit, W_goto, W_ret, WO_cons, WO_consG, WO_nil, wantedA_eq, wantB, evOp, ev_tmp, ev_const, ev_fn, WN_some, WN_none, updO_some, updO_none, upd_eq,
 ↓reduceIte, Nat.reduceEqDiff, List.nil_append, List.cons_append, List.append_nil, List.map_cons, List.map_nil, env0_zero, env0_succ, env0_nil, Option.map_some, Option.map_none, seqQ_normal, seqQ_ret, seqQ_exit, seqQ_goto, blockQ_normal, blockQ_ret, blockQ_exit, blockQ_goto, condW_bool, loopQ_ret, loopQ_exit, loopQ_goto, endQ_ret, endQ_normal,
 lss_i, leq_i, gtr_i, geq_i, eql_i, neq_i, eql_8, neq_8, lss_8, leq_8, gtr_8, geq_8, eql_s, neq_s, eql_b, neq_b, not_b, by_bys, by_nils, load_cp1, beq_true, beq_false, Bool.not_eq_true', decide_eq_true_eq, decide_eq_false_iff_not, decide_true, decide_false,
 Int.toNat_natCast, Int.ofNat_lt, Int.ofNat_le, Int.natCast_inj, Bool.false_eq_true, Bool.true_eq_false, extPV, List.getElem?_cons_zero, List.getElem?_cons_succ, nilckPV, Int.reduceToNat, Int.reduceLE, true_and, and_true, reduceCtorEq, or_false, false_or, or_true, Option.some.injEq, exists_eq_left', Bool.not_true, Bool.not_false, ne_eq, Int.reduceEq, not_true_eq_false, not_false_eq_true, Int.reduceLT, UInt8.reduceLT, UInt8.reduceLE, UInt8.reduceToNat]
          | false =>
            have hqo : quoteOf f.2 = f.2 := by simp [quoteOf, p1, p2, p3]
            rw [hqo]
            simp (maxSteps := 1000000) (disch := omega) only [h1, h3, h4, h5, hco, p1, p2, p3, hJ, W_seq, W_region, W_cond, W_block, W_skip, W_label, W_exit, W_goto, W_ret, WO_cons, WO_consG, WO_nil, wantedA_eq, wantB, evOp, ev_tmp, ev_const, ev_fn, WN_some, WN_none, updO_some, updO_none, upd_eq,
 ↓reduceIte, Nat.reduceEqDiff, List.nil_append, List.cons_append, List.append_nil, List.map_cons, List.map_nil, env0_zero, env0_succ, env0_nil, Option.map_some, Option.map_none, seqQ_normal, seqQ_ret, seqQ_exit, seqQ_goto, blockQ_normal, blockQ_ret, blockQ_exit, blockQ_goto, condW_bool, loopQ_ret, loopQ_exit, loopQ_goto, endQ_ret, endQ_normal,
 lss_i, leq_i, gtr_i, geq_i, eql_i, neq_i, eql_8, neq_8, lss_8, leq_8, gtr_8, geq_8, eql_s, neq_s, eql_b, neq_b, not_b, by_bys, by_nils, load_cp1, beq_true, beq_false, Bool.not_eq_true', decide_eq_true_eq, decide_eq_false_iff_not, decide_true, decide_false,
 Int.toNat_natCast, Int.ofNat_lt, Int.ofNat_le, Int.natCast_inj, Bool.false_eq_true, Bool.true_eq_false, extPV, List.getElem?_cons_zero, List.getElem?_cons_succ, nilckPV, Int.reduceToNat, Int.reduceLE, true_and, and_true, reduceCtorEq, or_false, false_or, or_true, Option.some.injEq, exists_eq_left', Bool.not_true, Bool.not_false, ne_eq, Int.reduceEq, not_true_eq_false, not_false_eq_true, Int.reduceLT, UInt8.reduceLT, UInt8.reduceLE, UInt8.reduceToNat]
    clear h1 h3 h4 h5
    rintro e S2 ⟨hj, h5⟩
    rw [hJ] at hj
    obtain ⟨rfl, h1, h3, h4⟩ := hj
    have hql := quote_len (v := f.2)
    have hb1' : ∀ ek, binPV .add ek (.str out) (.str [59]) = some (.str (out ++ [59])) := fun ek => adds (by simp; omega)
    have hb2' : ∀ ek, binPV .add ek (.str (out ++ [59])) (.str f.1) = some (.str (out ++ [59] ++ f.1)) := fun ek => adds (by simp; omega)
    have hb3' : ∀ ek, binPV .add ek (.str (out ++ [59] ++ f.1)) (.str [61]) = some (.str (out ++ [59] ++ f.1 ++ [61])) := fun ek => adds (by simp; omega)
    have hb4' : ∀ ek, binPV .add ek (.str (out ++ [59] ++ f.1 ++ [61])) (.str (quoteOf f.2)) = some (.str (out ++ parOf f)) := fun ek => by
      rw [adds (by simp; omega)]; simp [parOf]
    simp (maxSteps := 1000000) (disch := omega) only [h1, h3, h4, h5, faddrPV, Nat.zero_add, hld1 _ hA, hia, List.drop_zero, load_ch, hb1', hb2', hb3', hb4', add_n, W_seq, W_region, W_cond, W_block, W_skip, W_label, W_exit, W_goto, W_ret, WO_cons, WO_consG, WO_nil, wantedA_eq, wantB, evOp, ev_tmp, ev_const, ev_fn, WN_some, WN_none, updO_some, updO_none, upd_eq,
 ↓reduceIte, Nat.reduceEqDiff, List.nil_append, List.cons_append, List.append_nil, List.map_cons, List.map_nil, env0_zero, env0_succ, env0_nil, Option.map_some, Option.map_none, seqQ_normal, seqQ_ret, seqQ_exit, seqQ_goto, blockQ_normal, blockQ_ret, blockQ_exit, blockQ_goto, condW_bool, loopQ_ret, loopQ_exit, loopQ_goto, endQ_ret, endQ_normal,
 lss_i, leq_i, gtr_i, geq_i, eql_i, neq_i, eql_8, neq_8, lss_8, leq_8, gtr_8, geq_8, eql_s, neq_s, eql_b, neq_b, not_b, by_bys, by_nils, load_cp1, beq_true, beq_false, Bool.not_eq_true', decide_eq_true_eq, decide_eq_false_iff_not, decide_true, decide_false,
 Int.toNat_natCast, Int.ofNat_lt, Int.ofNat_le, Int.natCast_inj, Bool.false_eq_true, Bool.true_eq_false, extPV, List.getElem?_cons_zero, List.getElem?_cons_succ, nilckPV, Int.reduceToNat, Int.reduceLE, true_and, and_true, reduceCtorEq, or_false, false_or, or_true, Option.some.injEq, exists_eq_left', Bool.not_true, Bool.not_false, ne_eq, Int.reduceEq, not_true_eq_false, not_false_eq_true, Int.reduceLT, UInt8.reduceLT, UInt8.reduceLE, UInt8.reduceToNat]
    refine loopQ_intro (m := L.ps.length - (i + 1)) (by omega) ?_
    rw [hI]
    refine ⟨i + 1, rfl, by omega, hk, hA, h1, ?_, rfl⟩
    show PV.str (out ++ parOf f) = _
    rw [hout, take_getD' hlt, ← hfe, List.flatMap_append]
    simp
  · obtain rfl : i = L.ps.length := by omega
    have ha1 : ∀ ek, binPV .add ek (.str out) (.str [58]) = some (.str (out ++ [58])) := fun ek => adds (by simp; omega)
    have ha2 : ∀ ek, binPV .add ek (.str (out ++ [58])) (.str L.v) = some (.str (textOfL L)) := fun ek => by
      rw [adds (by simp; omega), hout, List.take_length]; simp [textOfL]
    simp (maxSteps := 1000000) (disch := omega) only [h1, h3, h4, hlt, faddrPV, Nat.zero_add, hld1 S hA, hld2 S hA, hll, ha1, ha2, W_seq, W_region, W_cond, W_block, W_skip, W_label, W_exit, W_goto, W_ret, WO_cons, WO_consG, WO_nil, wantedA_eq, wantB, evOp, ev_tmp, ev_const, ev_fn, WN_some, WN_none, updO_some, updO_none, upd_eq,
 ↓reduceIte, Nat.reduceEqDiff, List.nil_append, List.cons_append, List.append_nil, List.map_cons, List.map_nil, env0_zero, env0_succ, env0_nil, Option.map_some, Option.map_none, seqQ_normal, seqQ_ret, seqQ_exit, seqQ_goto, blockQ_normal, blockQ_ret, blockQ_exit, blockQ_goto, condW_bool, loopQ_ret, loopQ_exit, loopQ_goto, endQ_ret, endQ_normal,
 lss_i, leq_i, gtr_i, geq_i, eql_i, neq_i, eql_8, neq_8, lss_8, leq_8, gtr_8, geq_8, eql_s, neq_s, eql_b, neq_b, not_b, by_bys, by_nils, load_cp1, beq_true, beq_false, Bool.not_eq_true', decide_eq_true_eq, decide_eq_false_iff_not, decide_true, decide_false,
 Int.toNat_natCast, Int.ofNat_lt, Int.ofNat_le, Int.natCast_inj, Bool.false_eq_true, Bool.true_eq_false, extPV, List.getElem?_cons_zero, List.getElem?_cons_succ, nilckPV, Int.reduceToNat, Int.reduceLE, true_and, and_true, reduceCtorEq, or_false, false_or, or_true, Option.some.injEq, exists_eq_left', Bool.not_true, Bool.not_false, ne_eq, Int.reduceEq, not_true_eq_false, not_false_eq_true, Int.reduceLT, UInt8.reduceLT, UInt8.reduceLE, UInt8.reduceToNat]
    exact ⟨.str (textOfL L), rfl, hk.leave rfl (fun _ _ => rfl)⟩
end Go.Ab

/-
  Lines are written, folded.
-/
namespace Go.Ab
set_option linter.unusedVariables false
set_option linter.unusedSimpArgs false
variable {st s : St} {e : Env}

theorem next_le4 {l : List UInt8} {p n : Nat} (h : nextOf l = some (p, n)) : n ≤ 4 := by
  by_cases hc : (l.getD 0 0).toNat < 128
  · unfold nextOf at h
    split at h
    · cases h
    · cases h; omega
  · obtain ⟨h1, -, -⟩ := next_succ hc h
    omega
theorem near {l : List UInt8} {m : Nat} (hm : m < l.length) : ∀ (k i : Nat), l.length + 1 - i ≤ k → i ≤ m → (∃ r, ptsOf k l i = .ok r) → ∃ j, i ≤ j ∧ j ≤ m ∧ m < j + 4 ∧ ¬ isCont (l.getD j 0) := by
  intro k
  induction k with
  | zero => intro i h1 h2; omega
  | succ k ih =>
    intro i h1 h2 ⟨r, hr⟩
    simp only [ptsOf] at hr
    rw [if_pos (by omega)] at hr
    cases hno : nextOf (l.drop i) with
    | none => rw [hno] at hr; cases hr
    | some pn =>
      obtain ⟨p, n⟩ := pn
      rw [hno] at hr
      simp only at hr
      obtain ⟨hn1, hn2, hn3⟩ := next_pos hno
      have hn4 := next_le4 hno
      obtain ⟨c1, -⟩ := next_cont hno
      rw [drop_get, Nat.add_zero] at c1
      by_cases hmi : m < i + n
      · exact ⟨i, Nat.le_refl _, h2, by omega, c1⟩
      · have hr2 : ∃ r, ptsOf k l (i + n) = .ok r := by
          cases h : ptsOf k l (i + n) with
          | ok r => exact ⟨r, rfl⟩
          | error j => rw [h] at hr; cases hr
        obtain ⟨j, j1, j2, j3, j4⟩ := ih (i + n) (by omega) (by omega) hr2
        exact ⟨j, by omega, j2, j3, j4⟩
theorem back_ge {l : List UInt8} {j : Nat} (hj : ¬ isCont (l.getD j 0)) : ∀ m, j ≤ m → j ≤ back l m := by
  intro m
  induction m with
  | zero => intro h; simp [back]; omega
  | succ m ih =>
    intro h
    simp only [back]
    split
    · rename_i hc
      by_cases hjm : j = m + 1
      · subst hjm; exact absurd hc.2 hj
      · exact ih (by omega)
    · exact h
theorem cut75 {l : List UInt8} (h : 75 < l.length) : 72 ≤ cutOf l 75 ∧ cutOf l 75 ≤ 75 := by
  unfold cutOf
  rw [Nat.min_eq_left (by omega)]
  split
  · rename_i hv
    have hok : ∃ r, ptsOf (l.length + 1) l 0 = .ok r := by
      unfold validOf at hv
      cases h : ptsOf (l.length + 1) l 0 with
      | ok r => exact ⟨r, rfl⟩
      | error j => rw [h] at hv; cases hv
    obtain ⟨j, -, j2, j3, j4⟩ := near h (l.length + 1) 0 (by omega) (by omega) hok
    have := back_ge j4 75 j2
    have := back_le (l := l) 75
    omega
  · omega

def crW (x : List UInt8) : List UInt8 := x ++ [13, 10]
def foldW : Nat → List UInt8 → List (List UInt8)
  | 0, l => [l]
  | k + 1, l => if 75 < l.length then l.take (cutOf l 75) :: foldW k (32 :: l.drop (cutOf l 75)) else [l]
def outL (L : Ln) : List UInt8 := (foldW (textOfL L).length (textOfL L)).flatMap crW
theorem foldW_len : ∀ (k : Nat) (l : List UInt8), l.length ≤ k → ((foldW k l).flatMap crW).length ≤ 2 * l.length + 2 := by
  intro k
  induction k with
  | zero => intro l h; simp [foldW, crW]; omega
  | succ k ih =>
    intro l h
    simp only [foldW]
    split
    · rename_i h75
      obtain ⟨c1, c2⟩ := cut75 h75
      have := ih (32 :: l.drop (cutOf l 75)) (by simp; omega)
      simp only [List.flatMap_cons, List.length_append, crW, List.length_cons, List.length_nil, List.length_take, List.length_drop] at this ⊢
      omega
    · simp [crW]; omega
theorem outL_len {L : Ln} (h : L.ok) : (outL L).length ≤ 50000 := by
  have h1 := foldW_len _ (textOfL L) (Nat.le_refl _)
  have h2 := textL_len h
  unfold outL; omega

/-- A blank ahead of what is left. -/
theorem app32 {S : St} {v y : PV} {l d : List UInt8} (hk : Kept st S) (hm : Mine st S v l) (hy : y.by = some d) (hl : d.length + 1 ≤ room) :
    ∃ v' S', app8 S.tok1 (.bys (.own S.toks.length) [32]) y = some (v', S') ∧ Kept st S' ∧ Mine st S' v l ∧ v'.by = some (32 :: d) := by
  have hlive : Live S.tok1 (.bys (.own S.toks.length) [32]) [32] := .inr ⟨_, rfl, by simp [St.tok1]⟩
  have htl := hk.tl
  have hlt : S.tok1.toks.length = S.toks.length + 1 := by simp [St.tok1]
  obtain ⟨v', S', a1, a2, a3, a4, a5, a6, a7, a8, a9⟩ := app8_live hlive (src8_by (st := S.tok1) hy) (by simpa [Nat.add_comm] using hl)
  have hkeep : ∀ i, i < S.toks.length → S'.toks[i]? = S.tok1.toks[i]? := fun i hi => a7 i (by omega) (by simp [tokOf]; omega)
  refine ⟨v', S', a1, hk.tok1.of (by rw [a2]) a3 (by rw [a4]; exact hk.tok1.lw) (fun i hi => hkeep i (by omega)) (by omega), ⟨?_, hm.2⟩, a5.by⟩
  refine hm.tok1.1.move fun i hi => hkeep i ?_
  exact (hm.1.lt hi).1

def okLs (Ls : List Ln) : Prop := (∀ L ∈ Ls, L.ok) ∧ Ls.length ≤ 60
noncomputable def writeL (Ls : List Ln) : Int × List UInt8 := if Ls.all rtB = true then (0, Ls.flatMap outL) else (90, [])
def outW (st : St) (r : Int × List UInt8) : PV × St := if r.2 = [] then (.tup [.nils, .int .i64 r.1], st) else (.tup [.bys (.own st.toks.length) r.2, .int .i64 r.1], st.tok1)
theorem leave_outW {S : St} {v : PV} {l : List UInt8} {n : Int} (hk : Kept st S) (hm : Mine st S v l) (hn : l = [] → v = .nils) : leave st S (.tup [v, .int .i64 n]) = outW st (n, l) := by
  unfold outW
  by_cases hl : l = []
  · rw [if_pos hl, hn hl]
    exact hk.leave rfl (fun _ _ => rfl)
  · rw [if_neg hl]
    exact leave_mine2 hk hm hl
theorem outs_len : ∀ {Ls : List Ln}, (∀ L ∈ Ls, L.ok) → (Ls.flatMap outL).length ≤ Ls.length * 50000 := by
  intro Ls
  induction Ls with
  | nil => intro _; simp
  | cons L r ih =>
    intro h
    have h1 := outL_len (h L (by simp))
    have h2 := ih (fun g hg => h g (by simp [hg]))
    simp only [List.flatMap_cons, List.length_append, List.length_cons]
    omega
theorem Mine.alloc' {v : PV} {l : List UInt8} {B : List (List PV)} {Lp : List LoopS} {lo : Nat} (h : Mine st s v l) : Mine st ⟨B, s.toks, Lp, lo⟩ v l := ⟨h.1.move fun _ _ => rfl, h.2⟩
end Go.Ab

/-
  Lines are written, folded: the program's function.
-/
namespace Go.Ab
set_option linter.unusedVariables false
set_option linter.unusedSimpArgs false
variable {st s : St} {e : Env}

def L0 : Ln := ⟨[], .nils, [], []⟩
theorem iaddr_L {x : PV} {Ls : List Ln} {k : IntKind} {c : Int} (h : x.vs 3 = some (Ls.map lV)) (h1 : 0 ≤ c) (h2 : c.toNat < Ls.length) : iaddrPV 3 x (.int k c) = some (.cp [.str (Ls.getD c.toNat L0).n, (Ls.getD c.toNat L0).pv, .str (Ls.getD c.toNat L0).v]) := by
  rw [iaddr_vs h h1 (by simpa using h2)]
  simp [List.getD, h2, lV, PV.cells]
theorem loadc_3 {a b c : PV} : loadcPV true 3 (.cp [a, b, c]) = some (.agg [a, b, c]) := rfl
theorem load_3 {a b c : PV} : loadPV st true 3 (.cp [a, b, c]) = some (.agg [a, b, c]) := rfl
theorem store_L {B : List (List PV)} {T : List Bool} {Lp : List LoopS} {lo : Nat} {L : Ln} (h : L.ok) : storePV ⟨B ++ [[.str [], .nils, .str []]], T, Lp, lo⟩ 3 (.ptr B.length 0) (.agg [.str L.n, L.pv, .str L.v]) = some ⟨B ++ [[.str L.n, L.pv, .str L.v]], T, Lp, lo⟩ := by
  unfold storePV
  simp only [get_app0]
  have h1 : (PV.agg [PV.str L.n, L.pv, PV.str L.v]).inB (B.length + 1) = true := (box_l h (n := B.length + 1)).1
  have h2 : (PV.agg [PV.str L.n, L.pv, PV.str L.v]).cells.all leafOk = true := (box_l h (n := 0)).2
  rw [if_pos ⟨rfl, by simp, h1, h2⟩]
  have h3 : hasTok (PV.agg [PV.str L.n, L.pv, PV.str L.v]).cells = false := by
    show ((tokOf (.str L.n)).isSome || ((tokOf L.pv).isSome || ((tokOf (.str L.v)).isSome || false))) = false
    rw [h.tk]; rfl
  rw [h3]
  simp [PV.cells, setCells]
theorem load_L {B : List (List PV)} {T : List Bool} {Lp : List LoopS} {lo : Nat} {a b c : PV} : loadPV ⟨B ++ [[a, b, c]], T, Lp, lo⟩ true 3 (.ptr B.length 0) = some (.agg [a, b, c]) := by
  simp [loadPV, readCells]
theorem take_getDL {l : List Ln} {i : Nat} (h : i < l.length) : l.take (i + 1) = l.take i ++ [l.getD i L0] := take_getD' h

set_option maxHeartbeats 1000000 in
theorem sWrite_spec {x : PV} {Ls : List Ln} (hx : x.vs 3 = some (Ls.map lV)) (h : okLs Ls) : call prog (.fn 48 []) [x] st = some (outW st (writeL Ls)) := by
  refine call_of_W prog_48 ?_
  unfold F_sheet_Write; dsimp only
  have hlen := len_vs hx
  rw [List.length_map] at hlen
  have h60 := h.2
  have e4096 : ¬ (4096 : Int) < (Ls.length : Int) := by omega
  simp (maxSteps := 1000000) (disch := omega) only [hlen, e4096, W_seq, W_region, W_cond, W_block, W_skip, W_label, W_exit, W_goto, W_ret, WO_cons, WO_consG, WO_nil, wantedA_eq, wantB, evOp, ev_tmp, ev_const, ev_fn, WN_some, WN_none, updO_some, updO_none, upd_eq,
 ↓reduceIte, Nat.reduceEqDiff, List.nil_append, List.cons_append, List.append_nil, List.map_cons, List.map_nil, env0_zero, env0_succ, env0_nil, Option.map_some, Option.map_none, seqQ_normal, seqQ_ret, seqQ_exit, seqQ_goto, blockQ_normal, blockQ_ret, blockQ_exit, blockQ_goto, condW_bool, loopQ_ret, loopQ_exit, loopQ_goto, endQ_ret, endQ_normal,
 lss_i, leq_i, gtr_i, geq_i, eql_i, neq_i, eql_8, neq_8, lss_8, leq_8, gtr_8, geq_8, eql_s, neq_s, eql_b, neq_b, not_b, by_bys, by_nils, load_cp1, beq_true, beq_false, Bool.not_eq_true', decide_eq_true_eq, decide_eq_false_iff_not, decide_true, decide_false,
 Int.toNat_natCast, Int.ofNat_lt, Int.ofNat_le, Int.natCast_inj, Bool.false_eq_true, Bool.true_eq_false, extPV, List.getElem?_cons_zero, List.getElem?_cons_succ, nilckPV, Int.reduceToNat, Int.reduceLE, true_and, and_true, reduceCtorEq, or_false, false_or, or_true, Option.some.injEq, exists_eq_left', Bool.not_true, Bool.not_false, ne_eq, Int.reduceEq, not_true_eq_false, not_false_eq_true, Int.reduceLT, UInt8.reduceLT, UInt8.reduceLE, UInt8.reduceToNat]
  obtain ⟨I, hI⟩ : ∃ I : Nat → Env → St → Prop, I = fun z E S => ∃ i v, z = Ls.length - i ∧ i ≤ Ls.length ∧ Kept st S ∧ Mine st S v ((Ls.take i).flatMap outL) ∧ ((Ls.take i).flatMap outL = [] → v = .nils) ∧ (∀ j, j < i → rtB (Ls.getD j L0) = true) ∧ E 4 = v ∧ E 12 = x ∧ E 13 = .int .i64 (Ls.length : Int) ∧ E 14 = .int .i64 (i : Int) := ⟨_, rfl⟩
  refine W_loop I ?_ (n := Ls.length) (by
    rw [hI]
    exact ⟨0, .nils, rfl, by omega, Kept.start, Mine.nil, fun _ => rfl, fun j hj => by omega, rfl, rfl, rfl, rfl⟩)
  intro z e S hh
  rw [hI] at hh
  obtain ⟨i, v, rfl, hi, hk, hm, hnil, hall, h4, h12, h13, h14⟩ := hh
  have hbl := outs_len (Ls := Ls.take i) (fun f hfm => h.1 f (List.mem_of_mem_take hfm))
  have hbl2 : ((Ls.take i).flatMap outL).length ≤ 3000000 := by
    have h0 : (Ls.take i).length ≤ 60 := by simp; omega
    exact Nat.le_trans hbl (Nat.le_trans (Nat.mul_le_mul_right 50000 h0) (by decide))
  clear hbl
  by_cases hlt : i < Ls.length
  · obtain ⟨L, hLe⟩ : ∃ L, L = Ls.getD i L0 := ⟨_, rfl⟩
    have hLm : L ∈ Ls := by rw [hLe]; simp [List.getD, hlt]
    have hL := h.1 L hLm
    have hia := iaddr_L (k := .i64) (c := (i : Int)) hx (by omega) (by rw [Int.toNat_natCast]; exact hlt)
    rw [Int.toNat_natCast, ← hLe] at hia
    have hrt : ∀ S : St, call prog (.fn 50 []) [.agg [.str L.n, L.pv, .str L.v]] S = some (.bool (rtB L), S) := fun S => sRight_spec hL
    have hln : ∀ S : St, call prog (.fn 60 []) [.agg [.str L.n, L.pv, .str L.v]] S = some (.str (textOfL L), S) := fun S => line_spec hL
    have hk2 := hk.alloc' (z := [.str L.n, L.pv, .str L.v])
    cases hr : rtB L with
    | false =>
      rw [hr] at hrt
      have hw : writeL Ls = (90, []) := by
        have : Ls.all rtB = false := by
          rw [List.all_eq_false]; exact ⟨L, hLm, by rw [hr]; simp⟩
        simp [writeL, this]
      simp (maxSteps := 1000000) (disch := omega) only [h4, h12, h13, h14, hlt, hia, load_3, allocPV, store_L hL, load_L, hrt, W_seq, W_region, W_cond, W_block, W_skip, W_label, W_exit, W_goto, W_ret, WO_cons, WO_consG, WO_nil, wantedA_eq, wantB, evOp, ev_tmp, ev_const, ev_fn, WN_some, WN_none, updO_some, updO_none, upd_eq,
 ↓reduceIte, Nat.reduceEqDiff, List.nil_append, List.cons_append, List.append_nil, List.map_cons, List.map_nil, env0_zero, env0_succ, env0_nil, Option.map_some, Option.map_none, seqQ_normal, seqQ_ret, seqQ_exit, seqQ_goto, blockQ_normal, blockQ_ret, blockQ_exit, blockQ_goto, condW_bool, loopQ_ret, loopQ_exit, loopQ_goto, endQ_ret, endQ_normal,
 lss_i, leq_i, gtr_i, geq_i, eql_i, neq_i, eql_8, neq_8, lss_8, leq_8, gtr_8, geq_8, eql_s, neq_s, eql_b, neq_b, not_b, by_bys, by_nils, load_cp1, beq_true, beq_false, Bool.not_eq_true', decide_eq_true_eq, decide_eq_false_iff_not, decide_true, decide_false,
 Int.toNat_natCast, Int.ofNat_lt, Int.ofNat_le, Int.natCast_inj, Bool.false_eq_true, Bool.true_eq_false, extPV, List.getElem?_cons_zero, List.getElem?_cons_succ, nilckPV, Int.reduceToNat, Int.reduceLE, true_and, and_true, reduceCtorEq, or_false, false_or, or_true, Option.some.injEq, exists_eq_left', Bool.not_true, Bool.not_false, ne_eq, Int.reduceEq, not_true_eq_false, not_false_eq_true, Int.reduceLT, UInt8.reduceLT, UInt8.reduceLE, UInt8.reduceToNat]
      refine ⟨.tup [.nils, .int .i64 90], rfl, ?_⟩
      rw [hw]; exact hk2.leave rfl (fun _ _ => rfl)
    | true =>
    rw [hr] at hrt
    obtain ⟨T, hT⟩ : ∃ T, T = foldW (textOfL L).length (textOfL L) := ⟨_, rfl⟩
    obtain ⟨base, hbase⟩ : ∃ base, base = (Ls.take i).flatMap outL := ⟨_, rfl⟩
    rw [← hbase] at hm hbl2
    have htl := textL_len hL
    have hsn : (Ls.take (i + 1)).flatMap outL = base ++ T.flatMap crW := by
      rw [take_getDL hlt, ← hLe, List.flatMap_append, hbase, hT]; simp [outL]
    clear hbase hnil
    simp (maxSteps := 1000000) (disch := omega) only [h4, h12, h13, h14, hlt, hia, load_3, allocPV, store_L hL, load_L, hrt, hln, freshT_eq, W_seq, W_region, W_cond, W_block, W_skip, W_label, W_exit, W_goto, W_ret, WO_cons, WO_consG, WO_nil, wantedA_eq, wantB, evOp, ev_tmp, ev_const, ev_fn, WN_some, WN_none, updO_some, updO_none, upd_eq,
 ↓reduceIte, Nat.reduceEqDiff, List.nil_append, List.cons_append, List.append_nil, List.map_cons, List.map_nil, env0_zero, env0_succ, env0_nil, Option.map_some, Option.map_none, seqQ_normal, seqQ_ret, seqQ_exit, seqQ_goto, blockQ_normal, blockQ_ret, blockQ_exit, blockQ_goto, condW_bool, loopQ_ret, loopQ_exit, loopQ_goto, endQ_ret, endQ_normal,
 lss_i, leq_i, gtr_i, geq_i, eql_i, neq_i, eql_8, neq_8, lss_8, leq_8, gtr_8, geq_8, eql_s, neq_s, eql_b, neq_b, not_b, by_bys, by_nils, load_cp1, beq_true, beq_false, Bool.not_eq_true', decide_eq_true_eq, decide_eq_false_iff_not, decide_true, decide_false,
 Int.toNat_natCast, Int.ofNat_lt, Int.ofNat_le, Int.natCast_inj, Bool.false_eq_true, Bool.true_eq_false, extPV, List.getElem?_cons_zero, List.getElem?_cons_succ, nilckPV, Int.reduceToNat, Int.reduceLE, true_and, and_true, reduceCtorEq, or_false, false_or, or_true, Option.some.injEq, exists_eq_left', Bool.not_true, Bool.not_false, ne_eq, Int.reduceEq, not_true_eq_false, not_false_eq_true, Int.reduceLT, UInt8.reduceLT, UInt8.reduceLE, UInt8.reduceToNat]
    obtain ⟨II, hII⟩ : ∃ II : Nat → Env → St → Prop, II = fun z E S => ∃ m k v y acc, m.length = z ∧ m.length ≤ k ∧ (acc.flatMap crW).length + 2 * m.length ≤ 46800 ∧ Kept st S ∧ Mine st S v (base ++ acc.flatMap crW) ∧ T = acc ++ foldW k m ∧ y.by = some m ∧ E 4 = v ∧ E 7 = y ∧ E 12 = x ∧ E 13 = .int .i64 (Ls.length : Int) ∧ E 14 = .int .i64 (i : Int) := ⟨_, rfl⟩
    refine W_loop II ?_ (n := (textOfL L).length) (by
      rw [hII]
      exact ⟨textOfL L, (textOfL L).length, v, _, [], rfl, Nat.le_refl _, by simp; omega, hk2.tok1, by simpa using hm.alloc'.tok1, by rw [hT]; rfl, by_bys, h4, rfl, h12, h13, h14⟩)
    clear hk hk2 hm h4 h12 h13 h14
    intro z e S hh
    rw [hII] at hh
    obtain ⟨m, k, v, y, acc, rfl, hmk, hbd, hk, hm, hTT, hy, h4, h7, h12, h13, h14⟩ := hh
    by_cases h75 : 75 < m.length
    · have e75 : (75 : Int) < (m.length : Int) := by omega
      obtain ⟨k, rfl⟩ : ∃ k', k = k' + 1 := ⟨k - 1, by omega⟩
      simp only [foldW, h75, if_true] at hTT
      obtain ⟨c1, c2⟩ := cut75 h75
      obtain ⟨c, hc⟩ : ∃ c, c = cutOf m 75 := ⟨_, rfl⟩
      have hcut : ∀ S : St, call prog (.fn 61 []) [y, .int .i64 75] S = some (.int .i64 (c : Int), S) := fun S => by
        rw [hc]; exact uCut_spec (m := 75) hy (by omega)
      rw [← hc] at c1 c2 hTT
      have hhi := slc_hi (k := .i64) (c := (c : Int)) hy (by omega) (by rw [Int.toNat_natCast]; omega)
      have hlo := slc_lo (k := .i64) (c := (c : Int)) hy (by omega) (by rw [Int.toNat_natCast]; omega)
      rw [Int.toNat_natCast] at hhi hlo
      obtain ⟨v1, S1, a1, k1, m1⟩ := hk.app8 (y := y.takeB c) (m := m.take c) hm (src8_by (takeB_by hy)) (by simp only [List.length_append, List.length_take, room]; omega)
      obtain ⟨v2, S2, a2, k2, m2⟩ := k1.app8 (y := .str [13, 10]) (m := [13, 10]) m1 rfl (by simp only [List.length_append, List.length_take, List.length_cons, List.length_nil, room]; omega)
      obtain ⟨y3, S3, a3, k3, m3, hy3⟩ := app32 k2 m2 (dropB_by (i := c) hy) (by simp only [List.length_drop, room]; omega)
      simp (maxSteps := 1000000) (disch := omega) only [h4, h7, h12, h13, h14, len_by hy, e75, hcut, hhi, hlo, a1, a2, lit8_1, freshT_eq, a3, W_seq, W_region, W_cond, W_block, W_skip, W_label, W_exit, W_goto, W_ret, WO_cons, WO_consG, WO_nil, wantedA_eq, wantB, evOp, ev_tmp, ev_const, ev_fn, WN_some, WN_none, updO_some, updO_none, upd_eq,
 ↓reduceIte, Nat.reduceEqDiff, List.nil_append, List.cons_append, List.append_nil, List.map_cons, List.map_nil, env0_zero, env0_succ, env0_nil, Option.map_some, Option.map_none, seqQ_normal, seqQ_ret, seqQ_exit, seqQ_goto, blockQ_normal, blockQ_ret, blockQ_exit, blockQ_goto, condW_bool, loopQ_ret, loopQ_exit, loopQ_goto, endQ_ret, endQ_normal,
 lss_i, leq_i, gtr_i, geq_i, eql_i, neq_i, eql_8, neq_8, lss_8, leq_8, gtr_8, geq_8, eql_s, neq_s, eql_b, neq_b, not_b, by_bys, by_nils, load_cp1, beq_true, beq_false, Bool.not_eq_true', decide_eq_true_eq, decide_eq_false_iff_not, decide_true, decide_false,
 Int.toNat_natCast, Int.ofNat_lt, Int.ofNat_le, Int.natCast_inj, Bool.false_eq_true, Bool.true_eq_false, extPV, List.getElem?_cons_zero, List.getElem?_cons_succ, nilckPV, Int.reduceToNat, Int.reduceLE, true_and, and_true, reduceCtorEq, or_false, false_or, or_true, Option.some.injEq, exists_eq_left', Bool.not_true, Bool.not_false, ne_eq, Int.reduceEq, not_true_eq_false, not_false_eq_true, Int.reduceLT, UInt8.reduceLT, UInt8.reduceLE, UInt8.reduceToNat]
      refine loopQ_intro (m := (32 :: m.drop c).length) (by simp; omega) ?_
      rw [hII]
      refine ⟨32 :: m.drop c, k, v2, y3, acc ++ [m.take c], rfl, by simp; omega, ?_, k3, ?_, ?_, hy3, rfl, rfl, h12, h13, h14⟩
      · simp only [List.flatMap_append, List.flatMap_cons, List.flatMap_nil, List.append_nil, crW, List.length_append, List.length_cons, List.length_nil, List.length_take, List.length_drop]; omega
      · rw [List.flatMap_append]; simpa [crW] using m3
      · rw [hTT]; simp
    · have e75 : ¬ (75 : Int) < (m.length : Int) := by omega
      have hTf : T = acc ++ [m] := by
        rw [hTT]
        cases k with
        | zero => rfl
        | succ k => simp only [foldW, h75, if_false]
      obtain ⟨v1, S1, a1, k1, m1⟩ := hk.app8 (y := y) (m := m) hm (src8_by hy) (by simp only [List.length_append, room]; omega)
      obtain ⟨v2, S2, a2, k2, m2⟩ := k1.app8 (y := .str [13, 10]) (m := [13, 10]) m1 rfl (by simp only [List.length_append, List.length_cons, List.length_nil, room]; omega)
      simp (maxSteps := 1000000) (disch := omega) only [h4, h7, h12, h13, h14, len_by hy, e75, a1, a2, add_n, W_seq, W_region, W_cond, W_block, W_skip, W_label, W_exit, W_goto, W_ret, WO_cons, WO_consG, WO_nil, wantedA_eq, wantB, evOp, ev_tmp, ev_const, ev_fn, WN_some, WN_none, updO_some, updO_none, upd_eq,
 ↓reduceIte, Nat.reduceEqDiff, List.nil_append, List.cons_append, List.append_nil, List.map_cons, List.map_nil, env0_zero, env0_succ, env0_nil, Option.map_some, Option.map_none, seqQ_normal, seqQ_ret, seqQ_exit, seqQ_goto, blockQ_normal, blockQ_ret, blockQ_exit, blockQ_goto, condW_bool, loopQ_ret, loopQ_exit, loopQ_goto, endQ_ret, endQ_normal,
 lss_i, leq_i, gtr_i, geq_i, eql_i, neq_i, eql_8, neq_8, lss_8, leq_8, gtr_8, geq_8, eql_s, neq_s, eql_b, neq_b, not_b, by_bys, by_nils, load_cp1, beq_true, beq_false, Bool.not_eq_true', decide_eq_true_eq, decide_eq_false_iff_not, decide_true, decide_false,
 Int.toNat_natCast, Int.ofNat_lt, Int.ofNat_le, Int.natCast_inj, Bool.false_eq_true, Bool.true_eq_false, extPV, List.getElem?_cons_zero, List.getElem?_cons_succ, nilckPV, Int.reduceToNat, Int.reduceLE, true_and, and_true, reduceCtorEq, or_false, false_or, or_true, Option.some.injEq, exists_eq_left', Bool.not_true, Bool.not_false, ne_eq, Int.reduceEq, not_true_eq_false, not_false_eq_true, Int.reduceLT, UInt8.reduceLT, UInt8.reduceLE, UInt8.reduceToNat]
      refine loopQ_intro (m := Ls.length - (i + 1)) (by omega) ?_
      rw [hI]
      have hfin : base ++ T.flatMap crW = base ++ acc.flatMap crW ++ m ++ [13, 10] := by rw [hTf]; simp [crW]
      refine ⟨i + 1, v2, rfl, by omega, k2, by rw [hsn, hfin]; exact m2, fun hz => ?_, fun j hj => ?_, rfl, h12, h13, rfl⟩
      · rw [hsn, hfin] at hz
        have := congrArg List.length hz
        simp at this
      · by_cases hji : j = i
        · subst hji; rw [← hLe]; exact hr
        · exact hall j (by omega)
  · obtain rfl : i = Ls.length := by omega
    rw [List.take_length] at hm hnil
    have hw : writeL Ls = (0, Ls.flatMap outL) := by
      have : Ls.all rtB = true := by
        rw [List.all_eq_true]
        intro L hL
        obtain ⟨j, hj, rfl⟩ := List.mem_iff_getElem.1 hL
        have := hall j hj
        simpa [List.getD, hj] using this
      simp [writeL, this]
    simp (maxSteps := 1000000) (disch := omega) only [h4, h12, h13, h14, hlt, W_seq, W_region, W_cond, W_block, W_skip, W_label, W_exit, W_goto, W_ret, WO_cons, WO_consG, WO_nil, wantedA_eq, wantB, evOp, ev_tmp, ev_const, ev_fn, WN_some, WN_none, updO_some, updO_none, upd_eq,
 ↓reduceIte, Nat.reduceEqDiff, List.nil_append, List.cons_append, List.append_nil, List.map_cons, List.map_nil, env0_zero, env0_succ, env0_nil, Option.map_some, Option.map_none, seqQ_normal, seqQ_ret, seqQ_exit, seqQ_goto, blockQ_normal, blockQ_ret, blockQ_exit, blockQ_goto, condW_bool, loopQ_ret, loopQ_exit, loopQ_goto, endQ_ret, endQ_normal,
 lss_i, leq_i, gtr_i, geq_i, eql_i, neq_i, eql_8, neq_8, lss_8, leq_8, gtr_8, geq_8, eql_s, neq_s, eql_b, neq_b, not_b, by_bys, by_nils, load_cp1, beq_true, beq_false, Bool.not_eq_true', decide_eq_true_eq, decide_eq_false_iff_not, decide_true, decide_false,
 Int.toNat_natCast, Int.ofNat_lt, Int.ofNat_le, Int.natCast_inj, Bool.false_eq_true, Bool.true_eq_false, extPV, List.getElem?_cons_zero, List.getElem?_cons_succ, nilckPV, Int.reduceToNat, Int.reduceLE, true_and, and_true, reduceCtorEq, or_false, false_or, or_true, Option.some.injEq, exists_eq_left', Bool.not_true, Bool.not_false, ne_eq, Int.reduceEq, not_true_eq_false, not_false_eq_true, Int.reduceLT, UInt8.reduceLT, UInt8.reduceLE, UInt8.reduceToNat]
    refine ⟨.tup [v, .int .i64 0], ?_, ?_⟩
    · have hnt : notTup v = true := by rcases hm.1 with ⟨rfl, _⟩ | ⟨i, rfl, _⟩ <;> rfl
      simp [resOf, rvAll, rv1, upd_eq, hnt, packRes]
      rfl
    · rw [hw]; exact leave_outW hk hm hnil
end Go.Ab

/-
  Lines are written, folded: the document's function.
-/
namespace Go.Ab
set_option linter.unusedVariables false
set_option linter.unusedSimpArgs false
variable {st s : St} {e : Env}

set_option maxHeartbeats 1000000 in
theorem rSWrite_spec {x : PV} {Ls : List Ln} (hx : x.vs 3 = some (Ls.map lV)) (h : okLs Ls) : call prog (.fn 49 []) [x] st = some (outW st (writeL Ls)) := by
  refine call_of_W prog_49 ?_
  unfold F_posthornref10_Write; dsimp only
  have hlen := len_vs hx
  rw [List.length_map] at hlen
  have h60 := h.2
  have e4096 : ¬ (4096 : Int) < (Ls.length : Int) := by omega
  simp (maxSteps := 1000000) (disch := omega) only [hlen, e4096, W_seq, W_region, W_cond, W_block, W_skip, W_label, W_exit, W_goto, W_ret, WO_cons, WO_consG, WO_nil, wantedA_eq, wantB, evOp, ev_tmp, ev_const, ev_fn, WN_some, WN_none, updO_some, updO_none, upd_eq,
 ↓reduceIte, Nat.reduceEqDiff, List.nil_append, List.cons_append, List.append_nil, List.map_cons, List.map_nil, env0_zero, env0_succ, env0_nil, Option.map_some, Option.map_none, seqQ_normal, seqQ_ret, seqQ_exit, seqQ_goto, blockQ_normal, blockQ_ret, blockQ_exit, blockQ_goto, condW_bool, loopQ_ret, loopQ_exit, loopQ_goto, endQ_ret, endQ_normal,
 lss_i, leq_i, gtr_i, geq_i, eql_i, neq_i, eql_8, neq_8, lss_8, leq_8, gtr_8, geq_8, eql_s, neq_s, eql_b, neq_b, not_b, by_bys, by_nils, load_cp1, beq_true, beq_false, Bool.not_eq_true', decide_eq_true_eq, decide_eq_false_iff_not, decide_true, decide_false,
 Int.toNat_natCast, Int.ofNat_lt, Int.ofNat_le, Int.natCast_inj, Bool.false_eq_true, Bool.true_eq_false, extPV, List.getElem?_cons_zero, List.getElem?_cons_succ, nilckPV, Int.reduceToNat, Int.reduceLE, true_and, and_true, reduceCtorEq, or_false, false_or, or_true, Option.some.injEq, exists_eq_left', Bool.not_true, Bool.not_false, ne_eq, Int.reduceEq, not_true_eq_false, not_false_eq_true, Int.reduceLT, UInt8.reduceLT, UInt8.reduceLE, UInt8.reduceToNat]
  obtain ⟨I, hI⟩ : ∃ I : Nat → Env → St → Prop, I = fun z E S => ∃ i v, z = Ls.length - i ∧ i ≤ Ls.length ∧ Kept st S ∧ Mine st S v ((Ls.take i).flatMap outL) ∧ ((Ls.take i).flatMap outL = [] → v = .nils) ∧ (∀ j, j < i → rtB (Ls.getD j L0) = true) ∧ E 0 = x ∧ E 4 = v ∧ E 5 = .int .i64 (i : Int) := ⟨_, rfl⟩
  refine W_loop I ?_ (n := Ls.length) (by
    rw [hI]
    exact ⟨0, .nils, rfl, by omega, Kept.start, Mine.nil, fun _ => rfl, fun j hj => by omega, rfl, rfl, rfl⟩)
  intro z e S hh
  rw [hI] at hh
  obtain ⟨i, v, rfl, hi, hk, hm, hnil, hall, h0, h4, h5⟩ := hh
  have hbl := outs_len (Ls := Ls.take i) (fun f hfm => h.1 f (List.mem_of_mem_take hfm))
  have hbl2 : ((Ls.take i).flatMap outL).length ≤ 3000000 := by
    have h0 : (Ls.take i).length ≤ 60 := by simp; omega
    exact Nat.le_trans hbl (Nat.le_trans (Nat.mul_le_mul_right 50000 h0) (by decide))
  clear hbl
  by_cases hlt : i < Ls.length
  · obtain ⟨L, hLe⟩ : ∃ L, L = Ls.getD i L0 := ⟨_, rfl⟩
    have hLm : L ∈ Ls := by rw [hLe]; simp [List.getD, hlt]
    have hL := h.1 L hLm
    have hia := iaddr_L (k := .i64) (c := (i : Int)) hx (by omega) (by rw [Int.toNat_natCast]; exact hlt)
    rw [Int.toNat_natCast, ← hLe] at hia
    have hrt : ∀ S : St, call prog (.fn 51 []) [.agg [.str L.n, L.pv, .str L.v]] S = some (.bool (rtB L), S) := fun S => rRight_spec hL
    have hln : ∀ S : St, call prog (.fn 62 []) [.agg [.str L.n, L.pv, .str L.v]] S = some (.str (textOfL L), S) := fun S => Plain_spec hL
    cases hr : rtB L with
    | false =>
      rw [hr] at hrt
      have hw : writeL Ls = (90, []) := by
        have : Ls.all rtB = false := by
          rw [List.all_eq_false]; exact ⟨L, hLm, by rw [hr]; simp⟩
        simp [writeL, this]
      simp (maxSteps := 1000000) (disch := omega) only [h0, h4, h5, hlen, hlt, hia, load_3, hrt, W_seq, W_region, W_cond, W_block, W_skip, W_label, W_exit, W_goto, W_ret, WO_cons, WO_consG, WO_nil, wantedA_eq, wantB, evOp, ev_tmp, ev_const, ev_fn, WN_some, WN_none, updO_some, updO_none, upd_eq,
 ↓reduceIte, Nat.reduceEqDiff, List.nil_append, List.cons_append, List.append_nil, List.map_cons, List.map_nil, env0_zero, env0_succ, env0_nil, Option.map_some, Option.map_none, seqQ_normal, seqQ_ret, seqQ_exit, seqQ_goto, blockQ_normal, blockQ_ret, blockQ_exit, blockQ_goto, condW_bool, loopQ_ret, loopQ_exit, loopQ_goto, endQ_ret, endQ_normal,
 lss_i, leq_i, gtr_i, geq_i, eql_i, neq_i, eql_8, neq_8, lss_8, leq_8, gtr_8, geq_8, eql_s, neq_s, eql_b, neq_b, not_b, by_bys, by_nils, load_cp1, beq_true, beq_false, Bool.not_eq_true', decide_eq_true_eq, decide_eq_false_iff_not, decide_true, decide_false,
 Int.toNat_natCast, Int.ofNat_lt, Int.ofNat_le, Int.natCast_inj, Bool.false_eq_true, Bool.true_eq_false, extPV, List.getElem?_cons_zero, List.getElem?_cons_succ, nilckPV, Int.reduceToNat, Int.reduceLE, true_and, and_true, reduceCtorEq, or_false, false_or, or_true, Option.some.injEq, exists_eq_left', Bool.not_true, Bool.not_false, ne_eq, Int.reduceEq, not_true_eq_false, not_false_eq_true, Int.reduceLT, UInt8.reduceLT, UInt8.reduceLE, UInt8.reduceToNat]
      refine ⟨.tup [.nils, .int .i64 90], rfl, ?_⟩
      rw [hw]; exact hk.leave rfl (fun _ _ => rfl)
    | true =>
    rw [hr] at hrt
    obtain ⟨T, hT⟩ : ∃ T, T = foldW (textOfL L).length (textOfL L) := ⟨_, rfl⟩
    obtain ⟨base, hbase⟩ : ∃ base, base = (Ls.take i).flatMap outL := ⟨_, rfl⟩
    rw [← hbase] at hm hbl2
    have htl := textL_len hL
    have hsn : (Ls.take (i + 1)).flatMap outL = base ++ T.flatMap crW := by
      rw [take_getDL hlt, ← hLe, List.flatMap_append, hbase, hT]; simp [outL]
    clear hbase hnil
    simp (maxSteps := 1000000) (disch := omega) only [h0, h4, h5, hlen, hlt, hia, load_3, hrt, hln, W_seq, W_region, W_cond, W_block, W_skip, W_label, W_exit, W_goto, W_ret, WO_cons, WO_consG, WO_nil, wantedA_eq, wantB, evOp, ev_tmp, ev_const, ev_fn, WN_some, WN_none, updO_some, updO_none, upd_eq,
 ↓reduceIte, Nat.reduceEqDiff, List.nil_append, List.cons_append, List.append_nil, List.map_cons, List.map_nil, env0_zero, env0_succ, env0_nil, Option.map_some, Option.map_none, seqQ_normal, seqQ_ret, seqQ_exit, seqQ_goto, blockQ_normal, blockQ_ret, blockQ_exit, blockQ_goto, condW_bool, loopQ_ret, loopQ_exit, loopQ_goto, endQ_ret, endQ_normal,
 lss_i, leq_i, gtr_i, geq_i, eql_i, neq_i, eql_8, neq_8, lss_8, leq_8, gtr_8, geq_8, eql_s, neq_s, eql_b, neq_b, not_b, by_bys, by_nils, load_cp1, beq_true, beq_false, Bool.not_eq_true', decide_eq_true_eq, decide_eq_false_iff_not, decide_true, decide_false,
 Int.toNat_natCast, Int.ofNat_lt, Int.ofNat_le, Int.natCast_inj, Bool.false_eq_true, Bool.true_eq_false, extPV, List.getElem?_cons_zero, List.getElem?_cons_succ, nilckPV, Int.reduceToNat, Int.reduceLE, true_and, and_true, reduceCtorEq, or_false, false_or, or_true, Option.some.injEq, exists_eq_left', Bool.not_true, Bool.not_false, ne_eq, Int.reduceEq, not_true_eq_false, not_false_eq_true, Int.reduceLT, UInt8.reduceLT, UInt8.reduceLE, UInt8.reduceToNat]
    obtain ⟨II, hII⟩ : ∃ II : Nat → Env → St → Prop, II = fun z E S => ∃ m k v acc, m.length = z ∧ m.length ≤ k ∧ (acc.flatMap crW).length + 2 * m.length ≤ 46800 ∧ Kept st S ∧ Mine st S v (base ++ acc.flatMap crW) ∧ T = acc ++ foldW k m ∧ E 0 = x ∧ E 4 = v ∧ E 6 = .str m ∧ E 5 = .int .i64 (i : Int) := ⟨_, rfl⟩
    refine W_loop II ?_ (n := (textOfL L).length) (by
      rw [hII]
      exact ⟨textOfL L, (textOfL L).length, v, [], rfl, Nat.le_refl _, by simp; omega, hk, by simpa using hm, by rw [hT]; rfl, h0, h4, rfl, h5⟩)
    clear hk hm h0 h4 h5
    intro z e S hh
    rw [hII] at hh
    obtain ⟨m, k, v, acc, rfl, hmk, hbd, hk, hm, hTT, h0, h4, h6, h5⟩ := hh
    by_cases h75 : 75 < m.length
    · have e75 : (75 : Int) < (m.length : Int) := by omega
      obtain ⟨k, rfl⟩ : ∃ k', k = k' + 1 := ⟨k - 1, by omega⟩
      simp only [foldW, h75, if_true] at hTT
      obtain ⟨c1, c2⟩ := cut75 h75
      obtain ⟨c, hc⟩ : ∃ c, c = cutOf m 75 := ⟨_, rfl⟩
      have hcut : ∀ (S : St) (t : Tok), call prog (.fn 63 []) [.bys t m, .int .i64 75] S = some (.int .i64 (c : Int), S) := fun S t => by
        rw [hc]; exact rCut_spec (m := 75) by_bys (by omega) (by omega)
      rw [← hc] at c1 c2 hTT
      obtain ⟨v1, S1, a1, k1, m1⟩ := hk.tok1.app8 (y := .str (m.take c)) (m := m.take c) hm.tok1 rfl (by simp only [List.length_append, List.length_take, room]; omega)
      obtain ⟨v2, S2, a2, k2, m2⟩ := k1.push2 (c := 13) (d := 10) m1 (by simp only [List.length_append, List.length_take, room]; omega)
      have hadd : ∀ ek, binPV .add ek (.str [32]) (.str (m.drop c)) = some (.str (32 :: m.drop c)) := fun ek => adds (a := [32]) (b := m.drop c) (by simp; omega)
      simp (maxSteps := 1000000) (disch := omega) only [h0, h4, h5, h6, len_s, e75, freshT_eq, hcut, slc_s_hi, slc_s_lo, a1, lit8_2, a2, hadd, W_seq, W_region, W_cond, W_block, W_skip, W_label, W_exit, W_goto, W_ret, WO_cons, WO_consG, WO_nil, wantedA_eq, wantB, evOp, ev_tmp, ev_const, ev_fn, WN_some, WN_none, updO_some, updO_none, upd_eq,
 ↓reduceIte, Nat.reduceEqDiff, List.nil_append, List.cons_append, List.append_nil, List.map_cons, List.map_nil, env0_zero, env0_succ, env0_nil, Option.map_some, Option.map_none, seqQ_normal, seqQ_ret, seqQ_exit, seqQ_goto, blockQ_normal, blockQ_ret, blockQ_exit, blockQ_goto, condW_bool, loopQ_ret, loopQ_exit, loopQ_goto, endQ_ret, endQ_normal,
 lss_i, leq_i, gtr_i, geq_i, eql_i, neq_i, eql_8, neq_8, lss_8, leq_8, gtr_8, geq_8, eql_s, neq_s, eql_b, neq_b, not_b, by_bys, by_nils, load_cp1, beq_true, beq_false, Bool.not_eq_true', decide_eq_true_eq, decide_eq_false_iff_not, decide_true, decide_false,
 Int.toNat_natCast, Int.ofNat_lt, Int.ofNat_le, Int.natCast_inj, Bool.false_eq_true, Bool.true_eq_false, extPV, List.getElem?_cons_zero, List.getElem?_cons_succ, nilckPV, Int.reduceToNat, Int.reduceLE, true_and, and_true, reduceCtorEq, or_false, false_or, or_true, Option.some.injEq, exists_eq_left', Bool.not_true, Bool.not_false, ne_eq, Int.reduceEq, not_true_eq_false, not_false_eq_true, Int.reduceLT, UInt8.reduceLT, UInt8.reduceLE, UInt8.reduceToNat]
      refine loopQ_intro (m := (32 :: m.drop c).length) (by simp; omega) ?_
      rw [hII]
      refine ⟨32 :: m.drop c, k, v2, acc ++ [m.take c], rfl, by simp; omega, ?_, k2, ?_, ?_, h0, rfl, rfl, h5⟩
      · simp only [List.flatMap_append, List.flatMap_cons, List.flatMap_nil, List.append_nil, crW, List.length_append, List.length_cons, List.length_nil, List.length_take, List.length_drop]; omega
      · rw [List.flatMap_append]; simpa [crW] using m2
      · rw [hTT]; simp
    · have e75 : ¬ (75 : Int) < (m.length : Int) := by omega
      have hTf : T = acc ++ [m] := by
        rw [hTT]
        cases k with
        | zero => rfl
        | succ k => simp only [foldW, h75, if_false]
      obtain ⟨v1, S1, a1, k1, m1⟩ := hk.app8 (y := .str m) (m := m) hm rfl (by simp only [List.length_append, room]; omega)
      obtain ⟨v2, S2, a2, k2, m2⟩ := k1.push2 (c := 13) (d := 10) m1 (by simp only [List.length_append, room]; omega)
      simp (maxSteps := 1000000) (disch := omega) only [h0, h4, h5, h6, len_s, e75, freshT_eq, a1, lit8_2, a2, add_n, W_seq, W_region, W_cond, W_block, W_skip, W_label, W_exit, W_goto, W_ret, WO_cons, WO_consG, WO_nil, wantedA_eq, wantB, evOp, ev_tmp, ev_const, ev_fn, WN_some, WN_none, updO_some, updO_none, upd_eq,
 ↓reduceIte, Nat.reduceEqDiff, List.nil_append, List.cons_append, List.append_nil, List.map_cons, List.map_nil, env0_zero, env0_succ, env0_nil, Option.map_some, Option.map_none, seqQ_normal, seqQ_ret, seqQ_exit, seqQ_goto, blockQ_normal, blockQ_ret, blockQ_exit, blockQ_goto, condW_bool, loopQ_ret, loopQ_exit, loopQ_goto, endQ_ret, endQ_normal,
 lss_i, leq_i, gtr_i, geq_i, eql_i, neq_i, eql_8, neq_8, lss_8, leq_8, gtr_8, geq_8, eql_s, neq_s, eql_b, neq_b, not_b, by_bys, by_nils, load_cp1, beq_true, beq_false, Bool.not_eq_true', decide_eq_true_eq, decide_eq_false_iff_not, decide_true, decide_false,
 Int.toNat_natCast, Int.ofNat_lt, Int.ofNat_le, Int.natCast_inj, Bool.false_eq_true, Bool.true_eq_false, extPV, List.getElem?_cons_zero, List.getElem?_cons_succ, nilckPV, Int.reduceToNat, Int.reduceLE, true_and, and_true, reduceCtorEq, or_false, false_or, or_true, Option.some.injEq, exists_eq_left', Bool.not_true, Bool.not_false, ne_eq, Int.reduceEq, not_true_eq_false, not_false_eq_true, Int.reduceLT, UInt8.reduceLT, UInt8.reduceLE, UInt8.reduceToNat]
      refine loopQ_intro (m := Ls.length - (i + 1)) (by omega) ?_
      rw [hI]
      have hfin : base ++ T.flatMap crW = base ++ acc.flatMap crW ++ m ++ [13, 10] := by rw [hTf]; simp [crW]
      refine ⟨i + 1, v2, rfl, by omega, k2, by rw [hsn, hfin]; exact m2, fun hz => ?_, fun j hj => ?_, h0, rfl, rfl⟩
      · rw [hsn, hfin] at hz
        have := congrArg List.length hz
        simp at this
      · by_cases hji : j = i
        · subst hji; rw [← hLe]; exact hr
        · exact hall j (by omega)
  · obtain rfl : i = Ls.length := by omega
    rw [List.take_length] at hm hnil
    have hw : writeL Ls = (0, Ls.flatMap outL) := by
      have : Ls.all rtB = true := by
        rw [List.all_eq_true]
        intro L hL
        obtain ⟨j, hj, rfl⟩ := List.mem_iff_getElem.1 hL
        have := hall j hj
        simpa [List.getD, hj] using this
      simp [writeL, this]
    simp (maxSteps := 1000000) (disch := omega) only [h0, h4, h5, hlen, hlt, W_seq, W_region, W_cond, W_block, W_skip, W_label, W_exit, W_goto, W_ret, WO_cons, WO_consG, WO_nil, wantedA_eq, wantB, evOp, ev_tmp, ev_const, ev_fn, WN_some, WN_none, updO_some, updO_none, upd_eq,
 ↓reduceIte, Nat.reduceEqDiff, List.nil_append, List.cons_append, List.append_nil, List.map_cons, List.map_nil, env0_zero, env0_succ, env0_nil, Option.map_some, Option.map_none, seqQ_normal, seqQ_ret, seqQ_exit, seqQ_goto, blockQ_normal, blockQ_ret, blockQ_exit, blockQ_goto, condW_bool, loopQ_ret, loopQ_exit, loopQ_goto, endQ_ret, endQ_normal,
 lss_i, leq_i, gtr_i, geq_i, eql_i, neq_i, eql_8, neq_8, lss_8, leq_8, gtr_8, geq_8, eql_s, neq_s, eql_b, neq_b, not_b, by_bys, by_nils, load_cp1, beq_true, beq_false, Bool.not_eq_true', decide_eq_true_eq, decide_eq_false_iff_not, decide_true, decide_false,
 Int.toNat_natCast, Int.ofNat_lt, Int.ofNat_le, Int.natCast_inj, Bool.false_eq_true, Bool.true_eq_false, extPV, List.getElem?_cons_zero, List.getElem?_cons_succ, nilckPV, Int.reduceToNat, Int.reduceLE, true_and, and_true, reduceCtorEq, or_false, false_or, or_true, Option.some.injEq, exists_eq_left', Bool.not_true, Bool.not_false, ne_eq, Int.reduceEq, not_true_eq_false, not_false_eq_true, Int.reduceLT, UInt8.reduceLT, UInt8.reduceLE, UInt8.reduceToNat]
    refine ⟨.tup [v, .int .i64 0], ?_, ?_⟩
    · have hnt : notTup v = true := by rcases hm.1 with ⟨rfl, _⟩ | ⟨i, rfl, _⟩ <;> rfl
      simp [resOf, rvAll, rv1, upd_eq, hnt, packRes]
      rfl
    · rw [hw]; exact leave_outW hk hm hnil
end Go.Ab

/-
  How big lines are; the law SheetWrites.
-/
namespace Go.Ab
set_option linter.unusedVariables false
set_option linter.unusedSimpArgs false
variable {st s : St} {e : Env}

structure Ln.raw (L : Ln) : Prop where
  vs : L.pv.vs 2 = some (L.ps.map fV)
  ib : ∀ n, L.pv.inB n = true
  lf : leafOk L.pv = true
  tk : tokOf L.pv = none
  l1 : L.n.length ≤ 4000000000000000000
  l2 : L.v.length ≤ 4000000000000000000
  l3 : L.ps.length ≤ 9223372036854775807
  l4 : ∀ p ∈ L.ps, p.1.length ≤ 4000000000000000000 ∧ p.2.length ≤ 4000000000000000000
def bndL (L : Ln) (i : Nat) : Prop := L.ps.length ≤ 30 ∧ L.n.length ≤ 300 ∧ L.v.length ≤ 5000 ∧ (5 < i → L.v.length ≤ 300) ∧ ∀ k, k < L.ps.length → (L.ps.getD k ([], [])).1.length + (L.ps.getD k ([], [])).2.length ≤ 500
def smallL (Ls : List Ln) : Prop := Ls.length ≤ 60 ∧ ∀ i, i < Ls.length → bndL (Ls.getD i L0) i
noncomputable def greatB (Ls : List Ln) : Bool := @decide (¬ smallL Ls) (Classical.propDecidable _)
theorem great_t {Ls : List Ln} (h : ¬ smallL Ls) : greatB Ls = true := by unfold greatB; simp [h]
theorem great_f {Ls : List Ln} (h : smallL Ls) : greatB Ls = false := by unfold greatB; simp [h]
theorem great_ok {Ls : List Ln} (hr : ∀ L ∈ Ls, L.raw) (h : greatB Ls = false) : okLs Ls := by
  have hs : smallL Ls := by
    apply Classical.byContradiction
    intro hn
    rw [great_t hn] at h; cases h
  refine ⟨fun L hL => ?_, hs.1⟩
  obtain ⟨j, hj, rfl⟩ := List.mem_iff_getElem.1 hL
  have hb := hs.2 j hj
  have he : Ls.getD j L0 = Ls[j] := by simp [List.getD, hj]
  rw [he] at hb
  obtain ⟨b1, b2, b3, b4, b5⟩ := hb
  have h0 := hr _ hL
  refine ⟨h0.vs, h0.ib, h0.lf, h0.tk, b2, b3, b1, fun p hp => ?_⟩
  obtain ⟨k, hk, rfl⟩ := List.mem_iff_getElem.1 hp
  have := b5 k hk
  simpa [List.getD, hk] using this

set_option maxHeartbeats 1000000 in
theorem Great10_spec {x : PV} {Ls : List Ln} (hx : x.vs 3 = some (Ls.map lV)) (hr : ∀ L ∈ Ls, L.raw) (hl : Ls.length ≤ 9223372036854775807) : call prog (.fn 47 []) [x] st = some (.bool (greatB Ls), st) := by
  refine call_of_W prog_47 ?_
  unfold F_posthornlaw10_Great; dsimp only
  have hlen := len_vs hx
  rw [List.length_map] at hlen
  have fin : ∀ (E : Env) (S : St) (b : Bool), Kept st S → greatB Ls = b → E 2 = .bool b → ∃ rv, resOf E S [.tmp 2] = some rv ∧ leave st S rv = (.bool (greatB Ls), st) := fun E S b k1 hb k2 =>
    ⟨.bool b, by simp [resOf, rvAll, rv1, k2, notTup, packRes], by rw [hb]; exact k1.leave rfl (fun _ _ => rfl)⟩
  by_cases h60 : 60 < Ls.length
  · have e1 : (60 : Int) < (Ls.length : Int) := by omega
    simp (maxSteps := 1000000) (disch := omega) only [hlen, e1, W_seq, W_region, W_cond, W_block, W_skip, W_label, W_exit, W_goto, W_ret, WO_cons, WO_consG, WO_nil, wantedA_eq, wantB, evOp, ev_tmp, ev_const, ev_fn, WN_some, WN_none, updO_some, updO_none, upd_eq,
 ↓reduceIte, Nat.reduceEqDiff, List.nil_append, List.cons_append, List.append_nil, List.map_cons, List.map_nil, env0_zero, env0_succ, env0_nil, Option.map_some, Option.map_none, seqQ_normal, seqQ_ret, seqQ_exit, seqQ_goto, blockQ_normal, blockQ_ret, blockQ_exit, blockQ_goto, condW_bool, loopQ_ret, loopQ_exit, loopQ_goto, endQ_ret, endQ_normal,
 lss_i, leq_i, gtr_i, geq_i, eql_i, neq_i, eql_8, neq_8, lss_8, leq_8, gtr_8, geq_8, eql_s, neq_s, eql_b, neq_b, not_b, by_bys, by_nils, load_cp1, beq_true, beq_false, Bool.not_eq_true', decide_eq_true_eq, decide_eq_false_iff_not, decide_true, decide_false,
 Int.toNat_natCast, Int.ofNat_lt, Int.ofNat_le, Int.natCast_inj, Bool.false_eq_true, Bool.true_eq_false, extPV, List.getElem?_cons_zero, List.getElem?_cons_succ, nilckPV, Int.reduceToNat, Int.reduceLE, true_and, and_true, reduceCtorEq, or_false, false_or, or_true, Option.some.injEq, exists_eq_left', Bool.not_true, Bool.not_false, ne_eq, Int.reduceEq, not_true_eq_false, not_false_eq_true, Int.reduceLT, UInt8.reduceLT, UInt8.reduceLE, UInt8.reduceToNat]
    exact fin _ _ true Kept.start (great_t fun h => by have := h.1; omega) rfl
  have e1 : ¬ (60 : Int) < (Ls.length : Int) := by omega
  simp (maxSteps := 1000000) (disch := omega) only [hlen, e1, W_seq, W_region, W_cond, W_block, W_skip, W_label, W_exit, W_goto, W_ret, WO_cons, WO_consG, WO_nil, wantedA_eq, wantB, evOp, ev_tmp, ev_const, ev_fn, WN_some, WN_none, updO_some, updO_none, upd_eq,
 ↓reduceIte, Nat.reduceEqDiff, List.nil_append, List.cons_append, List.append_nil, List.map_cons, List.map_nil, env0_zero, env0_succ, env0_nil, Option.map_some, Option.map_none, seqQ_normal, seqQ_ret, seqQ_exit, seqQ_goto, blockQ_normal, blockQ_ret, blockQ_exit, blockQ_goto, condW_bool, loopQ_ret, loopQ_exit, loopQ_goto, endQ_ret, endQ_normal,
 lss_i, leq_i, gtr_i, geq_i, eql_i, neq_i, eql_8, neq_8, lss_8, leq_8, gtr_8, geq_8, eql_s, neq_s, eql_b, neq_b, not_b, by_bys, by_nils, load_cp1, beq_true, beq_false, Bool.not_eq_true', decide_eq_true_eq, decide_eq_false_iff_not, decide_true, decide_false,
 Int.toNat_natCast, Int.ofNat_lt, Int.ofNat_le, Int.natCast_inj, Bool.false_eq_true, Bool.true_eq_false, extPV, List.getElem?_cons_zero, List.getElem?_cons_succ, nilckPV, Int.reduceToNat, Int.reduceLE, true_and, and_true, reduceCtorEq, or_false, false_or, or_true, Option.some.injEq, exists_eq_left', Bool.not_true, Bool.not_false, ne_eq, Int.reduceEq, not_true_eq_false, not_false_eq_true, Int.reduceLT, UInt8.reduceLT, UInt8.reduceLE, UInt8.reduceToNat]
  obtain ⟨I, hI⟩ : ∃ I : Nat → Env → St → Prop, I = fun z E S => ∃ i, z = Ls.length - i ∧ i ≤ Ls.length ∧ Kept st S ∧ (∀ j, j < i → bndL (Ls.getD j L0) j) ∧ E 0 = x ∧ E 3 = .int .i64 (i : Int) := ⟨_, rfl⟩
  refine W_loop I ?_ (n := Ls.length) (by
    rw [hI]
    exact ⟨0, rfl, by omega, Kept.start, fun j hj => by omega, rfl, rfl⟩)
  intro z e S hh
  rw [hI] at hh
  obtain ⟨i, rfl, hi, hk, hall, h0, h3⟩ := hh
  by_cases hlt : i < Ls.length
  · obtain ⟨L, hLe⟩ : ∃ L, L = Ls.getD i L0 := ⟨_, rfl⟩
    have hLm : L ∈ Ls := by rw [hLe]; simp [List.getD, hlt]
    have hL := hr L hLm
    have hia := iaddr_L (k := .i64) (c := (i : Int)) hx (by omega) (by rw [Int.toNat_natCast]; exact hlt)
    rw [Int.toNat_natCast, ← hLe] at hia
    have hlp := len_vs hL.vs
    rw [List.length_map] at hlp
    have no : ¬ bndL L i → greatB Ls = true := fun hn => great_t fun h => hn (by rw [hLe]; exact h.2 i hlt)
    have hd1 : ∀ (a b c : PV), List.drop 1 [a, b, c] = [b, c] := fun _ _ _ => rfl
    have hd2 : ∀ (a b c : PV), List.drop 2 [a, b, c] = [c] := fun _ _ _ => rfl
    by_cases q1 : 30 < L.ps.length
    · have g1 : (30 : Int) < (L.ps.length : Int) := by omega
      simp (maxSteps := 1000000) (disch := omega) only [h0, h3, hlen, hlt, hia, faddrPV, List.drop_zero, hd1, hd2, load_ch, hlp, g1, W_seq, W_region, W_cond, W_block, W_skip, W_label, W_exit, W_goto, W_ret, WO_cons, WO_consG, WO_nil, wantedA_eq, wantB, evOp, ev_tmp, ev_const, ev_fn, WN_some, WN_none, updO_some, updO_none, upd_eq,
 ↓reduceIte, Nat.reduceEqDiff, List.nil_append, List.cons_append, List.append_nil, List.map_cons, List.map_nil, env0_zero, env0_succ, env0_nil, Option.map_some, Option.map_none, seqQ_normal, seqQ_ret, seqQ_exit, seqQ_goto, blockQ_normal, blockQ_ret, blockQ_exit, blockQ_goto, condW_bool, loopQ_ret, loopQ_exit, loopQ_goto, endQ_ret, endQ_normal,
 lss_i, leq_i, gtr_i, geq_i, eql_i, neq_i, eql_8, neq_8, lss_8, leq_8, gtr_8, geq_8, eql_s, neq_s, eql_b, neq_b, not_b, by_bys, by_nils, load_cp1, beq_true, beq_false, Bool.not_eq_true', decide_eq_true_eq, decide_eq_false_iff_not, decide_true, decide_false,
 Int.toNat_natCast, Int.ofNat_lt, Int.ofNat_le, Int.natCast_inj, Bool.false_eq_true, Bool.true_eq_false, extPV, List.getElem?_cons_zero, List.getElem?_cons_succ, nilckPV, Int.reduceToNat, Int.reduceLE, true_and, and_true, reduceCtorEq, or_false, false_or, or_true, Option.some.injEq, exists_eq_left', Bool.not_true, Bool.not_false, ne_eq, Int.reduceEq, not_true_eq_false, not_false_eq_true, Int.reduceLT, UInt8.reduceLT, UInt8.reduceLE, UInt8.reduceToNat]
      exact fin _ _ true hk (no fun h => by have := h.1; omega) rfl
    have g1 : ¬ (30 : Int) < (L.ps.length : Int) := by omega
    by_cases q2 : 300 < L.n.length
    · have g2 : (300 : Int) < (L.n.length : Int) := by omega
      simp (maxSteps := 1000000) (disch := omega) only [h0, h3, hlen, hlt, hia, faddrPV, List.drop_zero, hd1, hd2, load_ch, hlp, g1, len_s, g2, W_seq, W_region, W_cond, W_block, W_skip, W_label, W_exit, W_goto, W_ret, WO_cons, WO_consG, WO_nil, wantedA_eq, wantB, evOp, ev_tmp, ev_const, ev_fn, WN_some, WN_none, updO_some, updO_none, upd_eq,
 ↓reduceIte, Nat.reduceEqDiff, List.nil_append, List.cons_append, List.append_nil, List.map_cons, List.map_nil, env0_zero, env0_succ, env0_nil, Option.map_some, Option.map_none, seqQ_normal, seqQ_ret, seqQ_exit, seqQ_goto, blockQ_normal, blockQ_ret, blockQ_exit, blockQ_goto, condW_bool, loopQ_ret, loopQ_exit, loopQ_goto, endQ_ret, endQ_normal,
 lss_i, leq_i, gtr_i, geq_i, eql_i, neq_i, eql_8, neq_8, lss_8, leq_8, gtr_8, geq_8, eql_s, neq_s, eql_b, neq_b, not_b, by_bys, by_nils, load_cp1, beq_true, beq_false, Bool.not_eq_true', decide_eq_true_eq, decide_eq_false_iff_not, decide_true, decide_false,
 Int.toNat_natCast, Int.ofNat_lt, Int.ofNat_le, Int.natCast_inj, Bool.false_eq_true, Bool.true_eq_false, extPV, List.getElem?_cons_zero, List.getElem?_cons_succ, nilckPV, Int.reduceToNat, Int.reduceLE, true_and, and_true, reduceCtorEq, or_false, false_or, or_true, Option.some.injEq, exists_eq_left', Bool.not_true, Bool.not_false, ne_eq, Int.reduceEq, not_true_eq_false, not_false_eq_true, Int.reduceLT, UInt8.reduceLT, UInt8.reduceLE, UInt8.reduceToNat]
      exact fin _ _ true hk (no fun h => by have := h.2.1; omega) rfl
    have g2 : ¬ (300 : Int) < (L.n.length : Int) := by omega
    by_cases q3 : 5000 < L.v.length
    · have g3 : (5000 : Int) < (L.v.length : Int) := by omega
      simp (maxSteps := 1000000) (disch := omega) only [h0, h3, hlen, hlt, hia, faddrPV, List.drop_zero, hd1, hd2, load_ch, hlp, g1, len_s, g2, g3, W_seq, W_region, W_cond, W_block, W_skip, W_label, W_exit, W_goto, W_ret, WO_cons, WO_consG, WO_nil, wantedA_eq, wantB, evOp, ev_tmp, ev_const, ev_fn, WN_some, WN_none, updO_some, updO_none, upd_eq,
 ↓reduceIte, Nat.reduceEqDiff, List.nil_append, List.cons_append, List.append_nil, List.map_cons, List.map_nil, env0_zero, env0_succ, env0_nil, Option.map_some, Option.map_none, seqQ_normal, seqQ_ret, seqQ_exit, seqQ_goto, blockQ_normal, blockQ_ret, blockQ_exit, blockQ_goto, condW_bool, loopQ_ret, loopQ_exit, loopQ_goto, endQ_ret, endQ_normal,
 lss_i, leq_i, gtr_i, geq_i, eql_i, neq_i, eql_8, neq_8, lss_8, leq_8, gtr_8, geq_8, eql_s, neq_s, eql_b, neq_b, not_b, by_bys, by_nils, load_cp1, beq_true, beq_false, Bool.not_eq_true', decide_eq_true_eq, decide_eq_false_iff_not, decide_true, decide_false,
 Int.toNat_natCast, Int.ofNat_lt, Int.ofNat_le, Int.natCast_inj, Bool.false_eq_true, Bool.true_eq_false, extPV, List.getElem?_cons_zero, List.getElem?_cons_succ, nilckPV, Int.reduceToNat, Int.reduceLE, true_and, and_true, reduceCtorEq, or_false, false_or, or_true, Option.some.injEq, exists_eq_left', Bool.not_true, Bool.not_false, ne_eq, Int.reduceEq, not_true_eq_false, not_false_eq_true, Int.reduceLT, UInt8.reduceLT, UInt8.reduceLE, UInt8.reduceToNat]
      exact fin _ _ true hk (no fun h => by have := h.2.2.1; omega) rfl
    have g3 : ¬ (5000 : Int) < (L.v.length : Int) := by omega
    obtain ⟨II, hII⟩ : ∃ II : Nat → Env → St → Prop, II = fun z E S => ∃ k, z = L.ps.length - k ∧ k ≤ L.ps.length ∧ Kept st S ∧ (∀ j, j < k → (L.ps.getD j ([], [])).1.length + (L.ps.getD j ([], [])).2.length ≤ 500) ∧ E 0 = x ∧ E 3 = .int .i64 (i : Int) ∧ E 4 = .int .i64 (k : Int) := ⟨_, rfl⟩
    have inner : (5 < i → L.v.length ≤ 300) → ∀ (z : Nat) (e : Env) (S : St), II z e S → True := fun _ _ _ _ _ => trivial
    by_cases q5 : 5 < i ∧ 300 < L.v.length
    · have g4 : (5 : Int) < (i : Int) := by omega
      have g5 : (300 : Int) < (L.v.length : Int) := by omega
      simp (maxSteps := 1000000) (disch := omega) only [h0, h3, hlen, hlt, hia, faddrPV, List.drop_zero, hd1, hd2, load_ch, hlp, g1, len_s, g2, g3, g4, g5, W_seq, W_region, W_cond, W_block, W_skip, W_label, W_exit, W_goto, W_ret, WO_cons, WO_consG, WO_nil, wantedA_eq, wantB, evOp, ev_tmp, ev_const, ev_fn, WN_some, WN_none, updO_some, updO_none, upd_eq,
 ↓reduceIte, Nat.reduceEqDiff, List.nil_append, List.cons_append, List.append_nil, List.map_cons, List.map_nil, env0_zero, env0_succ, env0_nil, Option.map_some, Option.map_none, seqQ_normal, seqQ_ret, seqQ_exit, seqQ_goto, blockQ_normal, blockQ_ret, blockQ_exit, blockQ_goto, condW_bool, loopQ_ret, loopQ_exit, loopQ_goto, endQ_ret, endQ_normal,
 lss_i, leq_i, gtr_i, geq_i, eql_i, neq_i, eql_8, neq_8, lss_8, leq_8, gtr_8, geq_8, eql_s, neq_s, eql_b, neq_b, not_b, by_bys, by_nils, load_cp1, beq_true, beq_false, Bool.not_eq_true', decide_eq_true_eq, decide_eq_false_iff_not, decide_true, decide_false,
 Int.toNat_natCast, Int.ofNat_lt, Int.ofNat_le, Int.natCast_inj, Bool.false_eq_true, Bool.true_eq_false, extPV, List.getElem?_cons_zero, List.getElem?_cons_succ, nilckPV, Int.reduceToNat, Int.reduceLE, true_and, and_true, reduceCtorEq, or_false, false_or, or_true, Option.some.injEq, exists_eq_left', Bool.not_true, Bool.not_false, ne_eq, Int.reduceEq, not_true_eq_false, not_false_eq_true, Int.reduceLT, UInt8.reduceLT, UInt8.reduceLE, UInt8.reduceToNat]
      exact fin _ _ true hk (no fun h => by have := h.2.2.2.1 q5.1; omega) rfl
    have q5' : 5 < i → L.v.length ≤ 300 := fun h => by
      apply Classical.byContradiction
      intro hn
      exact q5 ⟨h, by omega⟩
    by_cases q4 : 5 < i
    have g4 : (5 : Int) < (i : Int) := by omega
    have g5 : ¬ (300 : Int) < (L.v.length : Int) := by have := q5' q4; omega
    simp (maxSteps := 1000000) (disch := omega) only [h0, h3, hlen, hlt, hia, faddrPV, List.drop_zero, hd1, hd2, load_ch, hlp, g1, len_s, g2, g3, g4, g5, W_seq, W_region, W_cond, W_block, W_skip, W_label, W_exit, W_goto, W_ret, WO_cons, WO_consG, WO_nil, wantedA_eq, wantB, evOp, ev_tmp, ev_const, ev_fn, WN_some, WN_none, updO_some, updO_none, upd_eq,
 ↓reduceIte, Nat.reduceEqDiff, List.nil_append, List.cons_append, List.append_nil, List.map_cons, List.map_nil, env0_zero, env0_succ, env0_nil, Option.map_some, Option.map_none, seqQ_normal, seqQ_ret, seqQ_exit, seqQ_goto, blockQ_normal, blockQ_ret, blockQ_exit, blockQ_goto, condW_bool, loopQ_ret, loopQ_exit, loopQ_goto, endQ_ret, endQ_normal,
 lss_i, leq_i, gtr_i, geq_i, eql_i, neq_i, eql_8, neq_8, lss_8, leq_8, gtr_8, geq_8, eql_s, neq_s, eql_b, neq_b, not_b, by_bys, by_nils, load_cp1, beq_true, beq_false, Bool.not_eq_true', decide_eq_true_eq, decide_eq_false_iff_not, decide_true, decide_false,
 Int.toNat_natCast, Int.ofNat_lt, Int.ofNat_le, Int.natCast_inj, Bool.false_eq_true, Bool.true_eq_false, extPV, List.getElem?_cons_zero, List.getElem?_cons_succ, nilckPV, Int.reduceToNat, Int.reduceLE, true_and, and_true, reduceCtorEq, or_false, false_or, or_true, Option.some.injEq, exists_eq_left', Bool.not_true, Bool.not_false, ne_eq, Int.reduceEq, not_true_eq_false, not_false_eq_true, Int.reduceLT, UInt8.reduceLT, UInt8.reduceLE, UInt8.reduceToNat]
    rotate_left
    have g4 : ¬ (5 : Int) < (i : Int) := by omega
    simp (maxSteps := 1000000) (disch := omega) only [h0, h3, hlen, hlt, hia, faddrPV, List.drop_zero, hd1, hd2, load_ch, hlp, g1, len_s, g2, g3, g4, W_seq, W_region, W_cond, W_block, W_skip, W_label, W_exit, W_goto, W_ret, WO_cons, WO_consG, WO_nil, wantedA_eq, wantB, evOp, ev_tmp, ev_const, ev_fn, WN_some, WN_none, updO_some, updO_none, upd_eq,
 ↓reduceIte, Nat.reduceEqDiff, List.nil_append, List.cons_append, List.append_nil, List.map_cons, List.map_nil, env0_zero, env0_succ, env0_nil, Option.map_some, Option.map_none, seqQ_normal, seqQ_ret, seqQ_exit, seqQ_goto, blockQ_normal, blockQ_ret, blockQ_exit, blockQ_goto, condW_bool, loopQ_ret, loopQ_exit, loopQ_goto, endQ_ret, endQ_normal,
 lss_i, leq_i, gtr_i, geq_i, eql_i, neq_i, eql_8, neq_8, lss_8, leq_8, gtr_8, geq_8, eql_s, neq_s, eql_b, neq_b, not_b, by_bys, by_nils, load_cp1, beq_true, beq_false, Bool.not_eq_true', decide_eq_true_eq, decide_eq_false_iff_not, decide_true, decide_false,
 Int.toNat_natCast, Int.ofNat_lt, Int.ofNat_le, Int.natCast_inj, Bool.false_eq_true, Bool.true_eq_false, extPV, List.getElem?_cons_zero, List.getElem?_cons_succ, nilckPV, Int.reduceToNat, Int.reduceLE, true_and, and_true, reduceCtorEq, or_false, false_or, or_true, Option.some.injEq, exists_eq_left', Bool.not_true, Bool.not_false, ne_eq, Int.reduceEq, not_true_eq_false, not_false_eq_true, Int.reduceLT, UInt8.reduceLT, UInt8.reduceLE, UInt8.reduceToNat]
    all_goals
      refine W_loop II ?_ (n := L.ps.length) (by
        rw [hII]
        exact ⟨0, rfl, by omega, hk, fun j hj => by omega, h0, h3, rfl⟩)
      clear hk h0 h3
      intro z e S hh
      rw [hII] at hh
      obtain ⟨k, rfl, hkl, hk, hdif, h0, h3, h4⟩ := hh
      by_cases hkt : k < L.ps.length
      · obtain ⟨f, hfe⟩ : ∃ f, f = L.ps.getD k ([], []) := ⟨_, rfl⟩
        have hfl := hL.l4 f (by rw [hfe]; simp [List.getD, hkt])
        have hif := iaddr_f (k := .i64) (c := (k : Int)) hL.vs (by omega) (by rw [Int.toNat_natCast]; exact hkt)
        rw [Int.toNat_natCast, ← hfe] at hif
        have hdf : ∀ (a b : PV), List.drop 1 [a, b] = [b] := fun _ _ => rfl
        by_cases hs : 500 < f.1.length + f.2.length
        · have gs : (500 : Int) < ((f.1.length + f.2.length : Nat) : Int) := by omega
          simp (maxSteps := 1000000) (disch := omega) only [h0, h3, h4, hia, faddrPV, List.drop_zero, hd1, hd2, hdf, load_ch, hlp, hkt, hif, len_s, add_n, gs, W_seq, W_region, W_cond, W_block, W_skip, W_label, W_exit, W_goto, W_ret, WO_cons, WO_consG, WO_nil, wantedA_eq, wantB, evOp, ev_tmp, ev_const, ev_fn, WN_some, WN_none, updO_some, updO_none, upd_eq,
 ↓reduceIte, Nat.reduceEqDiff, List.nil_append, List.cons_append, List.append_nil, List.map_cons, List.map_nil, env0_zero, env0_succ, env0_nil, Option.map_some, Option.map_none, seqQ_normal, seqQ_ret, seqQ_exit, seqQ_goto, blockQ_normal, blockQ_ret, blockQ_exit, blockQ_goto, condW_bool, loopQ_ret, loopQ_exit, loopQ_goto, endQ_ret, endQ_normal,
 lss_i, leq_i, gtr_i, geq_i, eql_i, neq_i, eql_8, neq_8, lss_8, leq_8, gtr_8, geq_8, eql_s, neq_s, eql_b, neq_b, not_b, by_bys, by_nils, load_cp1, beq_true, beq_false, Bool.not_eq_true', decide_eq_true_eq, decide_eq_false_iff_not, decide_true, decide_false,
 Int.toNat_natCast, Int.ofNat_lt, Int.ofNat_le, Int.natCast_inj, Bool.false_eq_true, Bool.true_eq_false, extPV, List.getElem?_cons_zero, List.getElem?_cons_succ, nilckPV, Int.reduceToNat, Int.reduceLE, true_and, and_true, reduceCtorEq, or_false, false_or, or_true, Option.some.injEq, exists_eq_left', Bool.not_true, Bool.not_false, ne_eq, Int.reduceEq, not_true_eq_false, not_false_eq_true, Int.reduceLT, UInt8.reduceLT, UInt8.reduceLE, UInt8.reduceToNat]
          exact fin _ _ true hk (no fun h => by have := h.2.2.2.2 k hkt; rw [← hfe] at this; omega) rfl
        · have gs : ¬ (500 : Int) < ((f.1.length + f.2.length : Nat) : Int) := by omega
          simp (maxSteps := 1000000) (disch := omega) only [h0, h3, h4, hia, faddrPV, List.drop_zero, hd1, hd2, hdf, load_ch, hlp, hkt, hif, len_s, add_n, gs, W_seq, W_region, W_cond, W_block, W_skip, W_label, W_exit, W_goto, W_ret, WO_cons, WO_consG, WO_nil, wantedA_eq, wantB, evOp, ev_tmp, ev_const, ev_fn, WN_some, WN_none, updO_some, updO_none, upd_eq,
 ↓reduceIte, Nat.reduceEqDiff, List.nil_append, List.cons_append, List.append_nil, List.map_cons, List.map_nil, env0_zero, env0_succ, env0_nil, Option.map_some, Option.map_none, seqQ_normal, seqQ_ret, seqQ_exit, seqQ_goto, blockQ_normal, blockQ_ret, blockQ_exit, blockQ_goto, condW_bool, loopQ_ret, loopQ_exit, loopQ_goto, endQ_ret, endQ_normal,
 lss_i, leq_i, gtr_i, geq_i, eql_i, neq_i, eql_8, neq_8, lss_8, leq_8, gtr_8, geq_8, eql_s, neq_s, eql_b, neq_b, not_b, by_bys, by_nils, load_cp1, beq_true, beq_false, Bool.not_eq_true', decide_eq_true_eq, decide_eq_false_iff_not, decide_true, decide_false,
 Int.toNat_natCast, Int.ofNat_lt, Int.ofNat_le, Int.natCast_inj, Bool.false_eq_true, Bool.true_eq_false, extPV, List.getElem?_cons_zero, List.getElem?_cons_succ, nilckPV, Int.reduceToNat, Int.reduceLE, true_and, and_true, reduceCtorEq, or_false, false_or, or_true, Option.some.injEq, exists_eq_left', Bool.not_true, Bool.not_false, ne_eq, Int.reduceEq, not_true_eq_false, not_false_eq_true, Int.reduceLT, UInt8.reduceLT, UInt8.reduceLE, UInt8.reduceToNat]
          refine loopQ_intro (m := L.ps.length - (k + 1)) (by omega) ?_
          rw [hII]
          refine ⟨k + 1, rfl, by omega, hk, fun j hj => ?_, h0, h3, rfl⟩
          by_cases hjk : j = k
          · subst hjk; rw [← hfe]; omega
          · exact hdif j (by omega)
      · obtain rfl : k = L.ps.length := by omega
        simp (maxSteps := 1000000) (disch := omega) only [h0, h3, h4, hia, faddrPV, List.drop_zero, hd1, hd2, load_ch, hlp, hkt, add_n, W_seq, W_region, W_cond, W_block, W_skip, W_label, W_exit, W_goto, W_ret, WO_cons, WO_consG, WO_nil, wantedA_eq, wantB, evOp, ev_tmp, ev_const, ev_fn, WN_some, WN_none, updO_some, updO_none, upd_eq,
 ↓reduceIte, Nat.reduceEqDiff, List.nil_append, List.cons_append, List.append_nil, List.map_cons, List.map_nil, env0_zero, env0_succ, env0_nil, Option.map_some, Option.map_none, seqQ_normal, seqQ_ret, seqQ_exit, seqQ_goto, blockQ_normal, blockQ_ret, blockQ_exit, blockQ_goto, condW_bool, loopQ_ret, loopQ_exit, loopQ_goto, endQ_ret, endQ_normal,
 lss_i, leq_i, gtr_i, geq_i, eql_i, neq_i, eql_8, neq_8, lss_8, leq_8, gtr_8, geq_8, eql_s, neq_s, eql_b, neq_b, not_b, by_bys, by_nils, load_cp1, beq_true, beq_false, Bool.not_eq_true', decide_eq_true_eq, decide_eq_false_iff_not, decide_true, decide_false,
 Int.toNat_natCast, Int.ofNat_lt, Int.ofNat_le, Int.natCast_inj, Bool.false_eq_true, Bool.true_eq_false, extPV, List.getElem?_cons_zero, List.getElem?_cons_succ, nilckPV, Int.reduceToNat, Int.reduceLE, true_and, and_true, reduceCtorEq, or_false, false_or, or_true, Option.some.injEq, exists_eq_left', Bool.not_true, Bool.not_false, ne_eq, Int.reduceEq, not_true_eq_false, not_false_eq_true, Int.reduceLT, UInt8.reduceLT, UInt8.reduceLE, UInt8.reduceToNat]
        refine loopQ_intro (m := Ls.length - (i + 1)) (by omega) ?_
        rw [hI]
        refine ⟨i + 1, rfl, by omega, hk, fun j hj => ?_, h0, rfl⟩
        by_cases hji : j = i
        · subst hji; rw [← hLe]
          exact ⟨by omega, by omega, by omega, q5', hdif⟩
        · exact hall j (by omega)
  · obtain rfl : i = Ls.length := by omega
    simp (maxSteps := 1000000) (disch := omega) only [h0, h3, hlen, hlt, W_seq, W_region, W_cond, W_block, W_skip, W_label, W_exit, W_goto, W_ret, WO_cons, WO_consG, WO_nil, wantedA_eq, wantB, evOp, ev_tmp, ev_const, ev_fn, WN_some, WN_none, updO_some, updO_none, upd_eq,
 ↓reduceIte, Nat.reduceEqDiff, List.nil_append, List.cons_append, List.append_nil, List.map_cons, List.map_nil, env0_zero, env0_succ, env0_nil, Option.map_some, Option.map_none, seqQ_normal, seqQ_ret, seqQ_exit, seqQ_goto, blockQ_normal, blockQ_ret, blockQ_exit, blockQ_goto, condW_bool, loopQ_ret, loopQ_exit, loopQ_goto, endQ_ret, endQ_normal,
 lss_i, leq_i, gtr_i, geq_i, eql_i, neq_i, eql_8, neq_8, lss_8, leq_8, gtr_8, geq_8, eql_s, neq_s, eql_b, neq_b, not_b, by_bys, by_nils, load_cp1, beq_true, beq_false, Bool.not_eq_true', decide_eq_true_eq, decide_eq_false_iff_not, decide_true, decide_false,
 Int.toNat_natCast, Int.ofNat_lt, Int.ofNat_le, Int.natCast_inj, Bool.false_eq_true, Bool.true_eq_false, extPV, List.getElem?_cons_zero, List.getElem?_cons_succ, nilckPV, Int.reduceToNat, Int.reduceLE, true_and, and_true, reduceCtorEq, or_false, false_or, or_true, Option.some.injEq, exists_eq_left', Bool.not_true, Bool.not_false, ne_eq, Int.reduceEq, not_true_eq_false, not_false_eq_true, Int.reduceLT, UInt8.reduceLT, UInt8.reduceLE, UInt8.reduceToNat]
    exact fin _ _ false hk (great_f ⟨by omega, hall⟩) rfl
end Go.Ab

/-
  The law SheetWrites.
-/
namespace Go.Ab
set_option linter.unusedVariables false
set_option linter.unusedSimpArgs false
variable {st s : St} {e : Env}

set_option maxRecDepth 100000 in
theorem alive10_g0 : evV prog 400 (.fn 40 []) [] ⟨[], [], [], 0⟩ = some (.bool true, ⟨[], [], [], 0⟩) := by kernel_rfl
set_option maxRecDepth 100000 in
theorem alive10_g2 : evV prog 400 (.fn 40 []) [] ⟨[], [true, true], [], 0⟩ = some (.bool true, ⟨[], [true, true], [], 0⟩) := by kernel_rfl
theorem al10_0 : call prog (.fn 40 []) [] ⟨[], [], [], 0⟩ = some (.bool true, ⟨[], [], [], 0⟩) := call_of alive10_g0
theorem al10_2 : call prog (.fn 40 []) [] ⟨[], [true, true], [], 0⟩ = some (.bool true, ⟨[], [true, true], [], 0⟩) := call_of alive10_g2

theorem law_SheetWrites {x : PV} {Ls : List Ln} (hx : x.vs 3 = some (Ls.map lV)) (hr : ∀ L ∈ Ls, L.raw) (hl : Ls.length ≤ 9223372036854775807) :
    ∃ s', call prog (.fn 52 []) [x] ⟨[], [], [], 0⟩ = some (.bool true, s') := by
  refine law_of_W prog_52 rfl ?_
  unfold F_posthornlaw10_SheetWrites; dsimp only
  have hg := Great10_spec (st := ⟨[], [], [], 0⟩) hx hr hl
  have hlen := len_vs hx
  rw [List.length_map] at hlen
  cases hgb : greatB Ls with
  | true =>
    rw [hgb] at hg
    simp (maxSteps := 1000000) (disch := omega) only [List.length_nil, hg, al10_0, W_seq, W_region, W_cond, W_block, W_skip, W_label, W_exit, W_goto, W_ret, WO_cons, WO_consG, WO_nil, wantedA_eq, wantB, evOp, ev_tmp, ev_const, ev_fn, WN_some, WN_none, updO_some, updO_none, upd_eq,
 ↓reduceIte, Nat.reduceEqDiff, List.nil_append, List.cons_append, List.append_nil, List.map_cons, List.map_nil, env0_zero, env0_succ, env0_nil, Option.map_some, Option.map_none, seqQ_normal, seqQ_ret, seqQ_exit, seqQ_goto, blockQ_normal, blockQ_ret, blockQ_exit, blockQ_goto, condW_bool, loopQ_ret, loopQ_exit, loopQ_goto, endQ_ret, endQ_normal,
 lss_i, leq_i, gtr_i, geq_i, eql_i, neq_i, eql_8, neq_8, lss_8, leq_8, gtr_8, geq_8, eql_s, neq_s, eql_b, neq_b, not_b, by_bys, by_nils, load_cp1, beq_true, beq_false, Bool.not_eq_true', decide_eq_true_eq, decide_eq_false_iff_not, decide_true, decide_false,
 Int.toNat_natCast, Int.ofNat_lt, Int.ofNat_le, Int.natCast_inj, Bool.false_eq_true, Bool.true_eq_false, extPV, List.getElem?_cons_zero, List.getElem?_cons_succ, nilckPV, Int.reduceToNat, Int.reduceLE, true_and, and_true, reduceCtorEq, or_false, false_or, or_true, Option.some.injEq, exists_eq_left', Bool.not_true, Bool.not_false, ne_eq, Int.reduceEq, not_true_eq_false, not_false_eq_true, Int.reduceLT, UInt8.reduceLT, UInt8.reduceLE, UInt8.reduceToNat]
  | false =>
  rw [hgb] at hg
  have hok := great_ok hr hgb
  have hW := fun S : St => sWrite_spec (st := S) hx hok
  have hR := fun S : St => rSWrite_spec (st := S) hx hok
  obtain ⟨c, b, hcb⟩ : ∃ c b, writeL Ls = (c, b) := ⟨_, _, rfl⟩
  simp only [hcb] at hW hR
  have hfst : Ls ≠ [] → ∃ L, L ∈ Ls ∧ iaddrPV 3 x (.int .i64 0) = some (.cp [.str L.n, L.pv, .str L.v]) ∧ (∀ S : St, call prog (.fn 50 []) [.agg [.str L.n, L.pv, .str L.v]] S = some (.bool (rtB L), S)) ∧ (∀ S : St, call prog (.fn 51 []) [.agg [.str L.n, L.pv, .str L.v]] S = some (.bool (rtB L), S)) := by
    intro hne
    have hp := List.length_pos_iff.2 hne
    have hLm : Ls.getD 0 L0 ∈ Ls := by simp [List.getD, hp]
    refine ⟨Ls.getD 0 L0, hLm, iaddr_L (k := .i64) (c := 0) hx (by omega) (by simpa using hp), fun S => sRight_spec (hok.1 _ hLm), fun S => rRight_spec (hok.1 _ hLm)⟩
  by_cases hb : b = []
  · simp only [outW, hb, if_true] at hW hR
    by_cases hne : Ls = []
    · have hd : decide ((Ls.length : Int) = 0) = true := by simp [hne]
      simp (maxSteps := 1000000) (disch := omega) only [List.length_nil, hg, hW, hR, al10_0, b2s_by by_nils, eq_self, hlen, hd, W_seq, W_region, W_cond, W_block, W_skip, W_label, W_exit, W_goto, W_ret, WO_cons, WO_consG, WO_nil, wantedA_eq, wantB, evOp, ev_tmp, ev_const, ev_fn, WN_some, WN_none, updO_some, updO_none, upd_eq,
 ↓reduceIte, Nat.reduceEqDiff, List.nil_append, List.cons_append, List.append_nil, List.map_cons, List.map_nil, env0_zero, env0_succ, env0_nil, Option.map_some, Option.map_none, seqQ_normal, seqQ_ret, seqQ_exit, seqQ_goto, blockQ_normal, blockQ_ret, blockQ_exit, blockQ_goto, condW_bool, loopQ_ret, loopQ_exit, loopQ_goto, endQ_ret, endQ_normal,
 lss_i, leq_i, gtr_i, geq_i, eql_i, neq_i, eql_8, neq_8, lss_8, leq_8, gtr_8, geq_8, eql_s, neq_s, eql_b, neq_b, not_b, by_bys, by_nils, load_cp1, beq_true, beq_false, Bool.not_eq_true', decide_eq_true_eq, decide_eq_false_iff_not, decide_true, decide_false,
 Int.toNat_natCast, Int.ofNat_lt, Int.ofNat_le, Int.natCast_inj, Bool.false_eq_true, Bool.true_eq_false, extPV, List.getElem?_cons_zero, List.getElem?_cons_succ, nilckPV, Int.reduceToNat, Int.reduceLE, true_and, and_true, reduceCtorEq, or_false, false_or, or_true, Option.some.injEq, exists_eq_left', Bool.not_true, Bool.not_false, ne_eq, Int.reduceEq, not_true_eq_false, not_false_eq_true, Int.reduceLT, UInt8.reduceLT, UInt8.reduceLE, UInt8.reduceToNat]
    · have hd : ¬ (Ls.length : Int) = 0 := by have := List.length_pos_iff.2 hne; omega
      obtain ⟨L, -, q1, q2, q3⟩ := hfst hne
      simp (maxSteps := 1000000) (disch := omega) only [List.length_nil, hg, hW, hR, al10_0, b2s_by by_nils, eq_self, hlen, hd, q1, loadc_3, q2, q3, W_seq, W_region, W_cond, W_block, W_skip, W_label, W_exit, W_goto, W_ret, WO_cons, WO_consG, WO_nil, wantedA_eq, wantB, evOp, ev_tmp, ev_const, ev_fn, WN_some, WN_none, updO_some, updO_none, upd_eq,
 ↓reduceIte, Nat.reduceEqDiff, List.nil_append, List.cons_append, List.append_nil, List.map_cons, List.map_nil, env0_zero, env0_succ, env0_nil, Option.map_some, Option.map_none, seqQ_normal, seqQ_ret, seqQ_exit, seqQ_goto, blockQ_normal, blockQ_ret, blockQ_exit, blockQ_goto, condW_bool, loopQ_ret, loopQ_exit, loopQ_goto, endQ_ret, endQ_normal,
 lss_i, leq_i, gtr_i, geq_i, eql_i, neq_i, eql_8, neq_8, lss_8, leq_8, gtr_8, geq_8, eql_s, neq_s, eql_b, neq_b, not_b, by_bys, by_nils, load_cp1, beq_true, beq_false, Bool.not_eq_true', decide_eq_true_eq, decide_eq_false_iff_not, decide_true, decide_false,
 Int.toNat_natCast, Int.ofNat_lt, Int.ofNat_le, Int.natCast_inj, Bool.false_eq_true, Bool.true_eq_false, extPV, List.getElem?_cons_zero, List.getElem?_cons_succ, nilckPV, Int.reduceToNat, Int.reduceLE, true_and, and_true, reduceCtorEq, or_false, false_or, or_true, Option.some.injEq, exists_eq_left', Bool.not_true, Bool.not_false, ne_eq, Int.reduceEq, not_true_eq_false, not_false_eq_true, Int.reduceLT, UInt8.reduceLT, UInt8.reduceLE, UInt8.reduceToNat]
  · simp only [outW, hb, if_false, St.tok1] at hW hR
    have hW0 := hW ⟨[], [], [], 0⟩
    have hR1 := hR ⟨[], [true], [], 0⟩
    simp only [List.length_nil, List.length_cons, List.cons_append, List.nil_append] at hW0 hR1
    by_cases hne : Ls = []
    · have hd : decide ((Ls.length : Int) = 0) = true := by simp [hne]
      simp (maxSteps := 1000000) (disch := omega) only [List.length_nil, hg, hW0, hR1, al10_2, b2s_by by_bys, eq_self, hlen, hd, W_seq, W_region, W_cond, W_block, W_skip, W_label, W_exit, W_goto, W_ret, WO_cons, WO_consG, WO_nil, wantedA_eq, wantB, evOp, ev_tmp, ev_const, ev_fn, WN_some, WN_none, updO_some, updO_none, upd_eq,
 ↓reduceIte, Nat.reduceEqDiff, List.nil_append, List.cons_append, List.append_nil, List.map_cons, List.map_nil, env0_zero, env0_succ, env0_nil, Option.map_some, Option.map_none, seqQ_normal, seqQ_ret, seqQ_exit, seqQ_goto, blockQ_normal, blockQ_ret, blockQ_exit, blockQ_goto, condW_bool, loopQ_ret, loopQ_exit, loopQ_goto, endQ_ret, endQ_normal,
 lss_i, leq_i, gtr_i, geq_i, eql_i, neq_i, eql_8, neq_8, lss_8, leq_8, gtr_8, geq_8, eql_s, neq_s, eql_b, neq_b, not_b, by_bys, by_nils, load_cp1, beq_true, beq_false, Bool.not_eq_true', decide_eq_true_eq, decide_eq_false_iff_not, decide_true, decide_false,
 Int.toNat_natCast, Int.ofNat_lt, Int.ofNat_le, Int.natCast_inj, Bool.false_eq_true, Bool.true_eq_false, extPV, List.getElem?_cons_zero, List.getElem?_cons_succ, nilckPV, Int.reduceToNat, Int.reduceLE, true_and, and_true, reduceCtorEq, or_false, false_or, or_true, Option.some.injEq, exists_eq_left', Bool.not_true, Bool.not_false, ne_eq, Int.reduceEq, not_true_eq_false, not_false_eq_true, Int.reduceLT, UInt8.reduceLT, UInt8.reduceLE, UInt8.reduceToNat]
    · have hd : ¬ (Ls.length : Int) = 0 := by have := List.length_pos_iff.2 hne; omega
      obtain ⟨L, -, q1, q2, q3⟩ := hfst hne
      simp (maxSteps := 1000000) (disch := omega) only [List.length_nil, hg, hW0, hR1, al10_2, b2s_by by_bys, eq_self, hlen, hd, q1, loadc_3, q2, q3, W_seq, W_region, W_cond, W_block, W_skip, W_label, W_exit, W_goto, W_ret, WO_cons, WO_consG, WO_nil, wantedA_eq, wantB, evOp, ev_tmp, ev_const, ev_fn, WN_some, WN_none, updO_some, updO_none, upd_eq,
 ↓reduceIte, Nat.reduceEqDiff, List.nil_append, List.cons_append, List.append_nil, List.map_cons, List.map_nil, env0_zero, env0_succ, env0_nil, Option.map_some, Option.map_none, seqQ_normal, seqQ_ret, seqQ_exit, seqQ_goto, blockQ_normal, blockQ_ret, blockQ_exit, blockQ_goto, condW_bool, loopQ_ret, loopQ_exit, loopQ_goto, endQ_ret, endQ_normal,
 lss_i, leq_i, gtr_i, geq_i, eql_i, neq_i, eql_8, neq_8, lss_8, leq_8, gtr_8, geq_8, eql_s, neq_s, eql_b, neq_b, not_b, by_bys, by_nils, load_cp1, beq_true, beq_false, Bool.not_eq_true', decide_eq_true_eq, decide_eq_false_iff_not, decide_true, decide_false,
 Int.toNat_natCast, Int.ofNat_lt, Int.ofNat_le, Int.natCast_inj, Bool.false_eq_true, Bool.true_eq_false, extPV, List.getElem?_cons_zero, List.getElem?_cons_succ, nilckPV, Int.reduceToNat, Int.reduceLE, true_and, and_true, reduceCtorEq, or_false, false_or, or_true, Option.some.injEq, exists_eq_left', Bool.not_true, Bool.not_false, ne_eq, Int.reduceEq, not_true_eq_false, not_false_eq_true, Int.reduceLT, UInt8.reduceLT, UInt8.reduceLE, UInt8.reduceToNat]
end Go.Ab

/-
  An argument of lines, opened.
-/
namespace Go.Ab
set_option linter.unusedVariables false
set_option linter.unusedSimpArgs false

/-- A struct of so many texts. -/
def strs2 (P : Program) (t : TypeId) : Bool := match fieldsT P t with
  | some fs => fs.toList.map (fun f => isStrT P f.type) == [true, true]
  | none => false
theorem HasTy.two {P : Program} {t : TypeId} {q : PV} (h : HasTy P t q) (hs0 : strs2 P t = true) : ∃ f : Fld, q = fV f ∧ f.1.length ≤ reachBytes ∧ f.2.length ≤ reachBytes := by
  unfold strs2 fieldsT at hs0
  obtain ⟨fs, ht⟩ : ∃ fs, P.underlying t = some (.struct fs) := by
    cases ht : P.underlying t with
    | none => simp [ht] at hs0
    | some d => cases d <;> first | exact ⟨_, rfl⟩ | (simp [ht] at hs0; done)
  simp only [ht, beq_iff_eq] at hs0
  obtain ⟨fl⟩ := fs
  have hlen : fl.length = 2 := by simpa using congrArg List.length hs0
  match fl, hlen, hs0 with
  | [f0, f1], _, hs0 =>
    simp only [List.map_cons, List.map_nil, List.cons.injEq, and_true] at hs0
    have hs := And.intro (isStrT_eq hs0.1) (isStrT_eq hs0.2)
    cases h with
    | agg xs ht' hl hx =>
      rw [ht] at ht'; cases ht'
      match xs, hl with
      | [x0, x1], _ =>
        obtain ⟨a, rfl, ha⟩ := HasTy.strR (hx 0 f0 x0 rfl rfl) hs.1
        obtain ⟨b, rfl, hb⟩ := HasTy.strR (hx 1 f1 x1 rfl rfl) hs.2
        exact ⟨(a, b), rfl, ha, hb⟩
    | bool _ ht' => rw [ht] at ht'; cases ht'
    | int _ ht' => rw [ht] at ht'; cases ht'
    | u8 _ ht' => rw [ht] at ht'; cases ht'
    | str _ ht' => rw [ht] at ht'; cases ht'
    | nils ht' => rw [ht] at ht'; cases ht'
    | bys _ ht' => rw [ht] at ht'; cases ht'
    | sl _ ht' => rw [ht] at ht'; cases ht'
theorem HasTy.twos {P : Program} {t e : TypeId} {q : PV} (h : HasTy P t q) (ht : P.underlying t = some (.slice e)) (hc : P.cellsOf e = 2) (hs : strs2 P e = true) :
    ∃ l : List Fld, q.vs 2 = some (l.map fV) ∧ (∀ f ∈ l, f.1.length ≤ reachBytes ∧ f.2.length ≤ reachBytes) ∧ l.length ≤ maxLen ∧ (∀ n, q.inB n = true) ∧ leafOk q = true ∧ tokOf q = none ∧ q.cells = [q] := by
  cases h with
  | nils ht' => exact ⟨[], rfl, fun f h => (by cases h), by simp, fun n => rfl, rfl, rfl, rfl⟩
  | bys _ ht' he' => rw [ht] at ht'; cases ht'; simp [strs2, fieldsT, he'] at hs
  | sl xs ht' he' hl hx =>
    rw [ht] at ht'; cases ht'
    have : ∀ xs : List PV, (∀ x ∈ xs, HasTy P e x) → ∃ l : List Fld, xs = l.map fV ∧ ∀ f ∈ l, f.1.length ≤ reachBytes ∧ f.2.length ≤ reachBytes := by
      intro xs
      induction xs with
      | nil => intro _; exact ⟨[], rfl, fun f h => (by cases h)⟩
      | cons x r ih =>
        intro hx
        obtain ⟨f, rfl, hf⟩ := HasTy.two (hx x (by simp)) hs
        obtain ⟨l, rfl, hl⟩ := ih (fun y hy => hx y (by simp [hy]))
        refine ⟨f :: l, rfl, fun g hg => ?_⟩
        rcases List.mem_cons.1 hg with rfl | hg
        · exact hf
        · exact hl g hg
    obtain ⟨l, rfl, hl2⟩ := this xs hx
    exact ⟨l, by simp [PV.vs, hc], hl2, by simpa using hl, fun n => rfl, rfl, rfl, rfl⟩
  | bool _ ht' => rw [ht] at ht'; cases ht'
  | int _ ht' => rw [ht] at ht'; cases ht'
  | u8 _ ht' => rw [ht] at ht'; cases ht'
  | str _ ht' => rw [ht] at ht'; cases ht'
  | agg _ ht' => rw [ht] at ht'; cases ht'

/-- A struct of a text, a slice of such, a text. -/
def lineT (P : Program) (t ep : TypeId) : Bool := match fieldsT P t with
  | some fs => match fs.toList with
    | [f0, f1, f2] => isStrT P f0.type && (sliceElem P f1.type == some ep) && isStrT P f2.type && strs2 P ep && (P.cellsOf ep == 2)
    | _ => false
  | none => false
theorem HasTy.line {P : Program} {t ep : TypeId} {q : PV} (h : HasTy P t q) (hs0 : lineT P t ep = true) : ∃ L : Ln, q = lV L ∧ L.raw := by
  unfold lineT fieldsT at hs0
  obtain ⟨fs, ht⟩ : ∃ fs, P.underlying t = some (.struct fs) := by
    cases ht : P.underlying t with
    | none => simp [ht] at hs0
    | some d => cases d <;> first | exact ⟨_, rfl⟩ | (simp [ht] at hs0; done)
  simp only [ht] at hs0
  obtain ⟨fl⟩ := fs
  match fl, hs0 with
  | [f0, f1, f2], hs0 =>
    simp only [Bool.and_eq_true, beq_iff_eq] at hs0
    obtain ⟨⟨⟨⟨s0, s1⟩, s2⟩, s3⟩, s4⟩ := hs0
    have hu1 : P.underlying f1.type = some (.slice ep) := by
      unfold sliceElem at s1
      split at s1
      · rename_i e he; rw [he]; cases s1; rfl
      · cases s1
    cases h with
    | agg xs ht' hl hx =>
      rw [ht] at ht'; cases ht'
      match xs, hl with
      | [x0, x1, x2], _ =>
        obtain ⟨a, rfl, ha⟩ := HasTy.strR (hx 0 f0 x0 rfl rfl) (isStrT_eq s0)
        obtain ⟨l, l1, l2, l3, l4, l5, l6, l7⟩ := HasTy.twos (hx 1 f1 x1 rfl rfl) hu1 s4 s3
        obtain ⟨b, rfl, hb⟩ := HasTy.strR (hx 2 f2 x2 rfl rfl) (isStrT_eq s2)
        have hR : reachBytes ≤ 4000000000000000000 := by decide
        refine ⟨⟨a, x1, l, b⟩, ?_, ⟨l1, l4, l5, l6, Nat.le_trans ha hR, Nat.le_trans hb hR, Nat.le_trans l3 (by decide), fun p hp => ⟨Nat.le_trans (l2 p hp).1 hR, Nat.le_trans (l2 p hp).2 hR⟩⟩⟩
        simp only [lV, flat, List.flatMap_cons, List.flatMap_nil, l7]
        rfl
    | bool _ ht' => rw [ht] at ht'; cases ht'
    | int _ ht' => rw [ht] at ht'; cases ht'
    | u8 _ ht' => rw [ht] at ht'; cases ht'
    | str _ ht' => rw [ht] at ht'; cases ht'
    | nils ht' => rw [ht] at ht'; cases ht'
    | bys _ ht' => rw [ht] at ht'; cases ht'
    | sl _ ht' => rw [ht] at ht'; cases ht'
theorem HasTy.lines {P : Program} {t e ep : TypeId} {q : PV} (h : HasTy P t q) (ht : P.underlying t = some (.slice e)) (hc : P.cellsOf e = 3) (hs : lineT P e ep = true) :
    ∃ l : List Ln, q.vs 3 = some (l.map lV) ∧ (∀ L ∈ l, L.raw) ∧ l.length ≤ 9223372036854775807 := by
  cases h with
  | nils ht' => exact ⟨[], rfl, fun f h => (by cases h), by simp⟩
  | bys _ ht' he' => rw [ht] at ht'; cases ht'; simp [lineT, fieldsT, he'] at hs
  | sl xs ht' he' hl hx =>
    rw [ht] at ht'; cases ht'
    have : ∀ xs : List PV, (∀ x ∈ xs, HasTy P e x) → ∃ l : List Ln, xs = l.map lV ∧ ∀ L ∈ l, L.raw := by
      intro xs
      induction xs with
      | nil => intro _; exact ⟨[], rfl, fun f h => (by cases h)⟩
      | cons x r ih =>
        intro hx
        obtain ⟨f, rfl, hf⟩ := HasTy.line (hx x (by simp)) hs
        obtain ⟨l, rfl, hl⟩ := ih (fun y hy => hx y (by simp [hy]))
        refine ⟨f :: l, rfl, fun g hg => ?_⟩
        rcases List.mem_cons.1 hg with rfl | hg
        · exact hf
        · exact hl g hg
    obtain ⟨l, rfl, hl2⟩ := this xs hx
    exact ⟨l, by simp [PV.vs, hc], hl2, Nat.le_trans (by simpa using hl) (by decide)⟩
  | bool _ ht' => rw [ht] at ht'; cases ht'
  | int _ ht' => rw [ht] at ht'; cases ht'
  | u8 _ ht' => rw [ht] at ht'; cases ht'
  | str _ ht' => rw [ht] at ht'; cases ht'
  | agg _ ht' => rw [ht] at ht'; cases ht'
end Go.Ab

/-
  The library's searches as primitives, out of the shelf's contracts.
-/
namespace Go.Ab
open Go.Shelf Go.Proofs
set_option linter.unusedVariables false
set_option linter.unusedSimpArgs false
variable {P : Program} {g : GMap} {ρ : Go.Shelf.Ren}

def numsOf (a : List UInt8) : List Int := a.map fun b => (b.toNat : Int)
theorem bytesOf_nums (a : List UInt8) : Lib.bytesOf (numsOf a) = a := by
  simp [Lib.bytesOf, numsOf, Function.comp_def]
theorem nums_range (a : List UInt8) : ∀ x ∈ numsOf a, 0 ≤ x ∧ x < 256 := by
  intro x hx
  simp only [numsOf, List.mem_map] at hx
  obtain ⟨b, _, rfl⟩ := hx
  have := b.toNat_lt
  omega
theorem nums_getD (a : List UInt8) {i : Nat} (h : i < a.length) : (numsOf a).getD i 0 = ((a[i]).toNat : Int) := by
  simp [numsOf, List.getD, h]

theorem cells_of {κ : K} {w : World} (hC : ∀ b i u, κ.C b i = some u → w.cell? ⟨b, i, none⟩ = some u) {blk off : Nat} {a : List UInt8} (hb : ∀ (i : Nat) (b : UInt8), a[i]? = some b → κ.C blk (off + i) = some (.int .u8 b.toNat)) :
    ∀ i, i < a.length → w.cell? ((⟨blk, off, none⟩ : Addr).add i) = some (.int .u8 ((numsOf a).getD i 0)) := by
  intro i hi
  rw [add_eq, nums_getD a hi]
  exact hC _ _ _ (hb i _ (by simp [hi]))

theorem primIndex (L : Lays.n185 P ρ) (hm : ∀ κ, g.inv κ → ∃ m, κ.C (ρ.g 1) 0 = some (.int .i64 m)) {pf : Func} (hpf : P.funcs[ρ.f 185]? = some pf) (hb : pf.body.isSome = true) (hn : pf.name ≠ "runtime.NumGoroutine") : PrimOK P g (ρ.f 185) pBytesIndex := by
  refine prim_of_calls hpf hb hn (fun κ w args ps v hi hC hsz hargs hp => ?_)
  obtain ⟨m, hm⟩ := hm κ hi
  have hmc := hC _ _ _ hm
  match ps, hp with
  | [x, y], hp =>
    simp only [pBytesIndex] at hp
    cases hx : x.by with
    | none => simp [hx] at hp
    | some a =>
      cases hy : y.by with
      | none => simp [hx, hy] at hp
      | some b =>
        simp only [hx, hy] at hp
        split at hp
        · rename_i hlen
          cases hp
          obtain ⟨u1, u2, rfl⟩ : ∃ u1 u2, args = #[u1, u2] := by
            obtain ⟨l⟩ := args
            match l, hsz with
            | [u1, u2], _ => exact ⟨u1, u2, rfl⟩
          have r1 := hargs 0 u1 x rfl rfl
          have r2 := hargs 1 u2 y rfl rfl
          have post : ∀ (n : Int), n = Lib.index a b → ∀ (e : Ending) (w' : World), (e = .returned (.int .i64 n) ∧ ∃ q, w' = w.drewN q) → ∃ z, e = .returned z ∧ (∀ κ', R g κ' z (.int .i64 (Lib.index a b))) ∧ w'.heap = w.heap ∧ w'.os = w.os ∧ w'.tape = w.tape ∧ w'.output = w.output := by
            rintro n rfl e w' ⟨rfl, q, rfl⟩
            exact ⟨_, rfl, fun κ' => .int .i64 _ (by decide), rfl, rfl, rfl, rfl⟩
          have post0 : ∀ (n : Int), n = Lib.index a b → ∀ (e : Ending) (w' : World), (e = .returned (.int .i64 n) ∧ w' = w) → ∃ z, e = .returned z ∧ (∀ κ', R g κ' z (.int .i64 (Lib.index a b))) ∧ w'.heap = w.heap ∧ w'.os = w.os ∧ w'.tape = w.tape ∧ w'.output = w.output := by
            rintro n rfl e w' ⟨rfl, rfl⟩
            exact ⟨_, rfl, fun κ' => .int .i64 _ (by decide), rfl, rfl, rfl, rfl⟩
          rcases by_cases' hx with ⟨rfl, rfl⟩ | ⟨t, rfl⟩
          · cases r1
            rcases by_cases' hy with ⟨rfl, rfl⟩ | ⟨t2, rfl⟩
            · cases r2
              exact (Any.bytes_Index_none L none none 0 0 0 w).mono (post0 0 (by simp [Lib.index]))
            · cases r2 with
              | bys blk off n c _ _ h1 h2 h3 h4 _ =>
                subst h1
                refine (Any.bytes_Index_nil L (some ⟨blk, off, none⟩) b.length c w (by omega) (fun h1 => ?_)).mono (post0 _ ?_)
                · have := cells_of hC h3 0 (by omega)
                  rw [add_eq] at this
                  exact ⟨blk, off, _, rfl, this⟩
                · cases b <;> simp [Lib.index]
          · cases r1 with
            | bys blk off n c _ _ h1 h2 h3 h4 _ =>
              subst h1
              rcases by_cases' hy with ⟨rfl, rfl⟩ | ⟨t2, rfl⟩
              · cases r2
                exact (Any.bytes_Index_none L (some ⟨blk, off, none⟩) none a.length c 0 w).mono (post0 0 (Lib.index_empty a).symm)
              · cases r2 with
                | bys blk2 off2 n2 c2 _ _ k1 k2 k3 k4 _ =>
                  subst k1
                  refine (Any.bytes_Index_at L ⟨blk, off, none⟩ ⟨blk2, off2, none⟩ a.length c b.length c2 (numsOf a) (numsOf b) m w (by simp [numsOf]) (by simp [numsOf]) (nums_range a) (nums_range b) (cells_of hC h3) (cells_of hC k3) h2 hlen.1 (by omega) hmc).mono (post _ ?_)
                  rw [bytesOf_nums, bytesOf_nums]
        · cases hp
  | [], hp => simp [pBytesIndex] at hp
  | [_], hp => simp [pBytesIndex] at hp
  | _ :: _ :: _ :: _, hp => simp [pBytesIndex] at hp
end Go.Ab
