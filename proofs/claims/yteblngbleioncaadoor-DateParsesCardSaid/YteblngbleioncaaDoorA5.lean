/-
  Dates are read: a day's name ahead of the words, walked.
-/
import Derived.Test.YteblngbleioncaaDoorA4
import Derived.Test.YteblngbleioncaaDoorA3
namespace Go.Ab
set_option linter.unusedVariables false
set_option linter.unusedSimpArgs false
set_option maxRecDepth 20000
variable {st s : St} {e : Env}

/-- A row of words as a value. -/
def rowV (t : Tok) (l : List Bs) : PV := .sl 1 t (l.map .str)
theorem rowV_vs {t : Tok} {l : List Bs} : (rowV t l).vs 1 = some (l.map .str) := by simp [rowV, PV.vs]
theorem len_row {t : Tok} {l : List Bs} : lenPV false (rowV t l) = some (.int .i64 (l.length : Int)) := by simp [rowV, lenPV]
theorem slc_row {t : Tok} {w : Bs} {l : List Bs} : slcPV 1 (rowV t (w :: l)) (some (.int .i64 1)) none none = some (rowV t l) := by
  have h1 : (1 : Int) ≤ (l.length : Int) + 1 := by omega
  have h2 : (l.map PV.str).take l.length = l.map .str := List.take_of_length_le (by simp)
  simp [rowV, slcPV, bnd, intOf, sufTok, h1, h2]
theorem keep_row {t : Tok} {l : List Bs} {n : Nat} {toks : List Bool} {acc : List Nat} (ht : ∀ i, t = .own i → i < n) : keepVal n toks acc (rowV t l) = (rowV t l, acc) := by
  cases t with
  | own i => simp [rowV, keepVal, keepLeaf, keepTok, ht i rfl]
  | no => simp [rowV, keepVal, keepLeaf, keepTok]
  | ex => simp [rowV, keepVal, keepLeaf, keepTok]
theorem retIrow {a b : Nat} {n m : Int} {t : Tok} {l : List Bs} (ha : e a = .int .i64 n) (hb : e b = rowV t l) (hk : Kept st s) (ht : ∀ i, t = .own i → i < st.toks.length) (hnm : n = m) :
    ∃ rv, resOf e s [.tmp a, .tmp b] = some rv ∧ leave st s rv = (.tup [.int .i64 m, rowV t l], st) := by
  subst hnm
  refine ⟨.tup [.int .i64 n, rowV t l], by simp [resOf, rvAll, rv1, ha, hb, packRes, notTup, rowV], ?_⟩
  have h1 := hk.bx; have h2 := hk.lp; have h3 := hk.lw; have h4 := hk.tk
  have h5 : (PV.tup [.int .i64 n, rowV t l]).inB st.boxes.length = true := rfl
  have h6 : keepRes st.toks.length s.toks (.tup [.int .i64 n, rowV t l]) = (.tup [.int .i64 n, rowV t l], []) := by
    simp only [keepRes, keepVals, keep_row ht]; rfl
  simp [leave, h5, h3, h6, h1, h2, h4]
theorem retInils {a b : Nat} {n m : Int} (ha : e a = .int .i64 n) (hb : e b = .nils) (hk : Kept st s) (hnm : n = m) :
    ∃ rv, resOf e s [.tmp a, .tmp b] = some rv ∧ leave st s rv = (.tup [.int .i64 m, .nils], st) := by
  subst hnm
  exact ⟨.tup [.int .i64 n, .nils], by simp [resOf, rvAll, rv1, ha, hb, packRes, notTup], hk.leave' ⟨fun _ => rfl, fun _ _ => rfl⟩⟩
/-- A fresh row handed back. -/
theorem retIown {a b : Nat} {n m : Int} {i : Nat} {l : List Bs} (ha : e a = .int .i64 n) (hb : e b = rowV (.own i) l) (hk : Kept st s) (hi : st.toks.length ≤ i) (ht : s.toks[i]? = some true) (hnm : n = m) :
    ∃ rv, resOf e s [.tmp a, .tmp b] = some rv ∧ leave st s rv = (.tup [.int .i64 m, rowV (.own st.toks.length) l], st.tok1) := by
  subst hnm
  refine ⟨.tup [.int .i64 n, rowV (.own i) l], by simp [resOf, rvAll, rv1, ha, hb, packRes, notTup, rowV], ?_⟩
  have h1 := hk.bx; have h2 := hk.lp; have h3 := hk.lw; have h4 := hk.tk
  have h5 : (PV.tup [.int .i64 n, .sl 1 (.own i) (l.map .str)]).inB st.boxes.length = true := rfl
  simp [leave, h5, h3, rowV, keepRes, keepVals, keepVal, keepLeaf, keepTok, ht, show ¬ i < st.toks.length by omega, h1, h2, h4, St.tok1]
/-- A word ahead of a row. -/
theorem app_row {w : Bs} {t : Tok} {l : List Bs} (hl : l.length + 1 ≤ room) : ∃ i T, appV 1 s.tok1 (.sl 1 (.own s.toks.length) [.str w]) (rowV t l) = some (rowV (.own i) (w :: l), ⟨s.boxes, s.toks ++ T, s.loops, s.low⟩) ∧ s.toks.length ≤ i ∧ (s.toks ++ T)[i]? = some true := by
  cases l with
  | nil => exact ⟨s.toks.length, [true], by simp [appV, rowV, srcV, St.tok1], Nat.le_refl _, by simp⟩
  | cons v l =>
    have hl2 : 1 + (l.length + 1) ≤ room := by simp only [List.length_cons] at hl; omega
    refine ⟨s.toks.length + 1, [false, true], ?_, by omega, by simp⟩
    have h1 : (s.toks ++ [true])[s.toks.length]? = some true := by simp
    have h2 : (s.toks ++ [true]).set s.toks.length false = s.toks ++ [false] := by simp
    simp [appV, rowV, srcV, St.tok1, appTok, freshT, h1, h2, hl2]
theorem Kept.toks {T : List Bool} (h : Kept st s) : Kept st ⟨s.boxes, s.toks ++ T, s.loops, s.low⟩ := by
  refine ⟨h.bx, h.lp, h.lw, ?_⟩
  have h1 := h.tk
  have h2 : st.toks.length ≤ s.toks.length := by have := congrArg List.length h1; simp at this; omega
  simp only [List.take_append_of_le_length h2]
  exact h1

theorem cut_hit {w : Bs} (h : 0 ≤ Lib.index w [44]) : cutAt w [44] = .tup [.str (w.take (Lib.index w [44]).toNat), .str (w.drop ((Lib.index w [44]).toNat + 1)), .bool true] := by simp [cutAt, h]
theorem cut_miss {w : Bs} (h : ¬ 0 ≤ Lib.index w [44]) : cutAt w [44] = .tup [.str w, .str [], .bool false] := by simp [cutAt, h]
theorem pre44 {v : Bs} : decide (([44] : Bs) <+: v) = decide (v.head? = some 44) := by
  cases v with
  | nil => simp
  | cons c v => simp [List.cons_prefix_cons, eq_comm]

set_option maxHeartbeats 4000000 in
theorem weekday_spec {t : Tok} {l : List Bs} (ht : ∀ i, t = .own i → i < st.toks.length) (hl : ∀ w ∈ l, w.length ≤ 1000000) (hn : l.length ≤ 1000000) :
    ∃ y s', call prog (.fn 286 []) [rowV t l] st = some (.tup [.int .i64 (wdD l).1, y], s') ∧ (y = .nils ∧ (wdD l).2 = [] ∨ ∃ u, y = rowV u (wdD l).2 ∧ ∀ i, u = .own i → i < s'.toks.length) ∧ (s' = st ∨ s' = st.tok1) := by
  have htk : ∀ i, t = .own i → i < st.tok1.toks.length := fun i hi => by have := ht i hi; simp [St.tok1]; omega
  match l, hl, hn with
  | [], _, _ =>
    refine ⟨.nils, st, ?_, .inl ⟨rfl, rfl⟩, .inl rfl⟩
    refine call_of_W prog_286 ?_
    unfold F_date_weekday; dsimp only
    simp (maxSteps := 1000000) (disch := omega) only [len_row, List.length_nil, Int.ofNat_zero, qaaz, qabz, qacz, qadz, qaez, qafz, qagz, qahz, qaiz, qajz, qakz, qalz, qamz, qanz, evOp, qaoz, qapz, qaqz, qarz, qasz, qatz, qauz, qavz,
 ↓reduceIte, Nat.reduceEqDiff, List.nil_append, List.cons_append, List.append_nil, List.map_cons, List.map_nil, qawz, qaxz, qayz, Option.map_some, Option.map_none, qazz, qbaz, qbbz, qbcz, qbdz, qbez, qbfz, qbgz, qbhz, qbiz, qbjz, qbkz, qblz, qbmz, qbnz, qboz,
 qbpz, qbqz, qbrz, qbsz, qbtz, qbuz, qbvz, qbwz, qbxz, qbyz, qbzz, qcaz, qcbz, qccz, qcdz, qcez, qcfz, qcgz, qchz, qciz, beq_true, beq_false, Bool.not_eq_true', decide_eq_true_eq, decide_eq_false_iff_not, decide_true, decide_false,
 Int.toNat_natCast, Int.ofNat_lt, Int.ofNat_le, Int.natCast_inj, Bool.false_eq_true, Bool.true_eq_false, qcjz, List.getElem?_cons_zero, List.getElem?_cons_succ, qckz, Int.reduceToNat, Int.reduceLE, true_and, and_true, reduceCtorEq, or_false, false_or, or_true, Option.some.injEq, exists_eq_left', Bool.not_true, Bool.not_false, ne_eq, Int.reduceEq, not_true_eq_false, not_false_eq_true, Int.reduceLT, UInt8.reduceLT, UInt8.reduceLE, UInt8.reduceToNat]
    exact retInils rfl rfl Kept.start rfl
  | w :: r, hl, hn =>
    have hlw := hl w (by simp)
    simp only [List.length_cons] at hn
    have hcut := fun S : St => Cut_spec (st := S) (a := w) (b := [44]) (by omega) (by simp)
    have e1 : ¬ (((r.length + 1 : Nat) : Int) = 0) := by omega
    have i0 : iaddrPV 1 (rowV t (w :: r)) (.int .i64 0) = some (.cp [.str w]) := iaddr_t rowV_vs (by omega) (by simp)
    by_cases hc : 0 ≤ Lib.index w [44]
    · obtain ⟨a, ha⟩ : ∃ a, a = w.take (Lib.index w [44]).toNat := ⟨_, rfl⟩
      obtain ⟨b, hb⟩ : ∃ b, b = w.drop ((Lib.index w [44]).toNat + 1) := ⟨_, rfl⟩
      have hal : a.length ≤ 1000000 := by rw [ha, List.length_take]; omega
      have hct := cut_hit hc
      rw [← ha, ← hb] at hct
      rw [hct] at hcut
      have hday := fun S : St => day_spec (st := S) hal
      have hD : wdD (w :: r) = wdGo a b r := by unfold wdD; dsimp only; rw [if_pos hc, ha, hb]
      rw [hD]
      by_cases hneg : nmD a 7 dayT < 0
      · have hg : wdGo a b r = (-2, []) := by rw [wdGo, if_pos hneg]
        rw [hg]
        refine ⟨.nils, st, ?_, .inl ⟨rfl, rfl⟩, .inl rfl⟩
        refine call_of_W prog_286 ?_
        unfold F_date_weekday; dsimp only
        simp (maxSteps := 1000000) (disch := omega) only [len_row, List.length_cons, e1, i0, hcut, hday, hneg, qaaz, qabz, qacz, qadz, qaez, qafz, qagz, qahz, qaiz, qajz, qakz, qalz, qamz, qanz, evOp, qaoz, qapz, qaqz, qarz, qasz, qatz, qauz, qavz,
 ↓reduceIte, Nat.reduceEqDiff, List.nil_append, List.cons_append, List.append_nil, List.map_cons, List.map_nil, qawz, qaxz, qayz, Option.map_some, Option.map_none, qazz, qbaz, qbbz, qbcz, qbdz, qbez, qbfz, qbgz, qbhz, qbiz, qbjz, qbkz, qblz, qbmz, qbnz, qboz,
 qbpz, qbqz, qbrz, qbsz, qbtz, qbuz, qbvz, qbwz, qbxz, qbyz, qbzz, qcaz, qcbz, qccz, qcdz, qcez, qcfz, qcgz, qchz, qciz, beq_true, beq_false, Bool.not_eq_true', decide_eq_true_eq, decide_eq_false_iff_not, decide_true, decide_false,
 Int.toNat_natCast, Int.ofNat_lt, Int.ofNat_le, Int.natCast_inj, Bool.false_eq_true, Bool.true_eq_false, qcjz, List.getElem?_cons_zero, List.getElem?_cons_succ, qckz, Int.reduceToNat, Int.reduceLE, true_and, and_true, reduceCtorEq, or_false, false_or, or_true, Option.some.injEq, exists_eq_left', Bool.not_true, Bool.not_false, ne_eq, Int.reduceEq, not_true_eq_false, not_false_eq_true, Int.reduceLT, UInt8.reduceLT, UInt8.reduceLE, UInt8.reduceToNat]
        exact retInils rfl rfl Kept.start rfl
      · by_cases hbn : b = []
        · have hg : wdGo a b r = (nmD a 7 dayT, r) := by rw [wdGo, if_neg hneg, if_pos hbn]
          rw [hg]
          refine ⟨rowV t r, st, ?_, .inr ⟨t, rfl, ht⟩, .inl rfl⟩
          refine call_of_W prog_286 ?_
          unfold F_date_weekday; dsimp only
          simp (maxSteps := 1000000) (disch := omega) only [len_row, List.length_cons, e1, i0, hcut, hday, hneg, slc_row, hbn, qaaz, qabz, qacz, qadz, qaez, qafz, qagz, qahz, qaiz, qajz, qakz, qalz, qamz, qanz, evOp, qaoz, qapz, qaqz, qarz, qasz, qatz, qauz, qavz,
 ↓reduceIte, Nat.reduceEqDiff, List.nil_append, List.cons_append, List.append_nil, List.map_cons, List.map_nil, qawz, qaxz, qayz, Option.map_some, Option.map_none, qazz, qbaz, qbbz, qbcz, qbdz, qbez, qbfz, qbgz, qbhz, qbiz, qbjz, qbkz, qblz, qbmz, qbnz, qboz,
 qbpz, qbqz, qbrz, qbsz, qbtz, qbuz, qbvz, qbwz, qbxz, qbyz, qbzz, qcaz, qcbz, qccz, qcdz, qcez, qcfz, qcgz, qchz, qciz, beq_true, beq_false, Bool.not_eq_true', decide_eq_true_eq, decide_eq_false_iff_not, decide_true, decide_false,
 Int.toNat_natCast, Int.ofNat_lt, Int.ofNat_le, Int.natCast_inj, Bool.false_eq_true, Bool.true_eq_false, qcjz, List.getElem?_cons_zero, List.getElem?_cons_succ, qckz, Int.reduceToNat, Int.reduceLE, true_and, and_true, reduceCtorEq, or_false, false_or, or_true, Option.some.injEq, exists_eq_left', Bool.not_true, Bool.not_false, ne_eq, Int.reduceEq, not_true_eq_false, not_false_eq_true, Int.reduceLT, UInt8.reduceLT, UInt8.reduceLE, UInt8.reduceToNat]
          exact retIrow rfl rfl Kept.start ht rfl
        · have hg : wdGo a b r = (nmD a 7 dayT, b :: r) := by rw [wdGo, if_neg hneg, if_neg hbn]
          rw [hg]
          refine ⟨rowV (.own st.toks.length) (b :: r), st.tok1, ?_, .inr ⟨_, rfl, fun i hi => by cases hi; simp [St.tok1]⟩, .inr rfl⟩
          refine call_of_W prog_286 ?_
          unfold F_date_weekday; dsimp only
          obtain ⟨i, T, q1, q2, q3⟩ := app_row (s := ⟨st.boxes, st.toks, st.loops, st.boxes.length⟩) (w := b) (t := t) (l := r) (by unfold room; omega)
          simp only [St.tok1] at q1
          simp (maxSteps := 1000000) (disch := omega) only [len_row, List.length_cons, e1, i0, hcut, hday, hneg, slc_row, hbn, lit_s, freshT, q1, qaaz, qabz, qacz, qadz, qaez, qafz, qagz, qahz, qaiz, qajz, qakz, qalz, qamz, qanz, evOp, qaoz, qapz, qaqz, qarz, qasz, qatz, qauz, qavz,
 ↓reduceIte, Nat.reduceEqDiff, List.nil_append, List.cons_append, List.append_nil, List.map_cons, List.map_nil, qawz, qaxz, qayz, Option.map_some, Option.map_none, qazz, qbaz, qbbz, qbcz, qbdz, qbez, qbfz, qbgz, qbhz, qbiz, qbjz, qbkz, qblz, qbmz, qbnz, qboz,
 qbpz, qbqz, qbrz, qbsz, qbtz, qbuz, qbvz, qbwz, qbxz, qbyz, qbzz, qcaz, qcbz, qccz, qcdz, qcez, qcfz, qcgz, qchz, qciz, beq_true, beq_false, Bool.not_eq_true', decide_eq_true_eq, decide_eq_false_iff_not, decide_true, decide_false,
 Int.toNat_natCast, Int.ofNat_lt, Int.ofNat_le, Int.natCast_inj, Bool.false_eq_true, Bool.true_eq_false, qcjz, List.getElem?_cons_zero, List.getElem?_cons_succ, qckz, Int.reduceToNat, Int.reduceLE, true_and, and_true, reduceCtorEq, or_false, false_or, or_true, Option.some.injEq, exists_eq_left', Bool.not_true, Bool.not_false, ne_eq, Int.reduceEq, not_true_eq_false, not_false_eq_true, Int.reduceLT, UInt8.reduceLT, UInt8.reduceLE, UInt8.reduceToNat]
          exact retIown rfl rfl Kept.start.toks q2 q3 rfl
    · rw [cut_miss hc] at hcut
      match r, hl, hn with
      | [], hl, hn =>
        have hD : wdD [w] = (-1, [w]) := by unfold wdD; dsimp only; rw [if_neg hc]
        rw [hD]
        refine ⟨rowV t [w], st, ?_, .inr ⟨t, rfl, ht⟩, .inl rfl⟩
        refine call_of_W prog_286 ?_
        unfold F_date_weekday; dsimp only
        have e2 : ¬ ((1 : Int) < (([w].length : Nat) : Int)) := by simp
        have e3 : ¬ ((([w].length : Nat) : Int) = 0) := by simp
        simp (maxSteps := 1000000) (disch := omega) only [len_row, e2, e3, i0, hcut, qaaz, qabz, qacz, qadz, qaez, qafz, qagz, qahz, qaiz, qajz, qakz, qalz, qamz, qanz, evOp, qaoz, qapz, qaqz, qarz, qasz, qatz, qauz, qavz,
 ↓reduceIte, Nat.reduceEqDiff, List.nil_append, List.cons_append, List.append_nil, List.map_cons, List.map_nil, qawz, qaxz, qayz, Option.map_some, Option.map_none, qazz, qbaz, qbbz, qbcz, qbdz, qbez, qbfz, qbgz, qbhz, qbiz, qbjz, qbkz, qblz, qbmz, qbnz, qboz,
 qbpz, qbqz, qbrz, qbsz, qbtz, qbuz, qbvz, qbwz, qbxz, qbyz, qbzz, qcaz, qcbz, qccz, qcdz, qcez, qcfz, qcgz, qchz, qciz, beq_true, beq_false, Bool.not_eq_true', decide_eq_true_eq, decide_eq_false_iff_not, decide_true, decide_false,
 Int.toNat_natCast, Int.ofNat_lt, Int.ofNat_le, Int.natCast_inj, Bool.false_eq_true, Bool.true_eq_false, qcjz, List.getElem?_cons_zero, List.getElem?_cons_succ, qckz, Int.reduceToNat, Int.reduceLE, true_and, and_true, reduceCtorEq, or_false, false_or, or_true, Option.some.injEq, exists_eq_left', Bool.not_true, Bool.not_false, ne_eq, Int.reduceEq, not_true_eq_false, not_false_eq_true, Int.reduceLT, UInt8.reduceLT, UInt8.reduceLE, UInt8.reduceToNat]
        exact retIrow rfl rfl Kept.start ht rfl
      | v :: r', hl, hn =>
        have hlv := hl v (by simp)
        have e2 : (1 : Int) < (((w :: v :: r').length : Nat) : Int) := by simp; omega
        have e3 : ¬ ((((w :: v :: r').length : Nat) : Int) = 0) := by simp; omega
        have i1 : iaddrPV 1 (rowV t (w :: v :: r')) (.int .i64 1) = some (.cp [.str v]) := iaddr_t rowV_vs (by omega) (by simp)
        have hpre : ∀ S : St, call prog (.fn 72 []) [.str v, .str [44]] S = some (.bool (decide (v.head? = some 44)), S) := fun S => by rw [sHasPrefix_spec, pre44]
        by_cases hv : v.head? = some 44
        · obtain ⟨b, hb⟩ : ∃ b, b = v.drop 1 := ⟨_, rfl⟩
          have hs : slcPV 0 (.str v) (some (.int .i64 1)) none none = some (.str b) := by
            rw [slc_s_lo (by omega) (by cases v with | nil => simp at hv | cons c v => simp)]; rw [hb]; rfl
          have hday := fun S : St => day_spec (st := S) hlw
          have hD : wdD (w :: v :: r') = wdGo w b r' := by unfold wdD; dsimp only; rw [if_neg hc, if_pos hv, hb]
          rw [hD]
          have hn' : r'.length ≤ 1000000 := by simp only [List.length_cons] at hn; omega
          by_cases hneg : nmD w 7 dayT < 0
          · have hg : wdGo w b r' = (-2, []) := by rw [wdGo, if_pos hneg]
            rw [hg]
            refine ⟨.nils, st, ?_, .inl ⟨rfl, rfl⟩, .inl rfl⟩
            refine call_of_W prog_286 ?_
            unfold F_date_weekday; dsimp only
            simp (maxSteps := 1000000) (disch := omega) only [len_row, e2, e3, i0, i1, hcut, hpre, eq_true hv, hs, slc_row, hday, hneg, qaaz, qabz, qacz, qadz, qaez, qafz, qagz, qahz, qaiz, qajz, qakz, qalz, qamz, qanz, evOp, qaoz, qapz, qaqz, qarz, qasz, qatz, qauz, qavz,
 ↓reduceIte, Nat.reduceEqDiff, List.nil_append, List.cons_append, List.append_nil, List.map_cons, List.map_nil, qawz, qaxz, qayz, Option.map_some, Option.map_none, qazz, qbaz, qbbz, qbcz, qbdz, qbez, qbfz, qbgz, qbhz, qbiz, qbjz, qbkz, qblz, qbmz, qbnz, qboz,
 qbpz, qbqz, qbrz, qbsz, qbtz, qbuz, qbvz, qbwz, qbxz, qbyz, qbzz, qcaz, qcbz, qccz, qcdz, qcez, qcfz, qcgz, qchz, qciz, beq_true, beq_false, Bool.not_eq_true', decide_eq_true_eq, decide_eq_false_iff_not, decide_true, decide_false,
 Int.toNat_natCast, Int.ofNat_lt, Int.ofNat_le, Int.natCast_inj, Bool.false_eq_true, Bool.true_eq_false, qcjz, List.getElem?_cons_zero, List.getElem?_cons_succ, qckz, Int.reduceToNat, Int.reduceLE, true_and, and_true, reduceCtorEq, or_false, false_or, or_true, Option.some.injEq, exists_eq_left', Bool.not_true, Bool.not_false, ne_eq, Int.reduceEq, not_true_eq_false, not_false_eq_true, Int.reduceLT, UInt8.reduceLT, UInt8.reduceLE, UInt8.reduceToNat]
            exact retInils rfl rfl Kept.start rfl
          · by_cases hbn : b = []
            · have hg : wdGo w b r' = (nmD w 7 dayT, r') := by rw [wdGo, if_neg hneg, if_pos hbn]
              rw [hg]
              refine ⟨rowV t r', st, ?_, .inr ⟨t, rfl, ht⟩, .inl rfl⟩
              refine call_of_W prog_286 ?_
              unfold F_date_weekday; dsimp only
              simp (maxSteps := 1000000) (disch := omega) only [len_row, e2, e3, i0, i1, hcut, hpre, eq_true hv, hs, slc_row, hday, hneg, hbn, qaaz, qabz, qacz, qadz, qaez, qafz, qagz, qahz, qaiz, qajz, qakz, qalz, qamz, qanz, evOp, qaoz, qapz, qaqz, qarz, qasz, qatz, qauz, qavz,
 ↓reduceIte, Nat.reduceEqDiff, List.nil_append, List.cons_append, List.append_nil, List.map_cons, List.map_nil, qawz, qaxz, qayz, Option.map_some, Option.map_none, qazz, qbaz, qbbz, qbcz, qbdz, qbez, qbfz, qbgz, qbhz, qbiz, qbjz, qbkz, qblz, qbmz, qbnz, qboz,
 qbpz, qbqz, qbrz, qbsz, qbtz, qbuz, qbvz, qbwz, qbxz, qbyz, qbzz, qcaz, qcbz, qccz, qcdz, qcez, qcfz, qcgz, qchz, qciz, beq_true, beq_false, Bool.not_eq_true', decide_eq_true_eq, decide_eq_false_iff_not, decide_true, decide_false,
 Int.toNat_natCast, Int.ofNat_lt, Int.ofNat_le, Int.natCast_inj, Bool.false_eq_true, Bool.true_eq_false, qcjz, List.getElem?_cons_zero, List.getElem?_cons_succ, qckz, Int.reduceToNat, Int.reduceLE, true_and, and_true, reduceCtorEq, or_false, false_or, or_true, Option.some.injEq, exists_eq_left', Bool.not_true, Bool.not_false, ne_eq, Int.reduceEq, not_true_eq_false, not_false_eq_true, Int.reduceLT, UInt8.reduceLT, UInt8.reduceLE, UInt8.reduceToNat]
              exact retIrow rfl rfl Kept.start ht rfl
            · have hg : wdGo w b r' = (nmD w 7 dayT, b :: r') := by rw [wdGo, if_neg hneg, if_neg hbn]
              rw [hg]
              refine ⟨rowV (.own st.toks.length) (b :: r'), st.tok1, ?_, .inr ⟨_, rfl, fun i hi => by cases hi; simp [St.tok1]⟩, .inr rfl⟩
              refine call_of_W prog_286 ?_
              unfold F_date_weekday; dsimp only
              obtain ⟨i, T, q1, q2, q3⟩ := app_row (s := ⟨st.boxes, st.toks, st.loops, st.boxes.length⟩) (w := b) (t := t) (l := r') (by unfold room; omega)
              simp only [St.tok1] at q1
              simp (maxSteps := 1000000) (disch := omega) only [len_row, e2, e3, i0, i1, hcut, hpre, eq_true hv, hs, slc_row, hday, hneg, hbn, lit_s, freshT, q1, qaaz, qabz, qacz, qadz, qaez, qafz, qagz, qahz, qaiz, qajz, qakz, qalz, qamz, qanz, evOp, qaoz, qapz, qaqz, qarz, qasz, qatz, qauz, qavz,
 ↓reduceIte, Nat.reduceEqDiff, List.nil_append, List.cons_append, List.append_nil, List.map_cons, List.map_nil, qawz, qaxz, qayz, Option.map_some, Option.map_none, qazz, qbaz, qbbz, qbcz, qbdz, qbez, qbfz, qbgz, qbhz, qbiz, qbjz, qbkz, qblz, qbmz, qbnz, qboz,
 qbpz, qbqz, qbrz, qbsz, qbtz, qbuz, qbvz, qbwz, qbxz, qbyz, qbzz, qcaz, qcbz, qccz, qcdz, qcez, qcfz, qcgz, qchz, qciz, beq_true, beq_false, Bool.not_eq_true', decide_eq_true_eq, decide_eq_false_iff_not, decide_true, decide_false,
 Int.toNat_natCast, Int.ofNat_lt, Int.ofNat_le, Int.natCast_inj, Bool.false_eq_true, Bool.true_eq_false, qcjz, List.getElem?_cons_zero, List.getElem?_cons_succ, qckz, Int.reduceToNat, Int.reduceLE, true_and, and_true, reduceCtorEq, or_false, false_or, or_true, Option.some.injEq, exists_eq_left', Bool.not_true, Bool.not_false, ne_eq, Int.reduceEq, not_true_eq_false, not_false_eq_true, Int.reduceLT, UInt8.reduceLT, UInt8.reduceLE, UInt8.reduceToNat]
              exact retIown rfl rfl Kept.start.toks q2 q3 rfl
        · have hD : wdD (w :: v :: r') = (-1, w :: v :: r') := by unfold wdD; dsimp only; rw [if_neg hc, if_neg hv]
          rw [hD]
          refine ⟨rowV t (w :: v :: r'), st, ?_, .inr ⟨t, rfl, ht⟩, .inl rfl⟩
          refine call_of_W prog_286 ?_
          unfold F_date_weekday; dsimp only
          simp (maxSteps := 1000000) (disch := omega) only [len_row, e2, e3, i0, i1, hcut, hpre, eq_false hv, qaaz, qabz, qacz, qadz, qaez, qafz, qagz, qahz, qaiz, qajz, qakz, qalz, qamz, qanz, evOp, qaoz, qapz, qaqz, qarz, qasz, qatz, qauz, qavz,
 ↓reduceIte, Nat.reduceEqDiff, List.nil_append, List.cons_append, List.append_nil, List.map_cons, List.map_nil, qawz, qaxz, qayz, Option.map_some, Option.map_none, qazz, qbaz, qbbz, qbcz, qbdz, qbez, qbfz, qbgz, qbhz, qbiz, qbjz, qbkz, qblz, qbmz, qbnz, qboz,
 qbpz, qbqz, qbrz, qbsz, qbtz, qbuz, qbvz, qbwz, qbxz, qbyz, qbzz, qcaz, qcbz, qccz, qcdz, qcez, qcfz, qcgz, qchz, qciz, beq_true, beq_false, Bool.not_eq_true', decide_eq_true_eq, decide_eq_false_iff_not, decide_true, decide_false,
 Int.toNat_natCast, Int.ofNat_lt, Int.ofNat_le, Int.natCast_inj, Bool.false_eq_true, Bool.true_eq_false, qcjz, List.getElem?_cons_zero, List.getElem?_cons_succ, qckz, Int.reduceToNat, Int.reduceLE, true_and, and_true, reduceCtorEq, or_false, false_or, or_true, Option.some.injEq, exists_eq_left', Bool.not_true, Bool.not_false, ne_eq, Int.reduceEq, not_true_eq_false, not_false_eq_true, Int.reduceLT, UInt8.reduceLT, UInt8.reduceLE, UInt8.reduceToNat]
          exact retIrow rfl rfl Kept.start ht rfl
end Go.Ab

/-
  Dates are read: the whole, walked.
-/
namespace Go.Ab
set_option linter.unusedVariables false
set_option linter.unusedSimpArgs false
set_option maxRecDepth 20000
variable {st s : St} {e : Env}

theorem bareD_len : ∀ (n : Nat) (s : Bs), (bareD n s).length ≤ s.length := by
  intro n
  induction n with
  | zero => intro s; simp [bareD]
  | succ n ih =>
    intro s
    rw [bareD]
    by_cases h1 : Lib.index s [40] < 0
    · rw [if_pos h1]; exact Nat.le_refl _
    · rw [if_neg h1]
      have r1 := index_room' s [40] (by omega)
      simp only [List.length_cons, List.length_nil] at r1
      by_cases h2 : Lib.index (s.drop ((Lib.index s [40]).toNat + 1)) [41] < 0
      · rw [if_pos h2]; simp; omega
      · rw [if_neg h2]
        have r2 := index_room' (s.drop ((Lib.index s [40]).toNat + 1)) [41] (by omega)
        simp only [List.length_cons, List.length_nil, List.length_drop] at r2
        have := ih ((s.drop ((Lib.index s [40]).toNat + 1)).drop ((Lib.index (s.drop ((Lib.index s [40]).toNat + 1)) [41]).toNat + 1))
        simp only [List.length_drop, List.length_append, List.length_take, List.length_cons] at this ⊢
        omega
theorem words_len : ∀ (s acc : Bs), (∀ w ∈ wordsG s acc, w.length ≤ acc.length + s.length) ∧ (wordsG s acc).length ≤ s.length + 1
  | [], acc => by
    rw [wordsG]
    split
    · simp
    · simp
  | c :: s, acc => by
    rw [wordsG]
    have i0 := words_len s []
    have i1 := words_len s (acc ++ [c])
    simp only [List.length_nil, Nat.zero_add, List.length_append, List.length_cons] at i0 i1 ⊢
    split
    · split
      · exact ⟨fun w hw => by have := i0.1 w hw; omega, by omega⟩
      · refine ⟨fun w hw => ?_, by simp; omega⟩
        rcases List.mem_cons.1 hw with rfl | hw
        · omega
        · have := i0.1 w hw; omega
    · exact ⟨fun w hw => by have := i1.1 w hw; omega, by omega⟩
theorem wdGo_len {a b : Bs} {r : List Bs} {n : Nat} (hb : b.length ≤ n) (hr : ∀ w ∈ r, w.length ≤ n) : (∀ w ∈ (wdGo a b r).2, w.length ≤ n) ∧ (wdGo a b r).2.length ≤ r.length + 1 := by
  unfold wdGo
  split
  · simp
  · split
    · exact ⟨hr, by simp⟩
    · refine ⟨fun w hw => ?_, by simp⟩
      rcases List.mem_cons.1 hw with rfl | hw
      · exact hb
      · exact hr w hw
theorem wd_len {l : List Bs} {n : Nat} (h : ∀ w ∈ l, w.length ≤ n) : (∀ w ∈ (wdD l).2, w.length ≤ n) ∧ (wdD l).2.length ≤ l.length := by
  match l, h with
  | [], _ => simp [wdD]
  | w :: r, h =>
    have hw := h w (by simp)
    have hr : ∀ v ∈ r, v.length ≤ n := fun v hv => h v (by simp [hv])
    unfold wdD
    dsimp only
    split
    · have := wdGo_len (a := w.take (Lib.index w [44]).toNat) (b := w.drop ((Lib.index w [44]).toNat + 1)) (n := n) (by simp; omega) hr
      exact ⟨this.1, by simpa using this.2⟩
    · cases r with
      | nil => exact ⟨h, Nat.le_refl _⟩
      | cons v r' =>
        dsimp only
        split
        · have := wdGo_len (a := w) (b := v.drop 1) (r := r') (n := n) (by have := hr v (by simp); simp; omega) (fun x hx => hr x (by simp [hx]))
          exact ⟨this.1, Nat.le_trans this.2 (by simp)⟩
        · exact ⟨h, Nat.le_refl _⟩
theorem days_bound (y m d : Int) : 0 ≤ (daysD y m d).1 ∧ (daysD y m d).1 ≤ 2932896 := by
  unfold daysD
  split
  · rename_i h
    have hci : Ci (befY y.toNat + cumY y.toNat m.toNat + d.toNat - 1) y.toNat m.toNat d.toNat := ⟨by omega, by omega, by omega, by omega, by omega, by omega, by omega⟩
    have := ci_le hci
    simp only
    omega
  · simp
theorem clk_bound (s : Bs) : -1 ≤ clkD s ∧ clkD s < 86400 := by
  unfold clkD
  split
  · omega
  · unfold hmsD
    split
    · omega
    · omega
theorem zone_bound (s : Bs) : -100000000 ≤ (zoneD s).1 ∧ (zoneD s).1 ≤ 100000000 := by
  unfold zoneD
  split
  · rename_i q hq
    have hm := List.mem_of_find?_eq_some hq
    have : ∀ q ∈ zoneTab, (-100000 : Int) ≤ q.2 ∧ q.2 ≤ 100000 := by decide
    have := this q hm
    simp only; omega
  · unfold zoneN
    split
    · simp
    · have h1 := digD_bound (s := (s.take 3).drop 1) (a := 2) (b := 2) (by omega)
      have h2 := digD_bound (s := s.drop 3) (a := 2) (b := 2) (by omega)
      simp only
      split <;> omega

/-- The state while words are gathered. -/
def dst (st : St) (d : PV) (B : Bs) (ts : List Bool) (lo : Nat) (rc : List LoopS) : St := ⟨st.boxes ++ [[d], [.str B]], st.toks ++ ts, st.loops ++ rc, lo⟩
variable {d d' : PV} {B : Bs} {ts : List Bool} {lo : Nat} {rc : List LoopS}
theorem dst_ld : loadPV (dst st d B ts lo rc) false 1 (.ptr st.boxes.length 0) = some d := by simp [loadPV, dst, readCells]
theorem dst_st (h1 : d'.cells = [d']) (h2 : leafOk d' = true) (h3 : ∀ n, d'.inB n = true) : storePV (dst st d B ts lo rc) 1 (.ptr st.boxes.length 0) d' = some (dst st d' B ts (if hasTok [d'] then min lo st.boxes.length else lo) rc) := by
  simp [storePV, dst, h1, h2, h3, setCells]
theorem lc1 {v : PV} : loadcPV false 1 (.cp [v]) = some v := rfl
theorem kept_dst : Kept st (dst st d B ts st.boxes.length []) := ⟨by simp [dst], by simp [dst], by simp [dst], by simp [dst]⟩
theorem retIII {a b c : Nat} {t u v t' u' v' : Int} (ha : e a = .int .i64 t) (hb : e b = .int .i64 u) (hc : e c = .int .i64 v) (hk : Kept st s) (h1 : t = t') (h2 : u = u') (h3 : v = v') :
    ∃ rv, resOf e s [.tmp a, .tmp b, .tmp c] = some rv ∧ leave st s rv = (.tup [.int .i64 t', .int .i64 u', .int .i64 v'], st) := by
  subst h1 h2 h3
  exact ⟨.tup [.int .i64 t, .int .i64 u, .int .i64 v], by simp [resOf, rvAll, rv1, ha, hb, hc, packRes, notTup], hk.leave' ⟨fun _ => rfl, fun _ _ => rfl⟩⟩
theorem tok_row {t : Tok} {l : List Bs} : (rowV t l).cells = [rowV t l] ∧ leafOk (rowV t l) = true ∧ ∀ n, (rowV t l).inB n = true := ⟨rfl, rfl, fun _ => rfl⟩

theorem weekday_nil : call prog (.fn 286 []) [.nils] st = some (.tup [.int .i64 (-2), .nils], st) := by
  refine call_of_W prog_286 ?_
  unfold F_date_weekday; dsimp only
  have ln : lenPV false .nils = some (.int .i64 0) := rfl
  simp (maxSteps := 1000000) (disch := omega) only [ln, qaaz, qabz, qacz, qadz, qaez, qafz, qagz, qahz, qaiz, qajz, qakz, qalz, qamz, qanz, evOp, qaoz, qapz, qaqz, qarz, qasz, qatz, qauz, qavz,
 ↓reduceIte, Nat.reduceEqDiff, List.nil_append, List.cons_append, List.append_nil, List.map_cons, List.map_nil, qawz, qaxz, qayz, Option.map_some, Option.map_none, qazz, qbaz, qbbz, qbcz, qbdz, qbez, qbfz, qbgz, qbhz, qbiz, qbjz, qbkz, qblz, qbmz, qbnz, qboz,
 qbpz, qbqz, qbrz, qbsz, qbtz, qbuz, qbvz, qbwz, qbxz, qbyz, qbzz, qcaz, qcbz, qccz, qcdz, qcez, qcfz, qcgz, qchz, qciz, beq_true, beq_false, Bool.not_eq_true', decide_eq_true_eq, decide_eq_false_iff_not, decide_true, decide_false,
 Int.toNat_natCast, Int.ofNat_lt, Int.ofNat_le, Int.natCast_inj, Bool.false_eq_true, Bool.true_eq_false, qcjz, List.getElem?_cons_zero, List.getElem?_cons_succ, qckz, Int.reduceToNat, Int.reduceLE, true_and, and_true, reduceCtorEq, or_false, false_or, or_true, Option.some.injEq, exists_eq_left', Bool.not_true, Bool.not_false, ne_eq, Int.reduceEq, not_true_eq_false, not_false_eq_true, Int.reduceLT, UInt8.reduceLT, UInt8.reduceLE, UInt8.reduceToNat]
  exact retInils rfl rfl Kept.start rfl

set_option maxHeartbeats 8000000 in
theorem dParse_spec {l : Bs} (hl : l.length ≤ 100000) : call prog (.fn 262 []) [.str l] st = some (.tup [.int .i64 (parseD l).1, .int .i64 (parseD l).2.1, .int .i64 (parseD l).2.2], st) := by
  refine call_of_W prog_262 ?_
  unfold F_date_Parse; dsimp only
  obtain ⟨B, hB⟩ : ∃ B, B = bareT l := ⟨_, rfl⟩
  have hBl : B.length ≤ 100000 := by rw [hB]; exact Nat.le_trans (bareD_len _ _) hl
  obtain ⟨W, hW⟩ : ∃ W, W = wordsG B [] := ⟨_, rfl⟩
  have hWl := words_len B []
  rw [← hW] at hWl
  simp only [List.length_nil, Nat.zero_add] at hWl
  have hbare := fun S : St => bare_spec (st := S) (s := l) (by omega)
  rw [← hB] at hbare
  simp (maxSteps := 1000000) (disch := omega) only [allocPV, hbare, words_spec, List.length_append, List.length_cons, List.length_nil, Nat.zero_add, List.append_assoc, qaaz, qabz, qacz, qadz, qaez, qafz, qagz, qahz, qaiz, qajz, qakz, qalz, qamz, qanz, evOp, qaoz, qapz, qaqz, qarz, qasz, qatz, qauz, qavz,
 ↓reduceIte, Nat.reduceEqDiff, List.nil_append, List.cons_append, List.append_nil, List.map_cons, List.map_nil, qawz, qaxz, qayz, Option.map_some, Option.map_none, qazz, qbaz, qbbz, qbcz, qbdz, qbez, qbfz, qbgz, qbhz, qbiz, qbjz, qbkz, qblz, qbmz, qbnz, qboz,
 qbpz, qbqz, qbrz, qbsz, qbtz, qbuz, qbvz, qbwz, qbxz, qbyz, qbzz, qcaz, qcbz, qccz, qcdz, qcez, qcfz, qcgz, qchz, qciz, beq_true, beq_false, Bool.not_eq_true', decide_eq_true_eq, decide_eq_false_iff_not, decide_true, decide_false,
 Int.toNat_natCast, Int.ofNat_lt, Int.ofNat_le, Int.natCast_inj, Bool.false_eq_true, Bool.true_eq_false, qcjz, List.getElem?_cons_zero, List.getElem?_cons_succ, qckz, Int.reduceToNat, Int.reduceLE, true_and, and_true, reduceCtorEq, or_false, false_or, or_true, Option.some.injEq, exists_eq_left', Bool.not_true, Bool.not_false, ne_eq, Int.reduceEq, not_true_eq_false, not_false_eq_true, Int.reduceLT, UInt8.reduceLT, UInt8.reduceLE, UInt8.reduceToNat]
  refine W_rangeFunc (fid := 310) (caps := [.ptr (st.boxes.length + 1) 0]) rfl prog_310 ?_
  generalize hrec : recOf _ _ _ _ = rec
  have hra := congrArg LoopS.assign hrec.symm
  have hrb := congrArg LoopS.body hrec.symm
  dsimp only [recOf] at hra hrb
  have r0 : rec.status = 0 := by rw [← hrec]; rfl
  have r1 : rec.pend = .normal := by rw [← hrec]; rfl
  have r2 : rec.params = [23] := by rw [← hrec]; rfl
  have r3 : rec.env 5 = .ptr st.boxes.length 0 := by rw [← hrec]; rfl
  have r5 : rec = { rec with status := 0, pend := .normal } := by rw [← hrec]; rfl
  obtain ⟨P, hP⟩ : ∃ P : List Bs → St → Prop, P = fun r s => ∃ ts d lo xs, s = dst st d B ts lo [rec] ∧ W = xs ++ r ∧ (d = .nils ∧ xs = [] ∨ ∃ i, d = rowV (.own i) xs ∧ st.toks.length ≤ i ∧ (st.toks ++ ts)[i]? = some true ∧ lo ≤ st.boxes.length) ∧ st.boxes.length ≤ lo := ⟨_, rfl⟩
  have hasg : ∀ (v : PV) (S : St), ex prog rec.assign (updAll rec.env rec.params [v]) S = some (.normal, upd (upd rec.env 23 v) 6 v, S) := fun v S => by
    refine ex_of_W ?_
    simp (maxSteps := 1000000) (disch := omega) only [hra, r2, updAll, qaaz, qabz, qacz, qadz, qaez, qafz, qagz, qahz, qaiz, qajz, qakz, qalz, qamz, qanz, evOp, qaoz, qapz, qaqz, qarz, qasz, qatz, qauz, qavz,
 ↓reduceIte, Nat.reduceEqDiff, List.nil_append, List.cons_append, List.append_nil, List.map_cons, List.map_nil, qawz, qaxz, qayz, Option.map_some, Option.map_none, qazz, qbaz, qbbz, qbcz, qbdz, qbez, qbfz, qbgz, qbhz, qbiz, qbjz, qbkz, qblz, qbmz, qbnz, qboz,
 qbpz, qbqz, qbrz, qbsz, qbtz, qbuz, qbvz, qbwz, qbxz, qbyz, qbzz, qcaz, qcbz, qccz, qcdz, qcez, qcfz, qcgz, qchz, qciz, beq_true, beq_false, Bool.not_eq_true', decide_eq_true_eq, decide_eq_false_iff_not, decide_true, decide_false,
 Int.toNat_natCast, Int.ofNat_lt, Int.ofNat_le, Int.natCast_inj, Bool.false_eq_true, Bool.true_eq_false, qcjz, List.getElem?_cons_zero, List.getElem?_cons_succ, qckz, Int.reduceToNat, Int.reduceLE, true_and, and_true, reduceCtorEq, or_false, false_or, or_true, Option.some.injEq, exists_eq_left', Bool.not_true, Bool.not_false, ne_eq, Int.reduceEq, not_true_eq_false, not_false_eq_true, Int.reduceLT, UInt8.reduceLT, UInt8.reduceLE, UInt8.reduceToNat]
  obtain ⟨s1, hs1, hcall⟩ := words_iter (st := ⟨st.boxes ++ [[.nils], [.str B]], st.toks, st.loops ++ [rec], min st.boxes.length (st.boxes.length + 1)⟩) (l := B) (by omega) (b := st.boxes.length + 1) (k := st.loops.length) (P := P) (D := P [])
    (fun r s h => by rw [hP] at h; obtain ⟨ts, d, lo, xs, rfl, _⟩ := h; simp [dst])
    (fun w r s h => by
      rw [hP] at h
      obtain ⟨ts, d, lo, xs, rfl, h1, h2, h3⟩ := h
      have hxl : xs.length + 1 ≤ 100001 := by
        have := congrArg List.length h1
        have := hWl.2
        simp at *; omega
      have key : ∃ b s', call prog (.yld st.loops.length) [.str w] (dst st d B ts lo [rec]) = some (.bool b, s') ∧ (b = true ∧ P r s') := by
        refine yld_of_W (r := rec) (K := fun b s' => b = true ∧ P r s') (args := [.str w]) (by simp [dst]) r0 (by rw [r2]; rfl) (hasg _ _) ?_
        obtain ⟨rec1, hrec1⟩ : ∃ r, r = ({ rec with status := 1 } : LoopS) := ⟨_, rfl⟩
        have hset : ({ dst st d B ts lo [rec] with loops := (dst st d B ts lo [rec]).loops.set st.loops.length { rec with status := 1 } } : St) = dst st d B ts lo [rec1] := by
          rw [← hrec1]; simp [dst]
        rw [hset, hrb]
        -- the word behind the row
        obtain ⟨i, ts', ha, hi1, hi2⟩ : ∃ i ts', appV 1 ⟨(dst st d B ts lo [rec1]).boxes, (dst st d B ts lo [rec1]).toks ++ [true], (dst st d B ts lo [rec1]).loops, (dst st d B ts lo [rec1]).low⟩ d (.sl 1 (.own (st.toks ++ ts).length) [.str w]) = some (rowV (.own i) (xs ++ [w]), dst st d B ts' lo [rec1]) ∧ st.toks.length ≤ i ∧ (st.toks ++ ts')[i]? = some true := by
          rcases h2 with ⟨rfl, rfl⟩ | ⟨i, rfl, hi1, hi2, hi3⟩
          · refine ⟨st.toks.length + (ts.length + 1), ts ++ [true, true], ?_, by omega, by rw [get_app, get_app]; rfl⟩
            simp [appV, srcV, freshT, dst, rowV, room]
          · have hlt : i < (st.toks ++ ts).length := (List.getElem?_eq_some_iff.1 hi2).1
            have hg : (st.toks ++ ts ++ [true])[i]? = some true := by rw [List.getElem?_append_left hlt]; exact hi2
            refine ⟨st.toks.length + (ts.length + 1), (ts ++ [true]).set (i - st.toks.length) false ++ [true], ?_, by omega, ?_⟩
            · have hs : (st.toks ++ (ts ++ [true])).set i false = st.toks ++ (ts ++ [true]).set (i - st.toks.length) false := by
                rw [List.set_append_right _ _ hi1]
              have hr : xs.length + 1 ≤ room := by unfold room; omega
              have hg2 : (st.toks ++ (ts ++ [true]))[i]? = some true := by rw [← List.append_assoc]; exact hg
              simp [appV, srcV, rowV, appTok, freshT, dst, hg2, hs, hr, List.append_assoc]
            · have hsl : ((ts ++ [true]).set (i - st.toks.length) false).length = ts.length + 1 := by simp
              rw [get_app, ← hsl]
              exact get_app0
        have hlo : min lo st.boxes.length = st.boxes.length := by omega
        have hst : storePV (dst st d B ts' lo [rec1]) 1 (.ptr st.boxes.length 0) (rowV (.own i) (xs ++ [w])) = some (dst st (rowV (.own i) (xs ++ [w])) B ts' st.boxes.length [rec1]) := by
          rw [dst_st tok_row.1 tok_row.2.1 tok_row.2.2]
          simp [hasTok, rowV, tokOf, hlo]
        have htl : (dst st d B ts lo [rec1]).toks.length = (st.toks ++ ts).length := rfl
        simp (maxSteps := 1000000) (disch := omega) only [r3, dst_ld, lit_s, freshT, htl, ha, hst, qaaz, qabz, qacz, qadz, qaez, qafz, qagz, qahz, qaiz, qajz, qakz, qalz, qamz, qanz, evOp, qaoz, qapz, qaqz, qarz, qasz, qatz, qauz, qavz,
 ↓reduceIte, Nat.reduceEqDiff, List.nil_append, List.cons_append, List.append_nil, List.map_cons, List.map_nil, qawz, qaxz, qayz, Option.map_some, Option.map_none, qazz, qbaz, qbbz, qbcz, qbdz, qbez, qbfz, qbgz, qbhz, qbiz, qbjz, qbkz, qblz, qbmz, qbnz, qboz,
 qbpz, qbqz, qbrz, qbsz, qbtz, qbuz, qbvz, qbwz, qbxz, qbyz, qbzz, qcaz, qcbz, qccz, qcdz, qcez, qcfz, qcgz, qchz, qciz, beq_true, beq_false, Bool.not_eq_true', decide_eq_true_eq, decide_eq_false_iff_not, decide_true, decide_false,
 Int.toNat_natCast, Int.ofNat_lt, Int.ofNat_le, Int.natCast_inj, Bool.false_eq_true, Bool.true_eq_false, qcjz, List.getElem?_cons_zero, List.getElem?_cons_succ, qckz, Int.reduceToNat, Int.reduceLE, true_and, and_true, reduceCtorEq, or_false, false_or, or_true, Option.some.injEq, exists_eq_left', Bool.not_true, Bool.not_false, ne_eq, Int.reduceEq, not_true_eq_false, not_false_eq_true, Int.reduceLT, UInt8.reduceLT, UInt8.reduceLE, UInt8.reduceToNat]
        refine ⟨rec1, by simp [dst], rfl, ?_⟩
        rw [hP]
        refine ⟨ts', rowV (.own i) (xs ++ [w]), st.boxes.length, xs ++ [w], ?_, by rw [h1]; simp, .inr ⟨i, rfl, hi1, hi2, Nat.le_refl _⟩, Nat.le_refl _⟩
        simp only [dst, hrec1]
        simp
        rw [← r0, ← r1]
      obtain ⟨b, s', c1, rfl, c2⟩ := key
      exact ⟨s', c1, c2⟩)
    (fun s h => h)
    (by
      rw [hP]
      exact ⟨[], .nils, st.boxes.length + 2, [], by simp [dst], by simp [hW], .inl ⟨rfl, rfl⟩, by omega⟩)
  rw [hP] at hs1
  obtain ⟨ts, d, lo, xs, rfl, hx1, hx2, hlo⟩ := hs1
  rw [List.append_nil] at hx1
  subst hx1
  have hmin : min st.boxes.length (st.boxes.length + 1) = st.boxes.length := by omega
  rw [hmin] at hcall ⊢
  have hleave : ∃ ts2, leave ⟨st.boxes ++ [[.nils], [.str B]], st.toks, st.loops ++ [rec], st.boxes.length⟩ (dst st d B ts lo [rec]) (.tup []) = (.tup [], dst st d B ts2 st.boxes.length [rec]) ∧ (ts2 = ts ∨ (ts2 = [] ∧ st.boxes.length + 2 ≤ lo)) := by
    by_cases h6 : st.boxes.length + 2 ≤ lo
    · refine ⟨[], ?_, .inr ⟨rfl, h6⟩⟩
      simp [leave, dst, PV.inB, PV.inB.inBAll, keepRes, keepVals, h6]
      exact List.take_of_length_le (by simp)
    · refine ⟨ts, ?_, .inl rfl⟩
      have hm : min st.boxes.length lo = st.boxes.length := by omega
      simp [leave, dst, PV.inB, PV.inB.inBAll, h6, hm]
      exact List.take_of_length_le (by simp)
  obtain ⟨ts2, hleave, hts2⟩ := hleave
  rw [hleave] at hcall
  refine ⟨_, _, rec, hcall, by simp [dst], (by rw [r0]; decide), ?_⟩
  have hlp : ({ dst st d B ts2 st.boxes.length [rec] with loops := (dst st d B ts2 st.boxes.length [rec]).loops.take st.loops.length } : St) = dst st d B ts2 st.boxes.length [] := by simp [dst]
  rw [hlp, r1]
  -- the day's name
  obtain ⟨wd, hwd⟩ : ∃ wd, wd = (wdD W).1 := ⟨_, rfl⟩
  obtain ⟨L, hL⟩ : ∃ L, L = (wdD W).2 := ⟨_, rfl⟩
  have hLl := wd_len (l := W) (n := 100000) (fun w hw => by have := hWl.1 w hw; omega)
  rw [← hL] at hLl
  have hres : parseD l = lstD wd L := by unfold parseD; rw [← hB, ← hW, ← hwd, ← hL]
  rw [hres]
  have hwk : ∃ ts3 y, call prog (.fn 286 []) [d] (dst st d B ts2 st.boxes.length []) = some (.tup [.int .i64 wd, y], dst st d B ts3 st.boxes.length []) ∧ (y = .nils ∧ L = [] ∨ ∃ u, y = rowV u L) := by
    rcases hx2 with ⟨rfl, h0⟩ | ⟨i, rfl, hi1, hi2, hi3⟩
    · rw [h0] at hwd hL
      rw [hwd, hL]
      exact ⟨ts2, .nils, weekday_nil, .inl ⟨rfl, rfl⟩⟩
    · have hts : ts2 = ts := by
        rcases hts2 with h | ⟨_, h⟩
        · exact h
        · omega
      subst hts
      obtain ⟨y, s', q1, q2, q3⟩ := weekday_spec (st := dst st (rowV (.own i) W) B ts2 st.boxes.length []) (t := .own i) (l := W) (fun j hj => by cases hj; exact (List.getElem?_eq_some_iff.1 hi2).1) (fun w hw => by have := hWl.1 w hw; omega) (by omega)
      rw [← hwd] at q1
      rw [← hL] at q2
      have q2' : y = .nils ∧ L = [] ∨ ∃ u, y = rowV u L := by
        rcases q2 with h | ⟨u, h, _⟩
        · exact .inl h
        · exact .inr ⟨u, h⟩
      rcases q3 with rfl | rfl
      · exact ⟨ts2, y, q1, q2'⟩
      · exact ⟨ts2 ++ [true], y, by rw [q1]; simp [St.tok1, dst], q2'⟩
  obtain ⟨ts3, y, hwk, hy⟩ := hwk
  have hst : storePV (dst st d B ts3 st.boxes.length []) 1 (.ptr st.boxes.length 0) y = some (dst st y B ts3 st.boxes.length []) := by
    have h1 : y.cells = [y] ∧ leafOk y = true ∧ ∀ n, y.inB n = true := by
      rcases hy with ⟨rfl, _⟩ | ⟨u, rfl⟩
      · exact ⟨rfl, rfl, fun _ => rfl⟩
      · exact tok_row
    rw [dst_st h1.1 h1.2.1 h1.2.2]
    split <;> simp
  have hlen : lenPV false y = some (.int .i64 (L.length : Int)) := by
    rcases hy with ⟨rfl, rfl⟩ | ⟨u, rfl⟩
    · rfl
    · exact len_row
  have hfin : ∀ E : Env, E 2 = .int .i64 0 → E 3 = .int .i64 0 → E 4 = .int .i64 110 → lstD wd L = (0, 0, 110) → ∃ rv, resOf E (dst st y B ts3 st.boxes.length []) [.tmp 2, .tmp 3, .tmp 4] = some rv ∧ leave st (dst st y B ts3 st.boxes.length []) rv = (.tup [.int .i64 (lstD wd L).1, .int .i64 (lstD wd L).2.1, .int .i64 (lstD wd L).2.2], st) := fun E h2 h3 h4 h => by
    rw [h]
    exact retIII h2 h3 h4 kept_dst rfl rfl rfl
  by_cases c1 : wd = -2
  · have hbad : lstD wd L = (0, 0, 110) := by unfold lstD; rw [if_pos (.inl c1)]
    simp (maxSteps := 1000000) (disch := omega) only [r3, dst_ld, hwk, hst, hlen, eq_true c1, qaaz, qabz, qacz, qadz, qaez, qafz, qagz, qahz, qaiz, qajz, qakz, qalz, qamz, qanz, evOp, qaoz, qapz, qaqz, qarz, qasz, qatz, qauz, qavz,
 ↓reduceIte, Nat.reduceEqDiff, List.nil_append, List.cons_append, List.append_nil, List.map_cons, List.map_nil, qawz, qaxz, qayz, Option.map_some, Option.map_none, qazz, qbaz, qbbz, qbcz, qbdz, qbez, qbfz, qbgz, qbhz, qbiz, qbjz, qbkz, qblz, qbmz, qbnz, qboz,
 qbpz, qbqz, qbrz, qbsz, qbtz, qbuz, qbvz, qbwz, qbxz, qbyz, qbzz, qcaz, qcbz, qccz, qcdz, qcez, qcfz, qcgz, qchz, qciz, beq_true, beq_false, Bool.not_eq_true', decide_eq_true_eq, decide_eq_false_iff_not, decide_true, decide_false,
 Int.toNat_natCast, Int.ofNat_lt, Int.ofNat_le, Int.natCast_inj, Bool.false_eq_true, Bool.true_eq_false, qcjz, List.getElem?_cons_zero, List.getElem?_cons_succ, qckz, Int.reduceToNat, Int.reduceLE, true_and, and_true, reduceCtorEq, or_false, false_or, or_true, Option.some.injEq, exists_eq_left', Bool.not_true, Bool.not_false, ne_eq, Int.reduceEq, not_true_eq_false, not_false_eq_true, Int.reduceLT, UInt8.reduceLT, UInt8.reduceLE, UInt8.reduceToNat]
    exact hfin _ rfl rfl rfl hbad
  by_cases c2 : L.length < 4
  · have hbad : lstD wd L = (0, 0, 110) := by unfold lstD; rw [if_pos (.inr (.inl c2))]
    have e2 : (L.length : Int) < 4 := by omega
    simp (maxSteps := 1000000) (disch := omega) only [r3, dst_ld, hwk, hst, hlen, c1, e2, qaaz, qabz, qacz, qadz, qaez, qafz, qagz, qahz, qaiz, qajz, qakz, qalz, qamz, qanz, evOp, qaoz, qapz, qaqz, qarz, qasz, qatz, qauz, qavz,
 ↓reduceIte, Nat.reduceEqDiff, List.nil_append, List.cons_append, List.append_nil, List.map_cons, List.map_nil, qawz, qaxz, qayz, Option.map_some, Option.map_none, qazz, qbaz, qbbz, qbcz, qbdz, qbez, qbfz, qbgz, qbhz, qbiz, qbjz, qbkz, qblz, qbmz, qbnz, qboz,
 qbpz, qbqz, qbrz, qbsz, qbtz, qbuz, qbvz, qbwz, qbxz, qbyz, qbzz, qcaz, qcbz, qccz, qcdz, qcez, qcfz, qcgz, qchz, qciz, beq_true, beq_false, Bool.not_eq_true', decide_eq_true_eq, decide_eq_false_iff_not, decide_true, decide_false,
 Int.toNat_natCast, Int.ofNat_lt, Int.ofNat_le, Int.natCast_inj, Bool.false_eq_true, Bool.true_eq_false, qcjz, List.getElem?_cons_zero, List.getElem?_cons_succ, qckz, Int.reduceToNat, Int.reduceLE, true_and, and_true, reduceCtorEq, or_false, false_or, or_true, Option.some.injEq, exists_eq_left', Bool.not_true, Bool.not_false, ne_eq, Int.reduceEq, not_true_eq_false, not_false_eq_true, Int.reduceLT, UInt8.reduceLT, UInt8.reduceLE, UInt8.reduceToNat]
    exact hfin _ rfl rfl rfl hbad
  by_cases c3 : 5 < L.length
  · have hbad : lstD wd L = (0, 0, 110) := by unfold lstD; rw [if_pos (.inr (.inr c3))]
    have e2 : ¬ (L.length : Int) < 4 := by omega
    have e3 : (5 : Int) < (L.length : Int) := by omega
    simp (maxSteps := 1000000) (disch := omega) only [r3, dst_ld, hwk, hst, hlen, c1, e2, e3, qaaz, qabz, qacz, qadz, qaez, qafz, qagz, qahz, qaiz, qajz, qakz, qalz, qamz, qanz, evOp, qaoz, qapz, qaqz, qarz, qasz, qatz, qauz, qavz,
 ↓reduceIte, Nat.reduceEqDiff, List.nil_append, List.cons_append, List.append_nil, List.map_cons, List.map_nil, qawz, qaxz, qayz, Option.map_some, Option.map_none, qazz, qbaz, qbbz, qbcz, qbdz, qbez, qbfz, qbgz, qbhz, qbiz, qbjz, qbkz, qblz, qbmz, qbnz, qboz,
 qbpz, qbqz, qbrz, qbsz, qbtz, qbuz, qbvz, qbwz, qbxz, qbyz, qbzz, qcaz, qcbz, qccz, qcdz, qcez, qcfz, qcgz, qchz, qciz, beq_true, beq_false, Bool.not_eq_true', decide_eq_true_eq, decide_eq_false_iff_not, decide_true, decide_false,
 Int.toNat_natCast, Int.ofNat_lt, Int.ofNat_le, Int.natCast_inj, Bool.false_eq_true, Bool.true_eq_false, qcjz, List.getElem?_cons_zero, List.getElem?_cons_succ, qckz, Int.reduceToNat, Int.reduceLE, true_and, and_true, reduceCtorEq, or_false, false_or, or_true, Option.some.injEq, exists_eq_left', Bool.not_true, Bool.not_false, ne_eq, Int.reduceEq, not_true_eq_false, not_false_eq_true, Int.reduceLT, UInt8.reduceLT, UInt8.reduceLE, UInt8.reduceToNat]
    exact hfin _ rfl rfl rfl hbad
  have e2 : ¬ (L.length : Int) < 4 := by omega
  have e3 : ¬ (5 : Int) < (L.length : Int) := by omega
  obtain ⟨u, rfl⟩ : ∃ u, y = rowV u L := by
    rcases hy with ⟨_, rfl⟩ | h
    · simp at c2
    · exact h
  have i0 : iaddrPV 1 (rowV u L) (.int .i64 0) = some (.cp [.str (L.getD 0 [])]) := iaddr_t rowV_vs (by omega) (by simp; omega)
  have i1 : iaddrPV 1 (rowV u L) (.int .i64 1) = some (.cp [.str (L.getD 1 [])]) := iaddr_t rowV_vs (by omega) (by simp; omega)
  have i2 : iaddrPV 1 (rowV u L) (.int .i64 2) = some (.cp [.str (L.getD 2 [])]) := iaddr_t rowV_vs (by omega) (by simp; omega)
  have i3 : iaddrPV 1 (rowV u L) (.int .i64 3) = some (.cp [.str (L.getD 3 [])]) := iaddr_t rowV_vs (by omega) (by simp; omega)
  have hget : ∀ k, (L.getD k []).length ≤ 100000 := fun k => by
    rcases Nat.lt_or_ge k L.length with h | h
    · have : L.getD k [] = L[k] := by simp [List.getD, h]
      rw [this]; exact hLl.1 _ (List.getElem_mem h)
    · simp [List.getD, h]
  have hl0 : lstD wd L = finD wd (daysD (yrD (L.getD 2 [])) (nmD (L.getD 1 []) 13 monT) (digD (L.getD 0 []) 1 2)) (clkD (L.getD 3 [])) (zoneD (L.getD 4 [])) := by
    unfold lstD; rw [if_neg (by omega)]
  rw [hl0] at hfin ⊢
  have k0 : ∀ S : St, call prog (.fn 287 []) [.str (L.getD 0 []), .int .i64 1, .int .i64 2] S = some (.int .i64 (digD (L.getD 0 []) 1 2), S) := fun S => digits_spec (st := S) (l := L.getD 0 []) (least := 1) (most := 2) (by have := hget 0; omega) (by omega) (by omega)
  have k1 := fun S : St => mon_spec (st := S) (l := L.getD 1 []) (by have := hget 1; omega)
  have k2 := fun S : St => year_spec (st := S) (l := L.getD 2 []) (by have := hget 2; omega)
  have k3 := fun S : St => clock_spec (st := S) (l := L.getD 3 []) (by have := hget 3; omega)
  have k4 := fun S : St => zone_spec (st := S) (l := L.getD 4 []) (by have := hget 4; omega)
  have k5 := fun S : St => Days_spec (st := S) (y := yrD (L.getD 2 [])) (m := nmD (L.getD 1 []) 13 monT) (d := digD (L.getD 0 []) 1 2)
  have b3 := clk_bound (L.getD 3 [])
  have b4 := zone_bound (L.getD 4 [])
  have b5 := days_bound (yrD (L.getD 2 [])) (nmD (L.getD 1 []) 13 monT) (digD (L.getD 0 []) 1 2)
  obtain ⟨w4, hw4⟩ : ∃ w, w = L.getD 4 [] := ⟨_, rfl⟩
  rw [← hw4] at k4 b4 hfin ⊢
  obtain ⟨D5, hD5⟩ : ∃ D, D = daysD (yrD (L.getD 2 [])) (nmD (L.getD 1 []) 13 monT) (digD (L.getD 0 []) 1 2) := ⟨_, rfl⟩
  rw [← hD5] at k5 b5 hfin ⊢
  generalize hv0 : digD (L.getD 0 []) 1 2 = v0 at k0 k5
  generalize hv1 : nmD (L.getD 1 []) 13 monT = v1 at k1 k5
  generalize hv2 : yrD (L.getD 2 []) = v2 at k2 k5
  generalize hv3 : clkD (L.getD 3 []) = v3 at k3 b3 hfin ⊢
  generalize hv4 : zoneD w4 = v4 at k4 b4 hfin ⊢
  obtain ⟨n, e5⟩ := D5
  obtain ⟨z, ok⟩ := v4
  simp only at b4 b5 k4 k5
  have m1 : binPV .mul .no (.int .i64 n) (.int .i64 86400) = some (.int .i64 (n * 86400)) := by
    simp only [binPV, binI, if_true, Option.some.injEq]
    rw [wrap64 (by omega) (by omega)]
  have a1 : binPV .add .no (.int .i64 (n * 86400)) (.int .i64 v3) = some (.int .i64 (n * 86400 + v3)) := add_i (by omega) (by omega)
  have s1 : binPV .sub .no (.int .i64 (n * 86400 + v3)) (.int .i64 z) = some (.int .i64 (n * 86400 + v3 - z)) := sub_i (by omega) (by omega)
  have hR := fun S : St => Right_w (st := S) (t := n * 86400 + v3 - z)
  have hWk := fun S : St => Weekday_spec (st := S) (d := n)
  have hfd : finD wd (n, e5) v3 (z, ok) = (if e5 ≠ 0 ∨ v3 < 0 ∨ ok = false ∨ ¬ (0 ≤ n * 86400 + v3 - z ∧ n * 86400 + v3 - z ≤ 253402300799) then (0, 0, 110) else if 0 ≤ wd ∧ wd ≠ (wkOf n).1 then (0, 0, 110) else (n * 86400 + v3 - z, z, 0)) := rfl
  have bad1 : (e5 ≠ 0 ∨ v3 < 0 ∨ ok = false ∨ ¬ (0 ≤ n * 86400 + v3 - z ∧ n * 86400 + v3 - z ≤ 253402300799)) → finD wd (n, e5) v3 (z, ok) = (0, 0, 110) := fun h => by rw [hfd, if_pos h]
  have bad2 : (¬ (e5 ≠ 0 ∨ v3 < 0 ∨ ok = false ∨ ¬ (0 ≤ n * 86400 + v3 - z ∧ n * 86400 + v3 - z ≤ 253402300799))) → 0 ≤ wd ∧ wd ≠ (wkOf n).1 → finD wd (n, e5) v3 (z, ok) = (0, 0, 110) := fun h h2 => by rw [hfd, if_neg h, if_pos h2]
  have good : (¬ (e5 ≠ 0 ∨ v3 < 0 ∨ ok = false ∨ ¬ (0 ≤ n * 86400 + v3 - z ∧ n * 86400 + v3 - z ≤ 253402300799))) → ¬ (0 ≤ wd ∧ wd ≠ (wkOf n).1) → finD wd (n, e5) v3 (z, ok) = (n * 86400 + v3 - z, z, 0) := fun h h2 => by rw [hfd, if_neg h, if_neg h2]
  obtain ⟨Q0, hQ0⟩ : ∃ Q0 : Ex → Env → St → Prop, Q0 = endQ st [.tmp 2, .tmp 3, .tmp 4] (.tup [.int .i64 (finD wd (n, e5) v3 (z, ok)).1, .int .i64 (finD wd (n, e5) v3 (z, ok)).2.1, .int .i64 (finD wd (n, e5) v3 (z, ok)).2.2], st) := ⟨_, rfl⟩
  rw [← hQ0]
  have hend : ∀ E : Env, E 2 = .int .i64 0 → E 3 = .int .i64 0 → E 4 = .int .i64 110 → finD wd (n, e5) v3 (z, ok) = (0, 0, 110) → Q0 .ret E (dst st (rowV u L) B ts3 st.boxes.length []) := fun E h2 h3 h4 h => by
    rw [hQ0, qblz]; exact hfin E h2 h3 h4 h
  have hgood : ∀ E : Env, E 2 = .int .i64 (n * 86400 + v3 - z) → E 3 = .int .i64 z → E 4 = .int .i64 0 → finD wd (n, e5) v3 (z, ok) = (n * 86400 + v3 - z, z, 0) → Q0 .ret E (dst st (rowV u L) B ts3 st.boxes.length []) := fun E h2 h3 h4 h => by
    rw [hQ0, qblz, h]; exact retIII h2 h3 h4 kept_dst rfl rfl rfl
  -- which way it ends
  have ways : (e5 ≠ 0) ∨ (e5 = 0 ∧ v3 < 0) ∨ (e5 = 0 ∧ ¬ v3 < 0 ∧ ok = false) ∨ (e5 = 0 ∧ ¬ v3 < 0 ∧ ok = true ∧ ¬ (0 ≤ n * 86400 + v3 - z ∧ n * 86400 + v3 - z ≤ 253402300799)) ∨
      (e5 = 0 ∧ ¬ v3 < 0 ∧ ok = true ∧ (0 ≤ n * 86400 + v3 - z ∧ n * 86400 + v3 - z ≤ 253402300799) ∧ ¬ 0 ≤ wd) ∨
      (e5 = 0 ∧ ¬ v3 < 0 ∧ ok = true ∧ (0 ≤ n * 86400 + v3 - z ∧ n * 86400 + v3 - z ≤ 253402300799) ∧ 0 ≤ wd ∧ (wkOf n).1 = wd) ∨
      (e5 = 0 ∧ ¬ v3 < 0 ∧ ok = true ∧ (0 ≤ n * 86400 + v3 - z ∧ n * 86400 + v3 - z ≤ 253402300799) ∧ 0 ≤ wd ∧ ¬ (wkOf n).1 = wd) := by
    by_cases a : e5 = 0
    · by_cases b : v3 < 0
      · exact .inr (.inl ⟨a, b⟩)
      · cases ok with
        | false => exact .inr (.inr (.inl ⟨a, b, rfl⟩))
        | true =>
          by_cases d : 0 ≤ n * 86400 + v3 - z ∧ n * 86400 + v3 - z ≤ 253402300799
          · by_cases f : 0 ≤ wd
            · by_cases g : (wkOf n).1 = wd
              · exact .inr (.inr (.inr (.inr (.inr (.inl ⟨a, b, rfl, d, f, g⟩)))))
              · exact .inr (.inr (.inr (.inr (.inr (.inr ⟨a, b, rfl, d, f, g⟩)))))
            · exact .inr (.inr (.inr (.inr (.inl ⟨a, b, rfl, d, f⟩))))
          · exact .inr (.inr (.inr (.inl ⟨a, b, rfl, d⟩)))
    · exact .inl a
  have h4 : L.length = 4 → w4 = [] := fun h => by rw [hw4]; simp [List.getD, h]
  by_cases c5 : L.length = 5
  · have q5 : (L.length : Int) = 5 := by omega
    have i4 : iaddrPV 1 (rowV u L) (.int .i64 4) = some (.cp [.str w4]) := by rw [hw4]; exact iaddr_t rowV_vs (by omega) (by simp; omega)
    rcases ways with w1 | ⟨w1, w2⟩ | ⟨w1, w2, w3⟩ | ⟨w1, w2, w3, w4'⟩ | ⟨w1, w2, w3, w4', w5⟩ | ⟨w1, w2, w3, w4', w5, w6⟩ | ⟨w1, w2, w3, w4', w5, w6⟩
    · simp (maxSteps := 1000000) (disch := omega) only [r3, dst_ld, hwk, hst, hlen, c1, e2, e3, eq_true q5, i0, i1, i2, i3, i4, lc1, k0, k1, k2, k3, k4, k5, m1, a1, s1, hR, hWk, w1, qaaz, qabz, qacz, qadz, qaez, qafz, qagz, qahz, qaiz, qajz, qakz, qalz, qamz, qanz, evOp, qaoz, qapz, qaqz, qarz, qasz, qatz, qauz, qavz,
 ↓reduceIte, Nat.reduceEqDiff, List.nil_append, List.cons_append, List.append_nil, List.map_cons, List.map_nil, qawz, qaxz, qayz, Option.map_some, Option.map_none, qazz, qbaz, qbbz, qbcz, qbdz, qbez, qbfz, qbgz, qbhz, qbiz, qbjz, qbkz, qblz, qbmz, qbnz, qboz,
 qbpz, qbqz, qbrz, qbsz, qbtz, qbuz, qbvz, qbwz, qbxz, qbyz, qbzz, qcaz, qcbz, qccz, qcdz, qcez, qcfz, qcgz, qchz, qciz, beq_true, beq_false, Bool.not_eq_true', decide_eq_true_eq, decide_eq_false_iff_not, decide_true, decide_false,
 Int.toNat_natCast, Int.ofNat_lt, Int.ofNat_le, Int.natCast_inj, Bool.false_eq_true, Bool.true_eq_false, qcjz, List.getElem?_cons_zero, List.getElem?_cons_succ, qckz, Int.reduceToNat, Int.reduceLE, true_and, and_true, reduceCtorEq, or_false, false_or, or_true, Option.some.injEq, exists_eq_left', Bool.not_true, Bool.not_false, ne_eq, Int.reduceEq, not_true_eq_false, not_false_eq_true, Int.reduceLT, UInt8.reduceLT, UInt8.reduceLE, UInt8.reduceToNat]
      exact hend _ rfl rfl rfl (bad1 (.inl w1))
    · simp (maxSteps := 1000000) (disch := omega) only [r3, dst_ld, hwk, hst, hlen, c1, e2, e3, eq_true q5, i0, i1, i2, i3, i4, lc1, k0, k1, k2, k3, k4, k5, m1, a1, s1, hR, hWk, eq_true w1, w2, qaaz, qabz, qacz, qadz, qaez, qafz, qagz, qahz, qaiz, qajz, qakz, qalz, qamz, qanz, evOp, qaoz, qapz, qaqz, qarz, qasz, qatz, qauz, qavz,
 ↓reduceIte, Nat.reduceEqDiff, List.nil_append, List.cons_append, List.append_nil, List.map_cons, List.map_nil, qawz, qaxz, qayz, Option.map_some, Option.map_none, qazz, qbaz, qbbz, qbcz, qbdz, qbez, qbfz, qbgz, qbhz, qbiz, qbjz, qbkz, qblz, qbmz, qbnz, qboz,
 qbpz, qbqz, qbrz, qbsz, qbtz, qbuz, qbvz, qbwz, qbxz, qbyz, qbzz, qcaz, qcbz, qccz, qcdz, qcez, qcfz, qcgz, qchz, qciz, beq_true, beq_false, Bool.not_eq_true', decide_eq_true_eq, decide_eq_false_iff_not, decide_true, decide_false,
 Int.toNat_natCast, Int.ofNat_lt, Int.ofNat_le, Int.natCast_inj, Bool.false_eq_true, Bool.true_eq_false, qcjz, List.getElem?_cons_zero, List.getElem?_cons_succ, qckz, Int.reduceToNat, Int.reduceLE, true_and, and_true, reduceCtorEq, or_false, false_or, or_true, Option.some.injEq, exists_eq_left', Bool.not_true, Bool.not_false, ne_eq, Int.reduceEq, not_true_eq_false, not_false_eq_true, Int.reduceLT, UInt8.reduceLT, UInt8.reduceLE, UInt8.reduceToNat]
      exact hend _ rfl rfl rfl (bad1 (.inr (.inl w2)))
    · subst w3
      simp (maxSteps := 1000000) (disch := omega) only [r3, dst_ld, hwk, hst, hlen, c1, e2, e3, eq_true q5, i0, i1, i2, i3, i4, lc1, k0, k1, k2, k3, k4, k5, m1, a1, s1, hR, hWk, eq_true w1, w2, qaaz, qabz, qacz, qadz, qaez, qafz, qagz, qahz, qaiz, qajz, qakz, qalz, qamz, qanz, evOp, qaoz, qapz, qaqz, qarz, qasz, qatz, qauz, qavz,
 ↓reduceIte, Nat.reduceEqDiff, List.nil_append, List.cons_append, List.append_nil, List.map_cons, List.map_nil, qawz, qaxz, qayz, Option.map_some, Option.map_none, qazz, qbaz, qbbz, qbcz, qbdz, qbez, qbfz, qbgz, qbhz, qbiz, qbjz, qbkz, qblz, qbmz, qbnz, qboz,
 qbpz, qbqz, qbrz, qbsz, qbtz, qbuz, qbvz, qbwz, qbxz, qbyz, qbzz, qcaz, qcbz, qccz, qcdz, qcez, qcfz, qcgz, qchz, qciz, beq_true, beq_false, Bool.not_eq_true', decide_eq_true_eq, decide_eq_false_iff_not, decide_true, decide_false,
 Int.toNat_natCast, Int.ofNat_lt, Int.ofNat_le, Int.natCast_inj, Bool.false_eq_true, Bool.true_eq_false, qcjz, List.getElem?_cons_zero, List.getElem?_cons_succ, qckz, Int.reduceToNat, Int.reduceLE, true_and, and_true, reduceCtorEq, or_false, false_or, or_true, Option.some.injEq, exists_eq_left', Bool.not_true, Bool.not_false, ne_eq, Int.reduceEq, not_true_eq_false, not_false_eq_true, Int.reduceLT, UInt8.reduceLT, UInt8.reduceLE, UInt8.reduceToNat]
      exact hend _ rfl rfl rfl (bad1 (.inr (.inr (.inl rfl))))
    · subst w3
      simp (maxSteps := 1000000) (disch := omega) only [r3, dst_ld, hwk, hst, hlen, c1, e2, e3, eq_true q5, i0, i1, i2, i3, i4, lc1, k0, k1, k2, k3, k4, k5, m1, a1, s1, hR, hWk, eq_true w1, w2, decide_eq_false w4', qaaz, qabz, qacz, qadz, qaez, qafz, qagz, qahz, qaiz, qajz, qakz, qalz, qamz, qanz, evOp, qaoz, qapz, qaqz, qarz, qasz, qatz, qauz, qavz,
 ↓reduceIte, Nat.reduceEqDiff, List.nil_append, List.cons_append, List.append_nil, List.map_cons, List.map_nil, qawz, qaxz, qayz, Option.map_some, Option.map_none, qazz, qbaz, qbbz, qbcz, qbdz, qbez, qbfz, qbgz, qbhz, qbiz, qbjz, qbkz, qblz, qbmz, qbnz, qboz,
 qbpz, qbqz, qbrz, qbsz, qbtz, qbuz, qbvz, qbwz, qbxz, qbyz, qbzz, qcaz, qcbz, qccz, qcdz, qcez, qcfz, qcgz, qchz, qciz, beq_true, beq_false, Bool.not_eq_true', decide_eq_true_eq, decide_eq_false_iff_not, decide_true, decide_false,
 Int.toNat_natCast, Int.ofNat_lt, Int.ofNat_le, Int.natCast_inj, Bool.false_eq_true, Bool.true_eq_false, qcjz, List.getElem?_cons_zero, List.getElem?_cons_succ, qckz, Int.reduceToNat, Int.reduceLE, true_and, and_true, reduceCtorEq, or_false, false_or, or_true, Option.some.injEq, exists_eq_left', Bool.not_true, Bool.not_false, ne_eq, Int.reduceEq, not_true_eq_false, not_false_eq_true, Int.reduceLT, UInt8.reduceLT, UInt8.reduceLE, UInt8.reduceToNat]
      exact hend _ rfl rfl rfl (bad1 (.inr (.inr (.inr w4'))))
    · subst w3
      simp (maxSteps := 1000000) (disch := omega) only [r3, dst_ld, hwk, hst, hlen, c1, e2, e3, eq_true q5, i0, i1, i2, i3, i4, lc1, k0, k1, k2, k3, k4, k5, m1, a1, s1, hR, hWk, eq_true w1, w2, decide_eq_true w4', w5, qaaz, qabz, qacz, qadz, qaez, qafz, qagz, qahz, qaiz, qajz, qakz, qalz, qamz, qanz, evOp, qaoz, qapz, qaqz, qarz, qasz, qatz, qauz, qavz,
 ↓reduceIte, Nat.reduceEqDiff, List.nil_append, List.cons_append, List.append_nil, List.map_cons, List.map_nil, qawz, qaxz, qayz, Option.map_some, Option.map_none, qazz, qbaz, qbbz, qbcz, qbdz, qbez, qbfz, qbgz, qbhz, qbiz, qbjz, qbkz, qblz, qbmz, qbnz, qboz,
 qbpz, qbqz, qbrz, qbsz, qbtz, qbuz, qbvz, qbwz, qbxz, qbyz, qbzz, qcaz, qcbz, qccz, qcdz, qcez, qcfz, qcgz, qchz, qciz, beq_true, beq_false, Bool.not_eq_true', decide_eq_true_eq, decide_eq_false_iff_not, decide_true, decide_false,
 Int.toNat_natCast, Int.ofNat_lt, Int.ofNat_le, Int.natCast_inj, Bool.false_eq_true, Bool.true_eq_false, qcjz, List.getElem?_cons_zero, List.getElem?_cons_succ, qckz, Int.reduceToNat, Int.reduceLE, true_and, and_true, reduceCtorEq, or_false, false_or, or_true, Option.some.injEq, exists_eq_left', Bool.not_true, Bool.not_false, ne_eq, Int.reduceEq, not_true_eq_false, not_false_eq_true, Int.reduceLT, UInt8.reduceLT, UInt8.reduceLE, UInt8.reduceToNat]
      exact hgood _ rfl rfl rfl (good (fun h => h.elim (fun h => h w1) fun h => h.elim w2 fun h => h.elim (fun h => by cases h) fun h => h w4') (fun h => w5 h.1))
    · subst w3
      simp (maxSteps := 1000000) (disch := omega) only [r3, dst_ld, hwk, hst, hlen, c1, e2, e3, eq_true q5, i0, i1, i2, i3, i4, lc1, k0, k1, k2, k3, k4, k5, m1, a1, s1, hR, hWk, eq_true w1, w2, decide_eq_true w4', w5, eq_true w6, qaaz, qabz, qacz, qadz, qaez, qafz, qagz, qahz, qaiz, qajz, qakz, qalz, qamz, qanz, evOp, qaoz, qapz, qaqz, qarz, qasz, qatz, qauz, qavz,
 ↓reduceIte, Nat.reduceEqDiff, List.nil_append, List.cons_append, List.append_nil, List.map_cons, List.map_nil, qawz, qaxz, qayz, Option.map_some, Option.map_none, qazz, qbaz, qbbz, qbcz, qbdz, qbez, qbfz, qbgz, qbhz, qbiz, qbjz, qbkz, qblz, qbmz, qbnz, qboz,
 qbpz, qbqz, qbrz, qbsz, qbtz, qbuz, qbvz, qbwz, qbxz, qbyz, qbzz, qcaz, qcbz, qccz, qcdz, qcez, qcfz, qcgz, qchz, qciz, beq_true, beq_false, Bool.not_eq_true', decide_eq_true_eq, decide_eq_false_iff_not, decide_true, decide_false,
 Int.toNat_natCast, Int.ofNat_lt, Int.ofNat_le, Int.natCast_inj, Bool.false_eq_true, Bool.true_eq_false, qcjz, List.getElem?_cons_zero, List.getElem?_cons_succ, qckz, Int.reduceToNat, Int.reduceLE, true_and, and_true, reduceCtorEq, or_false, false_or, or_true, Option.some.injEq, exists_eq_left', Bool.not_true, Bool.not_false, ne_eq, Int.reduceEq, not_true_eq_false, not_false_eq_true, Int.reduceLT, UInt8.reduceLT, UInt8.reduceLE, UInt8.reduceToNat]
      exact hgood _ rfl rfl rfl (good (fun h => h.elim (fun h => h w1) fun h => h.elim w2 fun h => h.elim (fun h => by cases h) fun h => h w4') (fun h => h.2 w6.symm))
    · subst w3
      simp (maxSteps := 1000000) (disch := omega) only [r3, dst_ld, hwk, hst, hlen, c1, e2, e3, eq_true q5, i0, i1, i2, i3, i4, lc1, k0, k1, k2, k3, k4, k5, m1, a1, s1, hR, hWk, eq_true w1, w2, decide_eq_true w4', w5, w6, qaaz, qabz, qacz, qadz, qaez, qafz, qagz, qahz, qaiz, qajz, qakz, qalz, qamz, qanz, evOp, qaoz, qapz, qaqz, qarz, qasz, qatz, qauz, qavz,
 ↓reduceIte, Nat.reduceEqDiff, List.nil_append, List.cons_append, List.append_nil, List.map_cons, List.map_nil, qawz, qaxz, qayz, Option.map_some, Option.map_none, qazz, qbaz, qbbz, qbcz, qbdz, qbez, qbfz, qbgz, qbhz, qbiz, qbjz, qbkz, qblz, qbmz, qbnz, qboz,
 qbpz, qbqz, qbrz, qbsz, qbtz, qbuz, qbvz, qbwz, qbxz, qbyz, qbzz, qcaz, qcbz, qccz, qcdz, qcez, qcfz, qcgz, qchz, qciz, beq_true, beq_false, Bool.not_eq_true', decide_eq_true_eq, decide_eq_false_iff_not, decide_true, decide_false,
 Int.toNat_natCast, Int.ofNat_lt, Int.ofNat_le, Int.natCast_inj, Bool.false_eq_true, Bool.true_eq_false, qcjz, List.getElem?_cons_zero, List.getElem?_cons_succ, qckz, Int.reduceToNat, Int.reduceLE, true_and, and_true, reduceCtorEq, or_false, false_or, or_true, Option.some.injEq, exists_eq_left', Bool.not_true, Bool.not_false, ne_eq, Int.reduceEq, not_true_eq_false, not_false_eq_true, Int.reduceLT, UInt8.reduceLT, UInt8.reduceLE, UInt8.reduceToNat]
      exact hend _ rfl rfl rfl (bad2 (fun h => h.elim (fun h => h w1) fun h => h.elim w2 fun h => h.elim (fun h => by cases h) fun h => h w4') ⟨w5, fun h => w6 h.symm⟩)
  · have q5 : ¬ (L.length : Int) = 5 := by omega
    obtain rfl := h4 (by omega)
    rcases ways with w1 | ⟨w1, w2⟩ | ⟨w1, w2, w3⟩ | ⟨w1, w2, w3, w4'⟩ | ⟨w1, w2, w3, w4', w5⟩ | ⟨w1, w2, w3, w4', w5, w6⟩ | ⟨w1, w2, w3, w4', w5, w6⟩
    · simp (maxSteps := 1000000) (disch := omega) only [r3, dst_ld, hwk, hst, hlen, c1, e2, e3, q5, i0, i1, i2, i3, lc1, k0, k1, k2, k3, k4, k5, m1, a1, s1, hR, hWk, w1, qaaz, qabz, qacz, qadz, qaez, qafz, qagz, qahz, qaiz, qajz, qakz, qalz, qamz, qanz, evOp, qaoz, qapz, qaqz, qarz, qasz, qatz, qauz, qavz,
 ↓reduceIte, Nat.reduceEqDiff, List.nil_append, List.cons_append, List.append_nil, List.map_cons, List.map_nil, qawz, qaxz, qayz, Option.map_some, Option.map_none, qazz, qbaz, qbbz, qbcz, qbdz, qbez, qbfz, qbgz, qbhz, qbiz, qbjz, qbkz, qblz, qbmz, qbnz, qboz,
 qbpz, qbqz, qbrz, qbsz, qbtz, qbuz, qbvz, qbwz, qbxz, qbyz, qbzz, qcaz, qcbz, qccz, qcdz, qcez, qcfz, qcgz, qchz, qciz, beq_true, beq_false, Bool.not_eq_true', decide_eq_true_eq, decide_eq_false_iff_not, decide_true, decide_false,
 Int.toNat_natCast, Int.ofNat_lt, Int.ofNat_le, Int.natCast_inj, Bool.false_eq_true, Bool.true_eq_false, qcjz, List.getElem?_cons_zero, List.getElem?_cons_succ, qckz, Int.reduceToNat, Int.reduceLE, true_and, and_true, reduceCtorEq, or_false, false_or, or_true, Option.some.injEq, exists_eq_left', Bool.not_true, Bool.not_false, ne_eq, Int.reduceEq, not_true_eq_false, not_false_eq_true, Int.reduceLT, UInt8.reduceLT, UInt8.reduceLE, UInt8.reduceToNat]
      exact hend _ rfl rfl rfl (bad1 (.inl w1))
    · simp (maxSteps := 1000000) (disch := omega) only [r3, dst_ld, hwk, hst, hlen, c1, e2, e3, q5, i0, i1, i2, i3, lc1, k0, k1, k2, k3, k4, k5, m1, a1, s1, hR, hWk, eq_true w1, w2, qaaz, qabz, qacz, qadz, qaez, qafz, qagz, qahz, qaiz, qajz, qakz, qalz, qamz, qanz, evOp, qaoz, qapz, qaqz, qarz, qasz, qatz, qauz, qavz,
 ↓reduceIte, Nat.reduceEqDiff, List.nil_append, List.cons_append, List.append_nil, List.map_cons, List.map_nil, qawz, qaxz, qayz, Option.map_some, Option.map_none, qazz, qbaz, qbbz, qbcz, qbdz, qbez, qbfz, qbgz, qbhz, qbiz, qbjz, qbkz, qblz, qbmz, qbnz, qboz,
 qbpz, qbqz, qbrz, qbsz, qbtz, qbuz, qbvz, qbwz, qbxz, qbyz, qbzz, qcaz, qcbz, qccz, qcdz, qcez, qcfz, qcgz, qchz, qciz, beq_true, beq_false, Bool.not_eq_true', decide_eq_true_eq, decide_eq_false_iff_not, decide_true, decide_false,
 Int.toNat_natCast, Int.ofNat_lt, Int.ofNat_le, Int.natCast_inj, Bool.false_eq_true, Bool.true_eq_false, qcjz, List.getElem?_cons_zero, List.getElem?_cons_succ, qckz, Int.reduceToNat, Int.reduceLE, true_and, and_true, reduceCtorEq, or_false, false_or, or_true, Option.some.injEq, exists_eq_left', Bool.not_true, Bool.not_false, ne_eq, Int.reduceEq, not_true_eq_false, not_false_eq_true, Int.reduceLT, UInt8.reduceLT, UInt8.reduceLE, UInt8.reduceToNat]
      exact hend _ rfl rfl rfl (bad1 (.inr (.inl w2)))
    · subst w3
      simp (maxSteps := 1000000) (disch := omega) only [r3, dst_ld, hwk, hst, hlen, c1, e2, e3, q5, i0, i1, i2, i3, lc1, k0, k1, k2, k3, k4, k5, m1, a1, s1, hR, hWk, eq_true w1, w2, qaaz, qabz, qacz, qadz, qaez, qafz, qagz, qahz, qaiz, qajz, qakz, qalz, qamz, qanz, evOp, qaoz, qapz, qaqz, qarz, qasz, qatz, qauz, qavz,
 ↓reduceIte, Nat.reduceEqDiff, List.nil_append, List.cons_append, List.append_nil, List.map_cons, List.map_nil, qawz, qaxz, qayz, Option.map_some, Option.map_none, qazz, qbaz, qbbz, qbcz, qbdz, qbez, qbfz, qbgz, qbhz, qbiz, qbjz, qbkz, qblz, qbmz, qbnz, qboz,
 qbpz, qbqz, qbrz, qbsz, qbtz, qbuz, qbvz, qbwz, qbxz, qbyz, qbzz, qcaz, qcbz, qccz, qcdz, qcez, qcfz, qcgz, qchz, qciz, beq_true, beq_false, Bool.not_eq_true', decide_eq_true_eq, decide_eq_false_iff_not, decide_true, decide_false,
 Int.toNat_natCast, Int.ofNat_lt, Int.ofNat_le, Int.natCast_inj, Bool.false_eq_true, Bool.true_eq_false, qcjz, List.getElem?_cons_zero, List.getElem?_cons_succ, qckz, Int.reduceToNat, Int.reduceLE, true_and, and_true, reduceCtorEq, or_false, false_or, or_true, Option.some.injEq, exists_eq_left', Bool.not_true, Bool.not_false, ne_eq, Int.reduceEq, not_true_eq_false, not_false_eq_true, Int.reduceLT, UInt8.reduceLT, UInt8.reduceLE, UInt8.reduceToNat]
      exact hend _ rfl rfl rfl (bad1 (.inr (.inr (.inl rfl))))
    · subst w3
      simp (maxSteps := 1000000) (disch := omega) only [r3, dst_ld, hwk, hst, hlen, c1, e2, e3, q5, i0, i1, i2, i3, lc1, k0, k1, k2, k3, k4, k5, m1, a1, s1, hR, hWk, eq_true w1, w2, decide_eq_false w4', qaaz, qabz, qacz, qadz, qaez, qafz, qagz, qahz, qaiz, qajz, qakz, qalz, qamz, qanz, evOp, qaoz, qapz, qaqz, qarz, qasz, qatz, qauz, qavz,
 ↓reduceIte, Nat.reduceEqDiff, List.nil_append, List.cons_append, List.append_nil, List.map_cons, List.map_nil, qawz, qaxz, qayz, Option.map_some, Option.map_none, qazz, qbaz, qbbz, qbcz, qbdz, qbez, qbfz, qbgz, qbhz, qbiz, qbjz, qbkz, qblz, qbmz, qbnz, qboz,
 qbpz, qbqz, qbrz, qbsz, qbtz, qbuz, qbvz, qbwz, qbxz, qbyz, qbzz, qcaz, qcbz, qccz, qcdz, qcez, qcfz, qcgz, qchz, qciz, beq_true, beq_false, Bool.not_eq_true', decide_eq_true_eq, decide_eq_false_iff_not, decide_true, decide_false,
 Int.toNat_natCast, Int.ofNat_lt, Int.ofNat_le, Int.natCast_inj, Bool.false_eq_true, Bool.true_eq_false, qcjz, List.getElem?_cons_zero, List.getElem?_cons_succ, qckz, Int.reduceToNat, Int.reduceLE, true_and, and_true, reduceCtorEq, or_false, false_or, or_true, Option.some.injEq, exists_eq_left', Bool.not_true, Bool.not_false, ne_eq, Int.reduceEq, not_true_eq_false, not_false_eq_true, Int.reduceLT, UInt8.reduceLT, UInt8.reduceLE, UInt8.reduceToNat]
      exact hend _ rfl rfl rfl (bad1 (.inr (.inr (.inr w4'))))
    · subst w3
      simp (maxSteps := 1000000) (disch := omega) only [r3, dst_ld, hwk, hst, hlen, c1, e2, e3, q5, i0, i1, i2, i3, lc1, k0, k1, k2, k3, k4, k5, m1, a1, s1, hR, hWk, eq_true w1, w2, decide_eq_true w4', w5, qaaz, qabz, qacz, qadz, qaez, qafz, qagz, qahz, qaiz, qajz, qakz, qalz, qamz, qanz, evOp, qaoz, qapz, qaqz, qarz, qasz, qatz, qauz, qavz,
 ↓reduceIte, Nat.reduceEqDiff, List.nil_append, List.cons_append, List.append_nil, List.map_cons, List.map_nil, qawz, qaxz, qayz, Option.map_some, Option.map_none, qazz, qbaz, qbbz, qbcz, qbdz, qbez, qbfz, qbgz, qbhz, qbiz, qbjz, qbkz, qblz, qbmz, qbnz, qboz,
 qbpz, qbqz, qbrz, qbsz, qbtz, qbuz, qbvz, qbwz, qbxz, qbyz, qbzz, qcaz, qcbz, qccz, qcdz, qcez, qcfz, qcgz, qchz, qciz, beq_true, beq_false, Bool.not_eq_true', decide_eq_true_eq, decide_eq_false_iff_not, decide_true, decide_false,
 Int.toNat_natCast, Int.ofNat_lt, Int.ofNat_le, Int.natCast_inj, Bool.false_eq_true, Bool.true_eq_false, qcjz, List.getElem?_cons_zero, List.getElem?_cons_succ, qckz, Int.reduceToNat, Int.reduceLE, true_and, and_true, reduceCtorEq, or_false, false_or, or_true, Option.some.injEq, exists_eq_left', Bool.not_true, Bool.not_false, ne_eq, Int.reduceEq, not_true_eq_false, not_false_eq_true, Int.reduceLT, UInt8.reduceLT, UInt8.reduceLE, UInt8.reduceToNat]
      exact hgood _ rfl rfl rfl (good (fun h => h.elim (fun h => h w1) fun h => h.elim w2 fun h => h.elim (fun h => by cases h) fun h => h w4') (fun h => w5 h.1))
    · subst w3
      simp (maxSteps := 1000000) (disch := omega) only [r3, dst_ld, hwk, hst, hlen, c1, e2, e3, q5, i0, i1, i2, i3, lc1, k0, k1, k2, k3, k4, k5, m1, a1, s1, hR, hWk, eq_true w1, w2, decide_eq_true w4', w5, eq_true w6, qaaz, qabz, qacz, qadz, qaez, qafz, qagz, qahz, qaiz, qajz, qakz, qalz, qamz, qanz, evOp, qaoz, qapz, qaqz, qarz, qasz, qatz, qauz, qavz,
 ↓reduceIte, Nat.reduceEqDiff, List.nil_append, List.cons_append, List.append_nil, List.map_cons, List.map_nil, qawz, qaxz, qayz, Option.map_some, Option.map_none, qazz, qbaz, qbbz, qbcz, qbdz, qbez, qbfz, qbgz, qbhz, qbiz, qbjz, qbkz, qblz, qbmz, qbnz, qboz,
 qbpz, qbqz, qbrz, qbsz, qbtz, qbuz, qbvz, qbwz, qbxz, qbyz, qbzz, qcaz, qcbz, qccz, qcdz, qcez, qcfz, qcgz, qchz, qciz, beq_true, beq_false, Bool.not_eq_true', decide_eq_true_eq, decide_eq_false_iff_not, decide_true, decide_false,
 Int.toNat_natCast, Int.ofNat_lt, Int.ofNat_le, Int.natCast_inj, Bool.false_eq_true, Bool.true_eq_false, qcjz, List.getElem?_cons_zero, List.getElem?_cons_succ, qckz, Int.reduceToNat, Int.reduceLE, true_and, and_true, reduceCtorEq, or_false, false_or, or_true, Option.some.injEq, exists_eq_left', Bool.not_true, Bool.not_false, ne_eq, Int.reduceEq, not_true_eq_false, not_false_eq_true, Int.reduceLT, UInt8.reduceLT, UInt8.reduceLE, UInt8.reduceToNat]
      exact hgood _ rfl rfl rfl (good (fun h => h.elim (fun h => h w1) fun h => h.elim w2 fun h => h.elim (fun h => by cases h) fun h => h w4') (fun h => h.2 w6.symm))
    · subst w3
      simp (maxSteps := 1000000) (disch := omega) only [r3, dst_ld, hwk, hst, hlen, c1, e2, e3, q5, i0, i1, i2, i3, lc1, k0, k1, k2, k3, k4, k5, m1, a1, s1, hR, hWk, eq_true w1, w2, decide_eq_true w4', w5, w6, qaaz, qabz, qacz, qadz, qaez, qafz, qagz, qahz, qaiz, qajz, qakz, qalz, qamz, qanz, evOp, qaoz, qapz, qaqz, qarz, qasz, qatz, qauz, qavz,
 ↓reduceIte, Nat.reduceEqDiff, List.nil_append, List.cons_append, List.append_nil, List.map_cons, List.map_nil, qawz, qaxz, qayz, Option.map_some, Option.map_none, qazz, qbaz, qbbz, qbcz, qbdz, qbez, qbfz, qbgz, qbhz, qbiz, qbjz, qbkz, qblz, qbmz, qbnz, qboz,
 qbpz, qbqz, qbrz, qbsz, qbtz, qbuz, qbvz, qbwz, qbxz, qbyz, qbzz, qcaz, qcbz, qccz, qcdz, qcez, qcfz, qcgz, qchz, qciz, beq_true, beq_false, Bool.not_eq_true', decide_eq_true_eq, decide_eq_false_iff_not, decide_true, decide_false,
 Int.toNat_natCast, Int.ofNat_lt, Int.ofNat_le, Int.natCast_inj, Bool.false_eq_true, Bool.true_eq_false, qcjz, List.getElem?_cons_zero, List.getElem?_cons_succ, qckz, Int.reduceToNat, Int.reduceLE, true_and, and_true, reduceCtorEq, or_false, false_or, or_true, Option.some.injEq, exists_eq_left', Bool.not_true, Bool.not_false, ne_eq, Int.reduceEq, not_true_eq_false, not_false_eq_true, Int.reduceLT, UInt8.reduceLT, UInt8.reduceLE, UInt8.reduceToNat]
      exact hend _ rfl rfl rfl (bad2 (fun h => h.elim (fun h => h w1) fun h => h.elim w2 fun h => h.elim (fun h => by cases h) fun h => h w4') ⟨w5, fun h => w6 h.symm⟩)
end Go.Ab

/-
  The laws DateBack and DateSame.
-/
namespace Go.Ab
set_option linter.unusedVariables false
set_option linter.unusedSimpArgs false
set_option maxRecDepth 20000

end Go.Ab

/-
  Ids are read; the law DateUnlike.
-/
namespace Go.Ab
set_option linter.unusedVariables false
set_option linter.unusedSimpArgs false
set_option maxRecDepth 20000
variable {st s : St} {e : Env}

end Go.Ab

/-
  The document's addresses: parts, letters, atoms, domains.
-/
namespace Go.Ab
set_option linter.unusedVariables false
set_option linter.unusedSimpArgs false
set_option maxRecDepth 20000
variable {st s : St} {e : Env}

theorem split_step {l : Bs} {by_ : UInt8} {i f : Nat} (hf : f ≤ i) (hi : i < l.length) (hb : l.getD i 0 = by_) : splitOn by_ ((l.take i).drop f) (l.drop i) = (l.take i).drop f :: splitOn by_ ((l.take (i + 1)).drop (i + 1)) (l.drop (i + 1)) := by
  have hd : l.drop i = l.getD i 0 :: l.drop (i + 1) := by rw [List.drop_eq_getElem_cons hi]; simp [List.getD, hi]
  rw [hd, splitOn, if_pos hb, List.drop_of_length_le (l := l.take (i + 1)) (by simp; omega)]
theorem split_go {l : Bs} {by_ : UInt8} {i f : Nat} (hf : f ≤ i) (hi : i < l.length) (hb : ¬ l.getD i 0 = by_) : splitOn by_ ((l.take i).drop f) (l.drop i) = splitOn by_ ((l.take (i + 1)).drop f) (l.drop (i + 1)) := by
  have hd : l.drop i = l.getD i 0 :: l.drop (i + 1) := by rw [List.drop_eq_getElem_cons hi]; simp [List.getD, hi]
  rw [hd, splitOn, if_neg hb]
  congr 1
  rw [List.take_add_one, List.drop_append_of_le_length (by simp; omega)]
  simp [List.getD, hi]

set_option maxHeartbeats 1000000 in
theorem Parts_spec {l : Bs} {c : UInt8} (hl : l.length ≤ 100000000) : call prog (.fn 215 []) [.str l, .b8 c] st = some (newSl st 1 ((splitOn c [] l).map .str), st.tok1) := by
  refine call_of_W prog_215 ?_
  unfold F_posthornref04_Parts; dsimp only
  obtain ⟨T, hT⟩ : ∃ T, T = splitOn c [] l := ⟨_, rfl⟩
  rw [← hT]
  simp (maxSteps := 1000000) (disch := omega) only [qaaz, qabz, qacz, qadz, qaez, qafz, qagz, qahz, qaiz, qajz, qakz, qalz, qamz, qanz, evOp, qaoz, qapz, qaqz, qarz, qasz, qatz, qauz, qavz,
 ↓reduceIte, Nat.reduceEqDiff, List.nil_append, List.cons_append, List.append_nil, List.map_cons, List.map_nil, qawz, qaxz, qayz, Option.map_some, Option.map_none, qazz, qbaz, qbbz, qbcz, qbdz, qbez, qbfz, qbgz, qbhz, qbiz, qbjz, qbkz, qblz, qbmz, qbnz, qboz,
 qbpz, qbqz, qbrz, qbsz, qbtz, qbuz, qbvz, qbwz, qbxz, qbyz, qbzz, qcaz, qcbz, qccz, qcdz, qcez, qcfz, qcgz, qchz, qciz, beq_true, beq_false, Bool.not_eq_true', decide_eq_true_eq, decide_eq_false_iff_not, decide_true, decide_false,
 Int.toNat_natCast, Int.ofNat_lt, Int.ofNat_le, Int.natCast_inj, Bool.false_eq_true, Bool.true_eq_false, qcjz, List.getElem?_cons_zero, List.getElem?_cons_succ, qckz, Int.reduceToNat, Int.reduceLE, true_and, and_true, reduceCtorEq, or_false, false_or, or_true, Option.some.injEq, exists_eq_left', Bool.not_true, Bool.not_false, ne_eq, Int.reduceEq, not_true_eq_false, not_false_eq_true, Int.reduceLT, UInt8.reduceLT, UInt8.reduceLE, UInt8.reduceToNat]
  obtain ⟨Q0, hQ0⟩ : ∃ Q0 : Ex → Env → St → Prop, Q0 = endQ st [.tmp 4] (newSl st 1 (T.map .str), st.tok1) := ⟨_, rfl⟩
  rw [← hQ0]
  obtain ⟨I, hI⟩ : ∃ I : Nat → Env → St → Prop, I = fun k E S => ∃ (i f : Nat) (v : PV) (dn : List Bs), k = l.length + 1 - i ∧ f ≤ i ∧ i ≤ l.length + 1 ∧ Kept st S ∧ Own st S 1 v (dn.map .str) ∧ (dn = [] → v = .nils) ∧ dn.length ≤ i ∧ (if i ≤ l.length then T = dn ++ splitOn c ((l.take i).drop f) (l.drop i) ∧ f ≤ l.length else T = dn ∧ dn ≠ []) ∧ E 0 = .str l ∧ E 1 = .b8 c ∧ E 5 = v ∧ E 6 = .int .i64 (f : Int) ∧ E 7 = .int .i64 (i : Int) := ⟨_, rfl⟩
  refine W_loop I ?_ (n := l.length + 1) (by
    rw [hI]
    exact ⟨0, 0, .nils, [], rfl, by omega, by omega, Kept.start, .inl ⟨rfl, rfl⟩, fun _ => rfl, by simp, by rw [if_pos (by omega)]; exact ⟨by simpa using hT, by omega⟩, rfl, rfl, rfl, rfl, rfl⟩)
  intro k E S hh
  rw [hI] at hh
  obtain ⟨i, f, v, dn, rfl, hfi, hil, hk, ho, hne, hdi, hTT, h0, h1, h5, h6, h7⟩ := hh
  by_cases hlt : i ≤ l.length
  · rw [if_pos hlt] at hTT
    obtain ⟨hTT, hfl⟩ := hTT
    have hs : slcPV 0 (.str l) (some (.int .i64 (f : Int))) (some (.int .i64 (i : Int))) none = some (.str ((l.take i).drop f)) := by
      rw [slc_s (by omega) (by omega) (by omega)]; rfl
    obtain ⟨v1, S1, b1, k1, o1, _⟩ := hk.appV (u := .str ((l.take i).drop f)) (w := v) ho (by simp only [List.length_map, room]; omega)
    by_cases he : i = l.length
    · have he' : ((i : Int) = (l.length : Int)) := by omega
      simp (maxSteps := 1000000) (disch := omega) only [h0, h1, h5, h6, h7, len_s, hlt, eq_true he, hs, lit_s, freshT_eq, b1, add_n, loopQ_normal, qaaz, qabz, qacz, qadz, qaez, qafz, qagz, qahz, qaiz, qajz, qakz, qalz, qamz, qanz, evOp, qaoz, qapz, qaqz, qarz, qasz, qatz, qauz, qavz,
 ↓reduceIte, Nat.reduceEqDiff, List.nil_append, List.cons_append, List.append_nil, List.map_cons, List.map_nil, qawz, qaxz, qayz, Option.map_some, Option.map_none, qazz, qbaz, qbbz, qbcz, qbdz, qbez, qbfz, qbgz, qbhz, qbiz, qbjz, qbkz, qblz, qbmz, qbnz, qboz,
 qbpz, qbqz, qbrz, qbsz, qbtz, qbuz, qbvz, qbwz, qbxz, qbyz, qbzz, qcaz, qcbz, qccz, qcdz, qcez, qcfz, qcgz, qchz, qciz, beq_true, beq_false, Bool.not_eq_true', decide_eq_true_eq, decide_eq_false_iff_not, decide_true, decide_false,
 Int.toNat_natCast, Int.ofNat_lt, Int.ofNat_le, Int.natCast_inj, Bool.false_eq_true, Bool.true_eq_false, qcjz, List.getElem?_cons_zero, List.getElem?_cons_succ, qckz, Int.reduceToNat, Int.reduceLE, true_and, and_true, reduceCtorEq, or_false, false_or, or_true, Option.some.injEq, exists_eq_left', Bool.not_true, Bool.not_false, ne_eq, Int.reduceEq, not_true_eq_false, not_false_eq_true, Int.reduceLT, UInt8.reduceLT, UInt8.reduceLE, UInt8.reduceToNat]
      refine ⟨l.length + 1 - (i + 1), by omega, ?_⟩
      rw [hI]
      refine ⟨i + 1, i + 1, v1, dn ++ [(l.take i).drop f], rfl, by omega, by omega, k1, by rw [List.map_append]; exact o1, fun h => by simp at h, by simp; omega, ?_, h0, h1, rfl, rfl, rfl⟩
      rw [if_neg (by omega)]
      refine ⟨?_, by simp⟩
      rw [hTT, he, List.drop_length]; simp [splitOn]
    · obtain ⟨x, hx⟩ : ∃ x, x = l.getD i 0 := ⟨_, rfl⟩
      have he2 : ¬ (i = l.length) := he
      by_cases hb : x = c
      · simp (maxSteps := 1000000) (disch := omega) only [h0, h1, h5, h6, h7, len_s, hlt, he2, idx_s, ← hx, eq_true hb, hs, lit_s, freshT_eq, b1, add_n, loopQ_normal, qaaz, qabz, qacz, qadz, qaez, qafz, qagz, qahz, qaiz, qajz, qakz, qalz, qamz, qanz, evOp, qaoz, qapz, qaqz, qarz, qasz, qatz, qauz, qavz,
 ↓reduceIte, Nat.reduceEqDiff, List.nil_append, List.cons_append, List.append_nil, List.map_cons, List.map_nil, qawz, qaxz, qayz, Option.map_some, Option.map_none, qazz, qbaz, qbbz, qbcz, qbdz, qbez, qbfz, qbgz, qbhz, qbiz, qbjz, qbkz, qblz, qbmz, qbnz, qboz,
 qbpz, qbqz, qbrz, qbsz, qbtz, qbuz, qbvz, qbwz, qbxz, qbyz, qbzz, qcaz, qcbz, qccz, qcdz, qcez, qcfz, qcgz, qchz, qciz, beq_true, beq_false, Bool.not_eq_true', decide_eq_true_eq, decide_eq_false_iff_not, decide_true, decide_false,
 Int.toNat_natCast, Int.ofNat_lt, Int.ofNat_le, Int.natCast_inj, Bool.false_eq_true, Bool.true_eq_false, qcjz, List.getElem?_cons_zero, List.getElem?_cons_succ, qckz, Int.reduceToNat, Int.reduceLE, true_and, and_true, reduceCtorEq, or_false, false_or, or_true, Option.some.injEq, exists_eq_left', Bool.not_true, Bool.not_false, ne_eq, Int.reduceEq, not_true_eq_false, not_false_eq_true, Int.reduceLT, UInt8.reduceLT, UInt8.reduceLE, UInt8.reduceToNat]
        refine ⟨l.length + 1 - (i + 1), by omega, ?_⟩
        rw [hI]
        refine ⟨i + 1, i + 1, v1, dn ++ [(l.take i).drop f], rfl, by omega, by omega, k1, by rw [List.map_append]; exact o1, fun h => by simp at h, by simp; omega, ?_, h0, h1, rfl, rfl, rfl⟩
        rw [if_pos (by omega)]
        refine ⟨?_, by omega⟩
        rw [hTT, split_step hfi (by omega) (by rw [← hx]; exact hb)]; simp
      · simp (maxSteps := 1000000) (disch := omega) only [h0, h1, h5, h6, h7, len_s, hlt, he2, idx_s, ← hx, hb, add_n, loopQ_normal, qaaz, qabz, qacz, qadz, qaez, qafz, qagz, qahz, qaiz, qajz, qakz, qalz, qamz, qanz, evOp, qaoz, qapz, qaqz, qarz, qasz, qatz, qauz, qavz,
 ↓reduceIte, Nat.reduceEqDiff, List.nil_append, List.cons_append, List.append_nil, List.map_cons, List.map_nil, qawz, qaxz, qayz, Option.map_some, Option.map_none, qazz, qbaz, qbbz, qbcz, qbdz, qbez, qbfz, qbgz, qbhz, qbiz, qbjz, qbkz, qblz, qbmz, qbnz, qboz,
 qbpz, qbqz, qbrz, qbsz, qbtz, qbuz, qbvz, qbwz, qbxz, qbyz, qbzz, qcaz, qcbz, qccz, qcdz, qcez, qcfz, qcgz, qchz, qciz, beq_true, beq_false, Bool.not_eq_true', decide_eq_true_eq, decide_eq_false_iff_not, decide_true, decide_false,
 Int.toNat_natCast, Int.ofNat_lt, Int.ofNat_le, Int.natCast_inj, Bool.false_eq_true, Bool.true_eq_false, qcjz, List.getElem?_cons_zero, List.getElem?_cons_succ, qckz, Int.reduceToNat, Int.reduceLE, true_and, and_true, reduceCtorEq, or_false, false_or, or_true, Option.some.injEq, exists_eq_left', Bool.not_true, Bool.not_false, ne_eq, Int.reduceEq, not_true_eq_false, not_false_eq_true, Int.reduceLT, UInt8.reduceLT, UInt8.reduceLE, UInt8.reduceToNat]
        refine ⟨l.length + 1 - (i + 1), by omega, ?_⟩
        rw [hI]
        refine ⟨i + 1, f, v, dn, rfl, by omega, by omega, hk, ho, hne, by omega, ?_, h0, h1, h5, h6, rfl⟩
        rw [if_pos (by omega)]
        exact ⟨by rw [hTT, split_go hfi (by omega) (by rw [← hx]; exact hb)], hfl⟩
  · rw [if_neg hlt] at hTT
    obtain ⟨hTT, hdn⟩ := hTT
    simp (maxSteps := 1000000) (disch := omega) only [h0, h1, h5, h6, h7, len_s, hlt, qaaz, qabz, qacz, qadz, qaez, qafz, qagz, qahz, qaiz, qajz, qakz, qalz, qamz, qanz, evOp, qaoz, qapz, qaqz, qarz, qasz, qatz, qauz, qavz,
 ↓reduceIte, Nat.reduceEqDiff, List.nil_append, List.cons_append, List.append_nil, List.map_cons, List.map_nil, qawz, qaxz, qayz, Option.map_some, Option.map_none, qazz, qbaz, qbbz, qbcz, qbdz, qbez, qbfz, qbgz, qbhz, qbiz, qbjz, qbkz, qblz, qbmz, qbnz, qboz,
 qbpz, qbqz, qbrz, qbsz, qbtz, qbuz, qbvz, qbwz, qbxz, qbyz, qbzz, qcaz, qcbz, qccz, qcdz, qcez, qcfz, qcgz, qchz, qciz, beq_true, beq_false, Bool.not_eq_true', decide_eq_true_eq, decide_eq_false_iff_not, decide_true, decide_false,
 Int.toNat_natCast, Int.ofNat_lt, Int.ofNat_le, Int.natCast_inj, Bool.false_eq_true, Bool.true_eq_false, qcjz, List.getElem?_cons_zero, List.getElem?_cons_succ, qckz, Int.reduceToNat, Int.reduceLE, true_and, and_true, reduceCtorEq, or_false, false_or, or_true, Option.some.injEq, exists_eq_left', Bool.not_true, Bool.not_false, ne_eq, Int.reduceEq, not_true_eq_false, not_false_eq_true, Int.reduceLT, UInt8.reduceLT, UInt8.reduceLE, UInt8.reduceToNat]
    rw [hQ0, qblz, hTT]
    refine ⟨v, by rcases ho with ⟨hv, _⟩ | ⟨j, hv, _⟩ <;> simp [resOf, rvAll, rv1, qavz, h5, hv, notTup, packRes], ?_⟩
    rw [hk.leaveOwn1 ho (fun h => hne (by simpa using h))]
    cases dn with
    | nil => exact absurd rfl hdn
    | cons a r => rfl

end Go.Ab

/-
  The document's dates: numbers, names, years, days.
-/
namespace Go.Ab
set_option linter.unusedVariables false
set_option linter.unusedSimpArgs false
set_option maxRecDepth 20000
variable {st s : St} {e : Env}

def valR (s : Bs) : Int := if s = [] ∨ 10 < s.length then -1 else if s.all isDg = true then (valD s : Int) else -1
theorem dg_sub {c : UInt8} (h : isDg c = true) : 48 ≤ c.toNat ∧ (c - 48).toNat + 48 = c.toNat := by
  have := all8 (p := fun c => !isDg c || (decide (48 ≤ c.toNat) && decide ((c - 48).toNat + 48 = c.toNat))) (by kernel_rfl) c
  rw [h] at this
  simpa using this

set_option maxHeartbeats 2000000 in
theorem Value_spec {l : Bs} (hl : l.length ≤ 1000000) : call prog (.fn 313 []) [.str l] st = some (.int .i64 (valR l), st) := by
  refine call_of_W prog_313 ?_
  unfold F_posthornref12_Value; dsimp only
  by_cases h0 : l = []
  · have : valR l = -1 := by unfold valR; rw [if_pos (.inl h0)]
    rw [this]
    have e0 : ((l.length : Nat) : Int) = 0 := by rw [h0]; rfl
    simp (maxSteps := 1000000) (disch := omega) only [len_s, eq_true e0, qaaz, qabz, qacz, qadz, qaez, qafz, qagz, qahz, qaiz, qajz, qakz, qalz, qamz, qanz, evOp, qaoz, qapz, qaqz, qarz, qasz, qatz, qauz, qavz,
 ↓reduceIte, Nat.reduceEqDiff, List.nil_append, List.cons_append, List.append_nil, List.map_cons, List.map_nil, qawz, qaxz, qayz, Option.map_some, Option.map_none, qazz, qbaz, qbbz, qbcz, qbdz, qbez, qbfz, qbgz, qbhz, qbiz, qbjz, qbkz, qblz, qbmz, qbnz, qboz,
 qbpz, qbqz, qbrz, qbsz, qbtz, qbuz, qbvz, qbwz, qbxz, qbyz, qbzz, qcaz, qcbz, qccz, qcdz, qcez, qcfz, qcgz, qchz, qciz, beq_true, beq_false, Bool.not_eq_true', decide_eq_true_eq, decide_eq_false_iff_not, decide_true, decide_false,
 Int.toNat_natCast, Int.ofNat_lt, Int.ofNat_le, Int.natCast_inj, Bool.false_eq_true, Bool.true_eq_false, qcjz, List.getElem?_cons_zero, List.getElem?_cons_succ, qckz, Int.reduceToNat, Int.reduceLE, true_and, and_true, reduceCtorEq, or_false, false_or, or_true, Option.some.injEq, exists_eq_left', Bool.not_true, Bool.not_false, ne_eq, Int.reduceEq, not_true_eq_false, not_false_eq_true, Int.reduceLT, UInt8.reduceLT, UInt8.reduceLE, UInt8.reduceToNat]
    exact retI rfl Kept.start rfl
  have e0 : ¬ ((l.length : Nat) : Int) = 0 := by have := List.length_pos_iff.2 h0; omega
  by_cases h10 : 10 < l.length
  · have : valR l = -1 := by unfold valR; rw [if_pos (.inr h10)]
    rw [this]
    have e1 : (10 : Int) < (l.length : Int) := by omega
    simp (maxSteps := 1000000) (disch := omega) only [len_s, e0, e1, qaaz, qabz, qacz, qadz, qaez, qafz, qagz, qahz, qaiz, qajz, qakz, qalz, qamz, qanz, evOp, qaoz, qapz, qaqz, qarz, qasz, qatz, qauz, qavz,
 ↓reduceIte, Nat.reduceEqDiff, List.nil_append, List.cons_append, List.append_nil, List.map_cons, List.map_nil, qawz, qaxz, qayz, Option.map_some, Option.map_none, qazz, qbaz, qbbz, qbcz, qbdz, qbez, qbfz, qbgz, qbhz, qbiz, qbjz, qbkz, qblz, qbmz, qbnz, qboz,
 qbpz, qbqz, qbrz, qbsz, qbtz, qbuz, qbvz, qbwz, qbxz, qbyz, qbzz, qcaz, qcbz, qccz, qcdz, qcez, qcfz, qcgz, qchz, qciz, beq_true, beq_false, Bool.not_eq_true', decide_eq_true_eq, decide_eq_false_iff_not, decide_true, decide_false,
 Int.toNat_natCast, Int.ofNat_lt, Int.ofNat_le, Int.natCast_inj, Bool.false_eq_true, Bool.true_eq_false, qcjz, List.getElem?_cons_zero, List.getElem?_cons_succ, qckz, Int.reduceToNat, Int.reduceLE, true_and, and_true, reduceCtorEq, or_false, false_or, or_true, Option.some.injEq, exists_eq_left', Bool.not_true, Bool.not_false, ne_eq, Int.reduceEq, not_true_eq_false, not_false_eq_true, Int.reduceLT, UInt8.reduceLT, UInt8.reduceLE, UInt8.reduceToNat]
    exact retI rfl Kept.start rfl
  have e1 : ¬ (10 : Int) < (l.length : Int) := by omega
  simp (maxSteps := 1000000) (disch := omega) only [len_s, e0, e1, qaaz, qabz, qacz, qadz, qaez, qafz, qagz, qahz, qaiz, qajz, qakz, qalz, qamz, qanz, evOp, qaoz, qapz, qaqz, qarz, qasz, qatz, qauz, qavz,
 ↓reduceIte, Nat.reduceEqDiff, List.nil_append, List.cons_append, List.append_nil, List.map_cons, List.map_nil, qawz, qaxz, qayz, Option.map_some, Option.map_none, qazz, qbaz, qbbz, qbcz, qbdz, qbez, qbfz, qbgz, qbhz, qbiz, qbjz, qbkz, qblz, qbmz, qbnz, qboz,
 qbpz, qbqz, qbrz, qbsz, qbtz, qbuz, qbvz, qbwz, qbxz, qbyz, qbzz, qcaz, qcbz, qccz, qcdz, qcez, qcfz, qcgz, qchz, qciz, beq_true, beq_false, Bool.not_eq_true', decide_eq_true_eq, decide_eq_false_iff_not, decide_true, decide_false,
 Int.toNat_natCast, Int.ofNat_lt, Int.ofNat_le, Int.natCast_inj, Bool.false_eq_true, Bool.true_eq_false, qcjz, List.getElem?_cons_zero, List.getElem?_cons_succ, qckz, Int.reduceToNat, Int.reduceLE, true_and, and_true, reduceCtorEq, or_false, false_or, or_true, Option.some.injEq, exists_eq_left', Bool.not_true, Bool.not_false, ne_eq, Int.reduceEq, not_true_eq_false, not_false_eq_true, Int.reduceLT, UInt8.reduceLT, UInt8.reduceLE, UInt8.reduceToNat]
  obtain ⟨Q0, hQ0⟩ : ∃ Q0 : Ex → Env → St → Prop, Q0 = endQ st [.tmp 2] (.int .i64 (valR l), st) := ⟨_, rfl⟩
  rw [← hQ0]
  obtain ⟨I, hI⟩ : ∃ I : Nat → Env → St → Prop, I = fun k E S => ∃ (i : Nat), k = l.length - i ∧ i ≤ l.length ∧ Kept st S ∧ (l.take i).all isDg = true ∧ E 0 = .str l ∧ E 3 = .int .i64 ((valD (l.take i) : Nat) : Int) ∧ E 4 = .int .i64 (i : Int) := ⟨_, rfl⟩
  refine W_loop I ?_ (n := l.length) (by
    rw [hI]
    exact ⟨0, rfl, by omega, Kept.start, rfl, rfl, rfl, rfl⟩)
  intro k E S hh
  rw [hI] at hh
  obtain ⟨i, rfl, hi, hk, hall, h0', h3, h4⟩ := hh
  have hvl := valD_lt i (l.take i) (by simp; omega) hall
  have hpw : 10 ^ i ≤ 10 ^ 10 := Nat.pow_le_pow_right (by omega) (by omega)
  by_cases hlt : i < l.length
  · obtain ⟨c, hc⟩ : ∃ c, c = l.getD i 0 := ⟨_, rfl⟩
    have htk : l.take (i + 1) = l.take i ++ [c] := by rw [List.take_add_one, hc]; simp [List.getD, hlt]
    have bad : isDg c = false → ∀ E : Env, E 2 = .int .i64 (-1) → Q0 .ret E S := fun h E k2 => by
      have : valR l = -1 := by
        unfold valR
        rw [if_neg (by rintro (h | h); exact h0 h; omega), if_neg]
        intro q
        rw [List.all_eq_true] at q
        have : c ∈ l := by rw [hc]; simp [List.getD, hlt]
        rw [q c this] at h; cases h
      rw [hQ0, qblz, this]
      exact retI k2 hk rfl
    by_cases c1 : c < 48
    · simp (maxSteps := 1000000) (disch := omega) only [h0', h3, h4, len_s, hlt, idx_s, ← hc, c1, qaaz, qabz, qacz, qadz, qaez, qafz, qagz, qahz, qaiz, qajz, qakz, qalz, qamz, qanz, evOp, qaoz, qapz, qaqz, qarz, qasz, qatz, qauz, qavz,
 ↓reduceIte, Nat.reduceEqDiff, List.nil_append, List.cons_append, List.append_nil, List.map_cons, List.map_nil, qawz, qaxz, qayz, Option.map_some, Option.map_none, qazz, qbaz, qbbz, qbcz, qbdz, qbez, qbfz, qbgz, qbhz, qbiz, qbjz, qbkz, qblz, qbmz, qbnz, qboz,
 qbpz, qbqz, qbrz, qbsz, qbtz, qbuz, qbvz, qbwz, qbxz, qbyz, qbzz, qcaz, qcbz, qccz, qcdz, qcez, qcfz, qcgz, qchz, qciz, beq_true, beq_false, Bool.not_eq_true', decide_eq_true_eq, decide_eq_false_iff_not, decide_true, decide_false,
 Int.toNat_natCast, Int.ofNat_lt, Int.ofNat_le, Int.natCast_inj, Bool.false_eq_true, Bool.true_eq_false, qcjz, List.getElem?_cons_zero, List.getElem?_cons_succ, qckz, Int.reduceToNat, Int.reduceLE, true_and, and_true, reduceCtorEq, or_false, false_or, or_true, Option.some.injEq, exists_eq_left', Bool.not_true, Bool.not_false, ne_eq, Int.reduceEq, not_true_eq_false, not_false_eq_true, Int.reduceLT, UInt8.reduceLT, UInt8.reduceLE, UInt8.reduceToNat]
      exact bad (by simp [isDg, c1]) _ rfl
    · by_cases c2 : 57 < c
      · simp (maxSteps := 1000000) (disch := omega) only [h0', h3, h4, len_s, hlt, idx_s, ← hc, c1, c2, qaaz, qabz, qacz, qadz, qaez, qafz, qagz, qahz, qaiz, qajz, qakz, qalz, qamz, qanz, evOp, qaoz, qapz, qaqz, qarz, qasz, qatz, qauz, qavz,
 ↓reduceIte, Nat.reduceEqDiff, List.nil_append, List.cons_append, List.append_nil, List.map_cons, List.map_nil, qawz, qaxz, qayz, Option.map_some, Option.map_none, qazz, qbaz, qbbz, qbcz, qbdz, qbez, qbfz, qbgz, qbhz, qbiz, qbjz, qbkz, qblz, qbmz, qbnz, qboz,
 qbpz, qbqz, qbrz, qbsz, qbtz, qbuz, qbvz, qbwz, qbxz, qbyz, qbzz, qcaz, qcbz, qccz, qcdz, qcez, qcfz, qcgz, qchz, qciz, beq_true, beq_false, Bool.not_eq_true', decide_eq_true_eq, decide_eq_false_iff_not, decide_true, decide_false,
 Int.toNat_natCast, Int.ofNat_lt, Int.ofNat_le, Int.natCast_inj, Bool.false_eq_true, Bool.true_eq_false, qcjz, List.getElem?_cons_zero, List.getElem?_cons_succ, qckz, Int.reduceToNat, Int.reduceLE, true_and, and_true, reduceCtorEq, or_false, false_or, or_true, Option.some.injEq, exists_eq_left', Bool.not_true, Bool.not_false, ne_eq, Int.reduceEq, not_true_eq_false, not_false_eq_true, Int.reduceLT, UInt8.reduceLT, UInt8.reduceLE, UInt8.reduceToNat]
        exact bad (by simp [isDg, c2]) _ rfl
      · have hdg : isDg c = true := by simp [isDg, c1, c2]
        obtain ⟨d1, d2⟩ := dg_sub hdg
        have hcl := c.toNat_lt
        have m1 : binPV .mul .no (.int .i64 10) (.int .i64 ((valD (l.take i) : Nat) : Int)) = some (.int .i64 ((10 * valD (l.take i) : Nat) : Int)) := mul_n (c := 10) (by omega)
        have m2 : binPV .add .no (.int .i64 ((10 * valD (l.take i) : Nat) : Int)) (.int .i64 ((c.toNat : Nat) : Int)) = some (.int .i64 ((10 * valD (l.take i) + c.toNat : Nat) : Int)) := by
          rw [add_i (by omega) (by omega)]; congr 2
        have m3 : binPV .sub .no (.int .i64 ((10 * valD (l.take i) + c.toNat : Nat) : Int)) (.int .i64 48) = some (.int .i64 ((valD (l.take (i + 1)) : Nat) : Int)) := by
          rw [sub_i (by omega) (by omega), htk, valD_snoc]; congr 2; omega
        simp (maxSteps := 1000000) (disch := omega) only [h0', h3, h4, len_s, hlt, idx_s, ← hc, c1, c2, cI8t, m1, m2, m3, add_n, loopQ_normal, qaaz, qabz, qacz, qadz, qaez, qafz, qagz, qahz, qaiz, qajz, qakz, qalz, qamz, qanz, evOp, qaoz, qapz, qaqz, qarz, qasz, qatz, qauz, qavz,
 ↓reduceIte, Nat.reduceEqDiff, List.nil_append, List.cons_append, List.append_nil, List.map_cons, List.map_nil, qawz, qaxz, qayz, Option.map_some, Option.map_none, qazz, qbaz, qbbz, qbcz, qbdz, qbez, qbfz, qbgz, qbhz, qbiz, qbjz, qbkz, qblz, qbmz, qbnz, qboz,
 qbpz, qbqz, qbrz, qbsz, qbtz, qbuz, qbvz, qbwz, qbxz, qbyz, qbzz, qcaz, qcbz, qccz, qcdz, qcez, qcfz, qcgz, qchz, qciz, beq_true, beq_false, Bool.not_eq_true', decide_eq_true_eq, decide_eq_false_iff_not, decide_true, decide_false,
 Int.toNat_natCast, Int.ofNat_lt, Int.ofNat_le, Int.natCast_inj, Bool.false_eq_true, Bool.true_eq_false, qcjz, List.getElem?_cons_zero, List.getElem?_cons_succ, qckz, Int.reduceToNat, Int.reduceLE, true_and, and_true, reduceCtorEq, or_false, false_or, or_true, Option.some.injEq, exists_eq_left', Bool.not_true, Bool.not_false, ne_eq, Int.reduceEq, not_true_eq_false, not_false_eq_true, Int.reduceLT, UInt8.reduceLT, UInt8.reduceLE, UInt8.reduceToNat]
        refine ⟨l.length - (i + 1), by omega, ?_⟩
        rw [hI]
        refine ⟨i + 1, rfl, by omega, hk, ?_, h0', rfl, rfl⟩
        rw [htk, List.all_append, hall]; simp [hdg]
  · obtain rfl : i = l.length := by omega
    rw [List.take_length] at hall h3
    simp (maxSteps := 1000000) (disch := omega) only [h0', h3, h4, len_s, hlt, qaaz, qabz, qacz, qadz, qaez, qafz, qagz, qahz, qaiz, qajz, qakz, qalz, qamz, qanz, evOp, qaoz, qapz, qaqz, qarz, qasz, qatz, qauz, qavz,
 ↓reduceIte, Nat.reduceEqDiff, List.nil_append, List.cons_append, List.append_nil, List.map_cons, List.map_nil, qawz, qaxz, qayz, Option.map_some, Option.map_none, qazz, qbaz, qbbz, qbcz, qbdz, qbez, qbfz, qbgz, qbhz, qbiz, qbjz, qbkz, qblz, qbmz, qbnz, qboz,
 qbpz, qbqz, qbrz, qbsz, qbtz, qbuz, qbvz, qbwz, qbxz, qbyz, qbzz, qcaz, qcbz, qccz, qcdz, qcez, qcfz, qcgz, qchz, qciz, beq_true, beq_false, Bool.not_eq_true', decide_eq_true_eq, decide_eq_false_iff_not, decide_true, decide_false,
 Int.toNat_natCast, Int.ofNat_lt, Int.ofNat_le, Int.natCast_inj, Bool.false_eq_true, Bool.true_eq_false, qcjz, List.getElem?_cons_zero, List.getElem?_cons_succ, qckz, Int.reduceToNat, Int.reduceLE, true_and, and_true, reduceCtorEq, or_false, false_or, or_true, Option.some.injEq, exists_eq_left', Bool.not_true, Bool.not_false, ne_eq, Int.reduceEq, not_true_eq_false, not_false_eq_true, Int.reduceLT, UInt8.reduceLT, UInt8.reduceLE, UInt8.reduceToNat]
    rw [hQ0, qblz]
    refine retI rfl hk ?_
    unfold valR
    rw [if_neg (by rintro (h | h); exact h0 h; omega), if_pos hall]

/-- A number of so many digits. -/
def numR (s : Bs) (n : Nat) : Int := if s.length = n then valR s else -1
theorem numR_digD {s : Bs} {n : Nat} (h1 : 1 ≤ n) (h2 : n ≤ 10) : numR s n = digD s n n := by
  unfold numR digD valR
  by_cases h : s.length = n
  · rw [if_pos h, if_neg (by rintro (q | q); rw [q] at h; simp at h; omega; omega)]
    by_cases hd : s.all isDg = true
    · rw [if_pos hd, if_pos ⟨hd, by omega, by omega⟩]
    · rw [if_neg hd, if_neg (fun q => hd q.1)]
  · rw [if_neg h, if_neg (fun q => h (by omega))]
theorem number_spec {l : Bs} {n : Nat} (hl : l.length ≤ 1000000) : call prog (.fn 296 []) [.str l, .int .i64 (n : Int)] st = some (.int .i64 (numR l n), st) := by
  refine call_of_W prog_296 ?_
  unfold F_posthornref20_number; dsimp only
  have hv := fun S : St => Value_spec (st := S) (l := l) hl
  by_cases h : l.length = n
  · have e : ((l.length : Nat) : Int) = (n : Int) := by omega
    have : numR l n = valR l := by unfold numR; rw [if_pos h]
    rw [this]
    simp (maxSteps := 1000000) (disch := omega) only [len_s, eq_true e, eq_true h, hv, qaaz, qabz, qacz, qadz, qaez, qafz, qagz, qahz, qaiz, qajz, qakz, qalz, qamz, qanz, evOp, qaoz, qapz, qaqz, qarz, qasz, qatz, qauz, qavz,
 ↓reduceIte, Nat.reduceEqDiff, List.nil_append, List.cons_append, List.append_nil, List.map_cons, List.map_nil, qawz, qaxz, qayz, Option.map_some, Option.map_none, qazz, qbaz, qbbz, qbcz, qbdz, qbez, qbfz, qbgz, qbhz, qbiz, qbjz, qbkz, qblz, qbmz, qbnz, qboz,
 qbpz, qbqz, qbrz, qbsz, qbtz, qbuz, qbvz, qbwz, qbxz, qbyz, qbzz, qcaz, qcbz, qccz, qcdz, qcez, qcfz, qcgz, qchz, qciz, beq_true, beq_false, Bool.not_eq_true', decide_eq_true_eq, decide_eq_false_iff_not, decide_true, decide_false,
 Int.toNat_natCast, Int.ofNat_lt, Int.ofNat_le, Int.natCast_inj, Bool.false_eq_true, Bool.true_eq_false, qcjz, List.getElem?_cons_zero, List.getElem?_cons_succ, qckz, Int.reduceToNat, Int.reduceLE, true_and, and_true, reduceCtorEq, or_false, false_or, or_true, Option.some.injEq, exists_eq_left', Bool.not_true, Bool.not_false, ne_eq, Int.reduceEq, not_true_eq_false, not_false_eq_true, Int.reduceLT, UInt8.reduceLT, UInt8.reduceLE, UInt8.reduceToNat]
    exact retI rfl Kept.start rfl
  · have e : ¬ ((l.length : Nat) : Int) = (n : Int) := by omega
    have : numR l n = -1 := by unfold numR; rw [if_neg h]
    rw [this]
    simp (maxSteps := 1000000) (disch := omega) only [len_s, e, h, qaaz, qabz, qacz, qadz, qaez, qafz, qagz, qahz, qaiz, qajz, qakz, qalz, qamz, qanz, evOp, qaoz, qapz, qaqz, qarz, qasz, qatz, qauz, qavz,
 ↓reduceIte, Nat.reduceEqDiff, List.nil_append, List.cons_append, List.append_nil, List.map_cons, List.map_nil, qawz, qaxz, qayz, Option.map_some, Option.map_none, qazz, qbaz, qbbz, qbcz, qbdz, qbez, qbfz, qbgz, qbhz, qbiz, qbjz, qbkz, qblz, qbmz, qbnz, qboz,
 qbpz, qbqz, qbrz, qbsz, qbtz, qbuz, qbvz, qbwz, qbxz, qbyz, qbzz, qcaz, qcbz, qccz, qcdz, qcez, qcfz, qcgz, qchz, qciz, beq_true, beq_false, Bool.not_eq_true', decide_eq_true_eq, decide_eq_false_iff_not, decide_true, decide_false,
 Int.toNat_natCast, Int.ofNat_lt, Int.ofNat_le, Int.natCast_inj, Bool.false_eq_true, Bool.true_eq_false, qcjz, List.getElem?_cons_zero, List.getElem?_cons_succ, qckz, Int.reduceToNat, Int.reduceLE, true_and, and_true, reduceCtorEq, or_false, false_or, or_true, Option.some.injEq, exists_eq_left', Bool.not_true, Bool.not_false, ne_eq, Int.reduceEq, not_true_eq_false, not_false_eq_true, Int.reduceLT, UInt8.reduceLT, UInt8.reduceLE, UInt8.reduceToNat]
    exact retI rfl Kept.start rfl

set_option maxHeartbeats 1000000 in
theorem dayOf_spec {l : Bs} (hl : l.length ≤ 1000000) : call prog (.fn 312 []) [.str l] st = some (.int .i64 (nmD l 7 dayT), st) := by
  refine call_of_W prog_312 ?_
  unfold F_posthornref20_dayOf; dsimp only
  simp (maxSteps := 1000000) (disch := omega) only [qaaz, qabz, qacz, qadz, qaez, qafz, qagz, qahz, qaiz, qajz, qakz, qalz, qamz, qanz, evOp, qaoz, qapz, qaqz, qarz, qasz, qatz, qauz, qavz,
 ↓reduceIte, Nat.reduceEqDiff, List.nil_append, List.cons_append, List.append_nil, List.map_cons, List.map_nil, qawz, qaxz, qayz, Option.map_some, Option.map_none, qazz, qbaz, qbbz, qbcz, qbdz, qbez, qbfz, qbgz, qbhz, qbiz, qbjz, qbkz, qblz, qbmz, qbnz, qboz,
 qbpz, qbqz, qbrz, qbsz, qbtz, qbuz, qbvz, qbwz, qbxz, qbyz, qbzz, qcaz, qcbz, qccz, qcdz, qcez, qcfz, qcgz, qchz, qciz, beq_true, beq_false, Bool.not_eq_true', decide_eq_true_eq, decide_eq_false_iff_not, decide_true, decide_false,
 Int.toNat_natCast, Int.ofNat_lt, Int.ofNat_le, Int.natCast_inj, Bool.false_eq_true, Bool.true_eq_false, qcjz, List.getElem?_cons_zero, List.getElem?_cons_succ, qckz, Int.reduceToNat, Int.reduceLE, true_and, and_true, reduceCtorEq, or_false, false_or, or_true, Option.some.injEq, exists_eq_left', Bool.not_true, Bool.not_false, ne_eq, Int.reduceEq, not_true_eq_false, not_false_eq_true, Int.reduceLT, UInt8.reduceLT, UInt8.reduceLE, UInt8.reduceToNat]
  obtain ⟨Q0, hQ0⟩ : ∃ Q0 : Ex → Env → St → Prop, Q0 = endQ st [.tmp 2] (.int .i64 (nmD l 7 dayT), st) := ⟨_, rfl⟩
  rw [← hQ0]
  have hll := fun S : St => rLower_spec (st := S) (l := l) (by omega)
  have hm : ∀ i, i < 7 → nmM l dayT i = decide (lowOf (dayT i) = lowOf l) := fun i hi => by
    unfold nmM
    by_cases h : l = []
    · subst h
      have : ¬ lowOf (dayT i) = lowOf [] := fun q => by
        have := congrArg List.length q
        simp [lowOf, dayT_len hi] at this
      simp [this]
    · simp [h]
  obtain ⟨I, hI⟩ : ∃ I : Nat → Env → St → Prop, I = fun k E S => ∃ (i : Nat), k = 7 - i ∧ i ≤ 7 ∧ Kept st S ∧ (∀ j, j < i → nmM l dayT j = false) ∧ E 0 = .str l ∧ E 3 = .int .i64 (i : Int) := ⟨_, rfl⟩
  refine W_loop I ?_ (n := 7) (by
    rw [hI]
    exact ⟨0, rfl, by omega, Kept.start, fun j h => by omega, rfl, rfl⟩)
  intro k E S hh
  rw [hI] at hh
  obtain ⟨i, rfl, hi, hk, hall, h0, h3⟩ := hh
  by_cases hlt : i < 7
  · have hlt' : (i : Int) < 7 := by omega
    have hfi := fun S : St => rDay_spec (st := S) hlt
    have htl := fun S : St => rLower_spec (st := S) (l := dayT i) (by rw [dayT_len hlt]; omega)
    by_cases c1 : lowOf (dayT i) = lowOf l
    · simp (maxSteps := 1000000) (disch := omega) only [h0, h3, hlt', hfi, htl, hll, eq_true c1, qaaz, qabz, qacz, qadz, qaez, qafz, qagz, qahz, qaiz, qajz, qakz, qalz, qamz, qanz, evOp, qaoz, qapz, qaqz, qarz, qasz, qatz, qauz, qavz,
 ↓reduceIte, Nat.reduceEqDiff, List.nil_append, List.cons_append, List.append_nil, List.map_cons, List.map_nil, qawz, qaxz, qayz, Option.map_some, Option.map_none, qazz, qbaz, qbbz, qbcz, qbdz, qbez, qbfz, qbgz, qbhz, qbiz, qbjz, qbkz, qblz, qbmz, qbnz, qboz,
 qbpz, qbqz, qbrz, qbsz, qbtz, qbuz, qbvz, qbwz, qbxz, qbyz, qbzz, qcaz, qcbz, qccz, qcdz, qcez, qcfz, qcgz, qchz, qciz, beq_true, beq_false, Bool.not_eq_true', decide_eq_true_eq, decide_eq_false_iff_not, decide_true, decide_false,
 Int.toNat_natCast, Int.ofNat_lt, Int.ofNat_le, Int.natCast_inj, Bool.false_eq_true, Bool.true_eq_false, qcjz, List.getElem?_cons_zero, List.getElem?_cons_succ, qckz, Int.reduceToNat, Int.reduceLE, true_and, and_true, reduceCtorEq, or_false, false_or, or_true, Option.some.injEq, exists_eq_left', Bool.not_true, Bool.not_false, ne_eq, Int.reduceEq, not_true_eq_false, not_false_eq_true, Int.reduceLT, UInt8.reduceLT, UInt8.reduceLE, UInt8.reduceToNat]
      rw [hQ0, qblz]
      refine retI rfl hk ?_
      unfold nmD
      rw [find_at hlt hall (by rw [hm i hlt]; simp [c1])]
    · simp (maxSteps := 1000000) (disch := omega) only [h0, h3, hlt', hfi, htl, hll, c1, add_n, loopQ_normal, qaaz, qabz, qacz, qadz, qaez, qafz, qagz, qahz, qaiz, qajz, qakz, qalz, qamz, qanz, evOp, qaoz, qapz, qaqz, qarz, qasz, qatz, qauz, qavz,
 ↓reduceIte, Nat.reduceEqDiff, List.nil_append, List.cons_append, List.append_nil, List.map_cons, List.map_nil, qawz, qaxz, qayz, Option.map_some, Option.map_none, qazz, qbaz, qbbz, qbcz, qbdz, qbez, qbfz, qbgz, qbhz, qbiz, qbjz, qbkz, qblz, qbmz, qbnz, qboz,
 qbpz, qbqz, qbrz, qbsz, qbtz, qbuz, qbvz, qbwz, qbxz, qbyz, qbzz, qcaz, qcbz, qccz, qcdz, qcez, qcfz, qcgz, qchz, qciz, beq_true, beq_false, Bool.not_eq_true', decide_eq_true_eq, decide_eq_false_iff_not, decide_true, decide_false,
 Int.toNat_natCast, Int.ofNat_lt, Int.ofNat_le, Int.natCast_inj, Bool.false_eq_true, Bool.true_eq_false, qcjz, List.getElem?_cons_zero, List.getElem?_cons_succ, qckz, Int.reduceToNat, Int.reduceLE, true_and, and_true, reduceCtorEq, or_false, false_or, or_true, Option.some.injEq, exists_eq_left', Bool.not_true, Bool.not_false, ne_eq, Int.reduceEq, not_true_eq_false, not_false_eq_true, Int.reduceLT, UInt8.reduceLT, UInt8.reduceLE, UInt8.reduceToNat]
      refine ⟨7 - (i + 1), by omega, ?_⟩
      rw [hI]
      refine ⟨i + 1, rfl, by omega, hk, fun j hj => ?_, h0, rfl⟩
      by_cases hji : j = i
      · subst hji; rw [hm j hlt]; simp [c1]
      · exact hall j (by omega)
  · obtain rfl : i = 7 := by omega
    have hlt' : ¬ ((7 : Nat) : Int) < 7 := by omega
    simp (maxSteps := 1000000) (disch := omega) only [h0, h3, hlt', qaaz, qabz, qacz, qadz, qaez, qafz, qagz, qahz, qaiz, qajz, qakz, qalz, qamz, qanz, evOp, qaoz, qapz, qaqz, qarz, qasz, qatz, qauz, qavz,
 ↓reduceIte, Nat.reduceEqDiff, List.nil_append, List.cons_append, List.append_nil, List.map_cons, List.map_nil, qawz, qaxz, qayz, Option.map_some, Option.map_none, qazz, qbaz, qbbz, qbcz, qbdz, qbez, qbfz, qbgz, qbhz, qbiz, qbjz, qbkz, qblz, qbmz, qbnz, qboz,
 qbpz, qbqz, qbrz, qbsz, qbtz, qbuz, qbvz, qbwz, qbxz, qbyz, qbzz, qcaz, qcbz, qccz, qcdz, qcez, qcfz, qcgz, qchz, qciz, beq_true, beq_false, Bool.not_eq_true', decide_eq_true_eq, decide_eq_false_iff_not, decide_true, decide_false,
 Int.toNat_natCast, Int.ofNat_lt, Int.ofNat_le, Int.natCast_inj, Bool.false_eq_true, Bool.true_eq_false, qcjz, List.getElem?_cons_zero, List.getElem?_cons_succ, qckz, Int.reduceToNat, Int.reduceLE, true_and, and_true, reduceCtorEq, or_false, false_or, or_true, Option.some.injEq, exists_eq_left', Bool.not_true, Bool.not_false, ne_eq, Int.reduceEq, not_true_eq_false, not_false_eq_true, Int.reduceLT, UInt8.reduceLT, UInt8.reduceLE, UInt8.reduceToNat]
    rw [hQ0, qblz]
    refine retI rfl hk ?_
    unfold nmD
    rw [find_no hall]

set_option maxHeartbeats 1000000 in
theorem monthOf_spec {l : Bs} (hl : l.length ≤ 1000000) : call prog (.fn 298 []) [.str l] st = some (.int .i64 (nmD l 13 monT), st) := by
  refine call_of_W prog_298 ?_
  unfold F_posthornref20_monthOf; dsimp only
  simp (maxSteps := 1000000) (disch := omega) only [qaaz, qabz, qacz, qadz, qaez, qafz, qagz, qahz, qaiz, qajz, qakz, qalz, qamz, qanz, evOp, qaoz, qapz, qaqz, qarz, qasz, qatz, qauz, qavz,
 ↓reduceIte, Nat.reduceEqDiff, List.nil_append, List.cons_append, List.append_nil, List.map_cons, List.map_nil, qawz, qaxz, qayz, Option.map_some, Option.map_none, qazz, qbaz, qbbz, qbcz, qbdz, qbez, qbfz, qbgz, qbhz, qbiz, qbjz, qbkz, qblz, qbmz, qbnz, qboz,
 qbpz, qbqz, qbrz, qbsz, qbtz, qbuz, qbvz, qbwz, qbxz, qbyz, qbzz, qcaz, qcbz, qccz, qcdz, qcez, qcfz, qcgz, qchz, qciz, beq_true, beq_false, Bool.not_eq_true', decide_eq_true_eq, decide_eq_false_iff_not, decide_true, decide_false,
 Int.toNat_natCast, Int.ofNat_lt, Int.ofNat_le, Int.natCast_inj, Bool.false_eq_true, Bool.true_eq_false, qcjz, List.getElem?_cons_zero, List.getElem?_cons_succ, qckz, Int.reduceToNat, Int.reduceLE, true_and, and_true, reduceCtorEq, or_false, false_or, or_true, Option.some.injEq, exists_eq_left', Bool.not_true, Bool.not_false, ne_eq, Int.reduceEq, not_true_eq_false, not_false_eq_true, Int.reduceLT, UInt8.reduceLT, UInt8.reduceLE, UInt8.reduceToNat]
  obtain ⟨Q0, hQ0⟩ : ∃ Q0 : Ex → Env → St → Prop, Q0 = endQ st [.tmp 2] (.int .i64 (nmD l 13 monT), st) := ⟨_, rfl⟩
  rw [← hQ0]
  have hll := fun S : St => rLower_spec (st := S) (l := l) (by omega)
  have hm : ∀ i, 1 ≤ i → i ≤ 12 → nmM l monT i = decide (lowOf (monT i) = lowOf l) := fun i h1 hi => by
    unfold nmM
    by_cases h : l = []
    · subst h
      have : ¬ lowOf (monT i) = lowOf [] := fun q => by
        have := congrArg List.length q
        simp [lowOf, monT_len h1 hi] at this
      simp [this]
    · simp [h]
  have hm0 : nmM l monT 0 = false := by
    unfold nmM
    by_cases h : l = []
    · simp [h]
    · have : ¬ lowOf (monT 0) = lowOf l := fun q => by
        have := congrArg List.length q
        have h2 := List.length_pos_iff.2 h
        simp [lowOf, monT, monNames] at this
        omega
      simp [this]
  obtain ⟨I, hI⟩ : ∃ I : Nat → Env → St → Prop, I = fun k E S => ∃ (i : Nat), k = 13 - i ∧ 1 ≤ i ∧ i ≤ 13 ∧ Kept st S ∧ (∀ j, j < i → nmM l monT j = false) ∧ E 0 = .str l ∧ E 3 = .int .i64 (i : Int) := ⟨_, rfl⟩
  refine W_loop I ?_ (n := 12) (by
    rw [hI]
    exact ⟨1, rfl, by omega, by omega, Kept.start, fun j h => (show j = 0 by omega) ▸ hm0, rfl, rfl⟩)
  intro k E S hh
  rw [hI] at hh
  obtain ⟨i, rfl, hi1, hi, hk, hall, h0, h3⟩ := hh
  by_cases hlt : i ≤ 12
  · have hlt' : (i : Int) ≤ 12 := by omega
    have hfi := fun S : St => rMonthN_spec (st := S) hi1 hlt
    have htl := fun S : St => rLower_spec (st := S) (l := monT i) (by rw [monT_len hi1 hlt]; omega)
    by_cases c1 : lowOf (monT i) = lowOf l
    · simp (maxSteps := 1000000) (disch := omega) only [h0, h3, hlt', hfi, htl, hll, eq_true c1, qaaz, qabz, qacz, qadz, qaez, qafz, qagz, qahz, qaiz, qajz, qakz, qalz, qamz, qanz, evOp, qaoz, qapz, qaqz, qarz, qasz, qatz, qauz, qavz,
 ↓reduceIte, Nat.reduceEqDiff, List.nil_append, List.cons_append, List.append_nil, List.map_cons, List.map_nil, qawz, qaxz, qayz, Option.map_some, Option.map_none, qazz, qbaz, qbbz, qbcz, qbdz, qbez, qbfz, qbgz, qbhz, qbiz, qbjz, qbkz, qblz, qbmz, qbnz, qboz,
 qbpz, qbqz, qbrz, qbsz, qbtz, qbuz, qbvz, qbwz, qbxz, qbyz, qbzz, qcaz, qcbz, qccz, qcdz, qcez, qcfz, qcgz, qchz, qciz, beq_true, beq_false, Bool.not_eq_true', decide_eq_true_eq, decide_eq_false_iff_not, decide_true, decide_false,
 Int.toNat_natCast, Int.ofNat_lt, Int.ofNat_le, Int.natCast_inj, Bool.false_eq_true, Bool.true_eq_false, qcjz, List.getElem?_cons_zero, List.getElem?_cons_succ, qckz, Int.reduceToNat, Int.reduceLE, true_and, and_true, reduceCtorEq, or_false, false_or, or_true, Option.some.injEq, exists_eq_left', Bool.not_true, Bool.not_false, ne_eq, Int.reduceEq, not_true_eq_false, not_false_eq_true, Int.reduceLT, UInt8.reduceLT, UInt8.reduceLE, UInt8.reduceToNat]
      rw [hQ0, qblz]
      refine retI rfl hk ?_
      unfold nmD
      rw [find_at (by omega) hall (by rw [hm i hi1 hlt]; simp [c1])]
    · simp (maxSteps := 1000000) (disch := omega) only [h0, h3, hlt', hfi, htl, hll, c1, add_n, loopQ_normal, qaaz, qabz, qacz, qadz, qaez, qafz, qagz, qahz, qaiz, qajz, qakz, qalz, qamz, qanz, evOp, qaoz, qapz, qaqz, qarz, qasz, qatz, qauz, qavz,
 ↓reduceIte, Nat.reduceEqDiff, List.nil_append, List.cons_append, List.append_nil, List.map_cons, List.map_nil, qawz, qaxz, qayz, Option.map_some, Option.map_none, qazz, qbaz, qbbz, qbcz, qbdz, qbez, qbfz, qbgz, qbhz, qbiz, qbjz, qbkz, qblz, qbmz, qbnz, qboz,
 qbpz, qbqz, qbrz, qbsz, qbtz, qbuz, qbvz, qbwz, qbxz, qbyz, qbzz, qcaz, qcbz, qccz, qcdz, qcez, qcfz, qcgz, qchz, qciz, beq_true, beq_false, Bool.not_eq_true', decide_eq_true_eq, decide_eq_false_iff_not, decide_true, decide_false,
 Int.toNat_natCast, Int.ofNat_lt, Int.ofNat_le, Int.natCast_inj, Bool.false_eq_true, Bool.true_eq_false, qcjz, List.getElem?_cons_zero, List.getElem?_cons_succ, qckz, Int.reduceToNat, Int.reduceLE, true_and, and_true, reduceCtorEq, or_false, false_or, or_true, Option.some.injEq, exists_eq_left', Bool.not_true, Bool.not_false, ne_eq, Int.reduceEq, not_true_eq_false, not_false_eq_true, Int.reduceLT, UInt8.reduceLT, UInt8.reduceLE, UInt8.reduceToNat]
      refine ⟨13 - (i + 1), by omega, ?_⟩
      rw [hI]
      refine ⟨i + 1, rfl, by omega, by omega, hk, fun j hj => ?_, h0, rfl⟩
      by_cases hji : j = i
      · subst hji; rw [hm j hi1 hlt]; simp [c1]
      · exact hall j (by omega)
  · obtain rfl : i = 13 := by omega
    have hlt' : ¬ ((13 : Nat) : Int) ≤ 12 := by omega
    simp (maxSteps := 1000000) (disch := omega) only [h0, h3, hlt', qaaz, qabz, qacz, qadz, qaez, qafz, qagz, qahz, qaiz, qajz, qakz, qalz, qamz, qanz, evOp, qaoz, qapz, qaqz, qarz, qasz, qatz, qauz, qavz,
 ↓reduceIte, Nat.reduceEqDiff, List.nil_append, List.cons_append, List.append_nil, List.map_cons, List.map_nil, qawz, qaxz, qayz, Option.map_some, Option.map_none, qazz, qbaz, qbbz, qbcz, qbdz, qbez, qbfz, qbgz, qbhz, qbiz, qbjz, qbkz, qblz, qbmz, qbnz, qboz,
 qbpz, qbqz, qbrz, qbsz, qbtz, qbuz, qbvz, qbwz, qbxz, qbyz, qbzz, qcaz, qcbz, qccz, qcdz, qcez, qcfz, qcgz, qchz, qciz, beq_true, beq_false, Bool.not_eq_true', decide_eq_true_eq, decide_eq_false_iff_not, decide_true, decide_false,
 Int.toNat_natCast, Int.ofNat_lt, Int.ofNat_le, Int.natCast_inj, Bool.false_eq_true, Bool.true_eq_false, qcjz, List.getElem?_cons_zero, List.getElem?_cons_succ, qckz, Int.reduceToNat, Int.reduceLE, true_and, and_true, reduceCtorEq, or_false, false_or, or_true, Option.some.injEq, exists_eq_left', Bool.not_true, Bool.not_false, ne_eq, Int.reduceEq, not_true_eq_false, not_false_eq_true, Int.reduceLT, UInt8.reduceLT, UInt8.reduceLE, UInt8.reduceToNat]
    rw [hQ0, qblz]
    refine retI rfl hk ?_
    unfold nmD
    rw [find_no hall]

theorem yearOf_spec {l : Bs} (hl : l.length ≤ 1000000) : call prog (.fn 297 []) [.str l] st = some (.int .i64 (yrD l), st) := by
  refine call_of_W prog_297 ?_
  unfold F_posthornref20_yearOf; dsimp only
  have n4 : ∀ S : St, call prog (.fn 296 []) [.str l, .int .i64 4] S = some (.int .i64 (digD l 4 4), S) := fun S => by rw [← numR_digD (by omega) (by omega)]; exact number_spec (n := 4) hl
  have n2 : ∀ S : St, call prog (.fn 296 []) [.str l, .int .i64 2] S = some (.int .i64 (digD l 2 2), S) := fun S => by rw [← numR_digD (by omega) (by omega)]; exact number_spec (n := 2) hl
  by_cases h : l.length = 4
  · have e : ((l.length : Nat) : Int) = 4 := by omega
    have : yrD l = digD l 4 4 := by unfold yrD; rw [if_pos h]
    rw [this]
    simp (maxSteps := 1000000) (disch := omega) only [len_s, eq_true e, n4, qaaz, qabz, qacz, qadz, qaez, qafz, qagz, qahz, qaiz, qajz, qakz, qalz, qamz, qanz, evOp, qaoz, qapz, qaqz, qarz, qasz, qatz, qauz, qavz,
 ↓reduceIte, Nat.reduceEqDiff, List.nil_append, List.cons_append, List.append_nil, List.map_cons, List.map_nil, qawz, qaxz, qayz, Option.map_some, Option.map_none, qazz, qbaz, qbbz, qbcz, qbdz, qbez, qbfz, qbgz, qbhz, qbiz, qbjz, qbkz, qblz, qbmz, qbnz, qboz,
 qbpz, qbqz, qbrz, qbsz, qbtz, qbuz, qbvz, qbwz, qbxz, qbyz, qbzz, qcaz, qcbz, qccz, qcdz, qcez, qcfz, qcgz, qchz, qciz, beq_true, beq_false, Bool.not_eq_true', decide_eq_true_eq, decide_eq_false_iff_not, decide_true, decide_false,
 Int.toNat_natCast, Int.ofNat_lt, Int.ofNat_le, Int.natCast_inj, Bool.false_eq_true, Bool.true_eq_false, qcjz, List.getElem?_cons_zero, List.getElem?_cons_succ, qckz, Int.reduceToNat, Int.reduceLE, true_and, and_true, reduceCtorEq, or_false, false_or, or_true, Option.some.injEq, exists_eq_left', Bool.not_true, Bool.not_false, ne_eq, Int.reduceEq, not_true_eq_false, not_false_eq_true, Int.reduceLT, UInt8.reduceLT, UInt8.reduceLE, UInt8.reduceToNat]
    exact retI rfl Kept.start rfl
  · have e : ¬ ((l.length : Nat) : Int) = 4 := by omega
    have hb := digD_bound (s := l) (a := 2) (b := 2) (by omega)
    have hy : yrD l = if digD l 2 2 < 0 then -1 else if digD l 2 2 < 50 then 2000 + digD l 2 2 else 1900 + digD l 2 2 := by unfold yrD; rw [if_neg h]
    rw [hy]
    generalize digD l 2 2 = v at n2 hb
    by_cases c1 : 0 ≤ v
    · by_cases c2 : v < 50
      · rw [if_neg (by omega), if_pos c2]
        simp (maxSteps := 1000000) (disch := omega) only [len_s, e, n2, c1, c2, add_i, qaaz, qabz, qacz, qadz, qaez, qafz, qagz, qahz, qaiz, qajz, qakz, qalz, qamz, qanz, evOp, qaoz, qapz, qaqz, qarz, qasz, qatz, qauz, qavz,
 ↓reduceIte, Nat.reduceEqDiff, List.nil_append, List.cons_append, List.append_nil, List.map_cons, List.map_nil, qawz, qaxz, qayz, Option.map_some, Option.map_none, qazz, qbaz, qbbz, qbcz, qbdz, qbez, qbfz, qbgz, qbhz, qbiz, qbjz, qbkz, qblz, qbmz, qbnz, qboz,
 qbpz, qbqz, qbrz, qbsz, qbtz, qbuz, qbvz, qbwz, qbxz, qbyz, qbzz, qcaz, qcbz, qccz, qcdz, qcez, qcfz, qcgz, qchz, qciz, beq_true, beq_false, Bool.not_eq_true', decide_eq_true_eq, decide_eq_false_iff_not, decide_true, decide_false,
 Int.toNat_natCast, Int.ofNat_lt, Int.ofNat_le, Int.natCast_inj, Bool.false_eq_true, Bool.true_eq_false, qcjz, List.getElem?_cons_zero, List.getElem?_cons_succ, qckz, Int.reduceToNat, Int.reduceLE, true_and, and_true, reduceCtorEq, or_false, false_or, or_true, Option.some.injEq, exists_eq_left', Bool.not_true, Bool.not_false, ne_eq, Int.reduceEq, not_true_eq_false, not_false_eq_true, Int.reduceLT, UInt8.reduceLT, UInt8.reduceLE, UInt8.reduceToNat]
        exact retI rfl Kept.start (by omega)
      · rw [if_neg (by omega), if_neg c2]
        have c3 : 50 ≤ v := by omega
        simp (maxSteps := 1000000) (disch := omega) only [len_s, e, n2, c1, c2, c3, add_i, qaaz, qabz, qacz, qadz, qaez, qafz, qagz, qahz, qaiz, qajz, qakz, qalz, qamz, qanz, evOp, qaoz, qapz, qaqz, qarz, qasz, qatz, qauz, qavz,
 ↓reduceIte, Nat.reduceEqDiff, List.nil_append, List.cons_append, List.append_nil, List.map_cons, List.map_nil, qawz, qaxz, qayz, Option.map_some, Option.map_none, qazz, qbaz, qbbz, qbcz, qbdz, qbez, qbfz, qbgz, qbhz, qbiz, qbjz, qbkz, qblz, qbmz, qbnz, qboz,
 qbpz, qbqz, qbrz, qbsz, qbtz, qbuz, qbvz, qbwz, qbxz, qbyz, qbzz, qcaz, qcbz, qccz, qcdz, qcez, qcfz, qcgz, qchz, qciz, beq_true, beq_false, Bool.not_eq_true', decide_eq_true_eq, decide_eq_false_iff_not, decide_true, decide_false,
 Int.toNat_natCast, Int.ofNat_lt, Int.ofNat_le, Int.natCast_inj, Bool.false_eq_true, Bool.true_eq_false, qcjz, List.getElem?_cons_zero, List.getElem?_cons_succ, qckz, Int.reduceToNat, Int.reduceLE, true_and, and_true, reduceCtorEq, or_false, false_or, or_true, Option.some.injEq, exists_eq_left', Bool.not_true, Bool.not_false, ne_eq, Int.reduceEq, not_true_eq_false, not_false_eq_true, Int.reduceLT, UInt8.reduceLT, UInt8.reduceLE, UInt8.reduceToNat]
        exact retI rfl Kept.start (by omega)
    · rw [if_pos (by omega)]
      have c3 : ¬ 50 ≤ v := by omega
      simp (maxSteps := 1000000) (disch := omega) only [len_s, e, n2, c1, c3, qaaz, qabz, qacz, qadz, qaez, qafz, qagz, qahz, qaiz, qajz, qakz, qalz, qamz, qanz, evOp, qaoz, qapz, qaqz, qarz, qasz, qatz, qauz, qavz,
 ↓reduceIte, Nat.reduceEqDiff, List.nil_append, List.cons_append, List.append_nil, List.map_cons, List.map_nil, qawz, qaxz, qayz, Option.map_some, Option.map_none, qazz, qbaz, qbbz, qbcz, qbdz, qbez, qbfz, qbgz, qbhz, qbiz, qbjz, qbkz, qblz, qbmz, qbnz, qboz,
 qbpz, qbqz, qbrz, qbsz, qbtz, qbuz, qbvz, qbwz, qbxz, qbyz, qbzz, qcaz, qcbz, qccz, qcdz, qcez, qcfz, qcgz, qchz, qciz, beq_true, beq_false, Bool.not_eq_true', decide_eq_true_eq, decide_eq_false_iff_not, decide_true, decide_false,
 Int.toNat_natCast, Int.ofNat_lt, Int.ofNat_le, Int.natCast_inj, Bool.false_eq_true, Bool.true_eq_false, qcjz, List.getElem?_cons_zero, List.getElem?_cons_succ, qckz, Int.reduceToNat, Int.reduceLE, true_and, and_true, reduceCtorEq, or_false, false_or, or_true, Option.some.injEq, exists_eq_left', Bool.not_true, Bool.not_false, ne_eq, Int.reduceEq, not_true_eq_false, not_false_eq_true, Int.reduceLT, UInt8.reduceLT, UInt8.reduceLE, UInt8.reduceToNat]
      exact retI rfl Kept.start rfl
end Go.Ab

/-
  The document's dates: days, clocks, zones.
-/
namespace Go.Ab
set_option linter.unusedVariables false
set_option linter.unusedSimpArgs false
set_option maxRecDepth 20000
variable {st s : St} {e : Env}

theorem rMonth_bound (y m : Nat) : mdY y m ≤ 31 := by unfold mdY; split <;> (try split) <;> (try split) <;> omega
theorem ydY_le (y : Nat) : ydY y ≤ 366 := by unfold ydY; split <;> omega

set_option maxHeartbeats 4000000 in
theorem rDays_spec {y m d : Int} (hy : -10000 < y) (hm : -10000 < m) : call prog (.fn 299 []) [.int .i64 y, .int .i64 m, .int .i64 d] st = some (.tup [.int .i64 (daysD y m d).1, .int .i64 (daysD y m d).2], st) := by
  refine call_of_W prog_299 ?_
  unfold F_posthornref12_Days; dsimp only
  have bad : (¬ (1970 ≤ y ∧ y ≤ 9999 ∧ 1 ≤ m ∧ m ≤ 12 ∧ 1 ≤ d ∧ d ≤ (mdY y.toNat m.toNat : Int))) → daysD y m d = (0, 110) := fun h => by unfold daysD; rw [if_neg h]
  by_cases c1 : y < 1970
  · rw [bad (by omega)]
    simp (maxSteps := 1000000) (disch := omega) only [c1, qaaz, qabz, qacz, qadz, qaez, qafz, qagz, qahz, qaiz, qajz, qakz, qalz, qamz, qanz, evOp, qaoz, qapz, qaqz, qarz, qasz, qatz, qauz, qavz,
 ↓reduceIte, Nat.reduceEqDiff, List.nil_append, List.cons_append, List.append_nil, List.map_cons, List.map_nil, qawz, qaxz, qayz, Option.map_some, Option.map_none, qazz, qbaz, qbbz, qbcz, qbdz, qbez, qbfz, qbgz, qbhz, qbiz, qbjz, qbkz, qblz, qbmz, qbnz, qboz,
 qbpz, qbqz, qbrz, qbsz, qbtz, qbuz, qbvz, qbwz, qbxz, qbyz, qbzz, qcaz, qcbz, qccz, qcdz, qcez, qcfz, qcgz, qchz, qciz, beq_true, beq_false, Bool.not_eq_true', decide_eq_true_eq, decide_eq_false_iff_not, decide_true, decide_false,
 Int.toNat_natCast, Int.ofNat_lt, Int.ofNat_le, Int.natCast_inj, Bool.false_eq_true, Bool.true_eq_false, qcjz, List.getElem?_cons_zero, List.getElem?_cons_succ, qckz, Int.reduceToNat, Int.reduceLE, true_and, and_true, reduceCtorEq, or_false, false_or, or_true, Option.some.injEq, exists_eq_left', Bool.not_true, Bool.not_false, ne_eq, Int.reduceEq, not_true_eq_false, not_false_eq_true, Int.reduceLT, UInt8.reduceLT, UInt8.reduceLE, UInt8.reduceToNat]
    exact retII rfl rfl Kept.start rfl rfl
  by_cases c2 : 9999 < y
  · rw [bad (by omega)]
    simp (maxSteps := 1000000) (disch := omega) only [c1, c2, qaaz, qabz, qacz, qadz, qaez, qafz, qagz, qahz, qaiz, qajz, qakz, qalz, qamz, qanz, evOp, qaoz, qapz, qaqz, qarz, qasz, qatz, qauz, qavz,
 ↓reduceIte, Nat.reduceEqDiff, List.nil_append, List.cons_append, List.append_nil, List.map_cons, List.map_nil, qawz, qaxz, qayz, Option.map_some, Option.map_none, qazz, qbaz, qbbz, qbcz, qbdz, qbez, qbfz, qbgz, qbhz, qbiz, qbjz, qbkz, qblz, qbmz, qbnz, qboz,
 qbpz, qbqz, qbrz, qbsz, qbtz, qbuz, qbvz, qbwz, qbxz, qbyz, qbzz, qcaz, qcbz, qccz, qcdz, qcez, qcfz, qcgz, qchz, qciz, beq_true, beq_false, Bool.not_eq_true', decide_eq_true_eq, decide_eq_false_iff_not, decide_true, decide_false,
 Int.toNat_natCast, Int.ofNat_lt, Int.ofNat_le, Int.natCast_inj, Bool.false_eq_true, Bool.true_eq_false, qcjz, List.getElem?_cons_zero, List.getElem?_cons_succ, qckz, Int.reduceToNat, Int.reduceLE, true_and, and_true, reduceCtorEq, or_false, false_or, or_true, Option.some.injEq, exists_eq_left', Bool.not_true, Bool.not_false, ne_eq, Int.reduceEq, not_true_eq_false, not_false_eq_true, Int.reduceLT, UInt8.reduceLT, UInt8.reduceLE, UInt8.reduceToNat]
    exact retII rfl rfl Kept.start rfl rfl
  by_cases c3 : m < 1
  · rw [bad (by omega)]
    simp (maxSteps := 1000000) (disch := omega) only [c1, c2, c3, qaaz, qabz, qacz, qadz, qaez, qafz, qagz, qahz, qaiz, qajz, qakz, qalz, qamz, qanz, evOp, qaoz, qapz, qaqz, qarz, qasz, qatz, qauz, qavz,
 ↓reduceIte, Nat.reduceEqDiff, List.nil_append, List.cons_append, List.append_nil, List.map_cons, List.map_nil, qawz, qaxz, qayz, Option.map_some, Option.map_none, qazz, qbaz, qbbz, qbcz, qbdz, qbez, qbfz, qbgz, qbhz, qbiz, qbjz, qbkz, qblz, qbmz, qbnz, qboz,
 qbpz, qbqz, qbrz, qbsz, qbtz, qbuz, qbvz, qbwz, qbxz, qbyz, qbzz, qcaz, qcbz, qccz, qcdz, qcez, qcfz, qcgz, qchz, qciz, beq_true, beq_false, Bool.not_eq_true', decide_eq_true_eq, decide_eq_false_iff_not, decide_true, decide_false,
 Int.toNat_natCast, Int.ofNat_lt, Int.ofNat_le, Int.natCast_inj, Bool.false_eq_true, Bool.true_eq_false, qcjz, List.getElem?_cons_zero, List.getElem?_cons_succ, qckz, Int.reduceToNat, Int.reduceLE, true_and, and_true, reduceCtorEq, or_false, false_or, or_true, Option.some.injEq, exists_eq_left', Bool.not_true, Bool.not_false, ne_eq, Int.reduceEq, not_true_eq_false, not_false_eq_true, Int.reduceLT, UInt8.reduceLT, UInt8.reduceLE, UInt8.reduceToNat]
    exact retII rfl rfl Kept.start rfl rfl
  by_cases c4 : 12 < m
  · rw [bad (by omega)]
    simp (maxSteps := 1000000) (disch := omega) only [c1, c2, c3, c4, qaaz, qabz, qacz, qadz, qaez, qafz, qagz, qahz, qaiz, qajz, qakz, qalz, qamz, qanz, evOp, qaoz, qapz, qaqz, qarz, qasz, qatz, qauz, qavz,
 ↓reduceIte, Nat.reduceEqDiff, List.nil_append, List.cons_append, List.append_nil, List.map_cons, List.map_nil, qawz, qaxz, qayz, Option.map_some, Option.map_none, qazz, qbaz, qbbz, qbcz, qbdz, qbez, qbfz, qbgz, qbhz, qbiz, qbjz, qbkz, qblz, qbmz, qbnz, qboz,
 qbpz, qbqz, qbrz, qbsz, qbtz, qbuz, qbvz, qbwz, qbxz, qbyz, qbzz, qcaz, qcbz, qccz, qcdz, qcez, qcfz, qcgz, qchz, qciz, beq_true, beq_false, Bool.not_eq_true', decide_eq_true_eq, decide_eq_false_iff_not, decide_true, decide_false,
 Int.toNat_natCast, Int.ofNat_lt, Int.ofNat_le, Int.natCast_inj, Bool.false_eq_true, Bool.true_eq_false, qcjz, List.getElem?_cons_zero, List.getElem?_cons_succ, qckz, Int.reduceToNat, Int.reduceLE, true_and, and_true, reduceCtorEq, or_false, false_or, or_true, Option.some.injEq, exists_eq_left', Bool.not_true, Bool.not_false, ne_eq, Int.reduceEq, not_true_eq_false, not_false_eq_true, Int.reduceLT, UInt8.reduceLT, UInt8.reduceLE, UInt8.reduceToNat]
    exact retII rfl rfl Kept.start rfl rfl
  by_cases c5 : d < 1
  · rw [bad (by omega)]
    simp (maxSteps := 1000000) (disch := omega) only [c1, c2, c3, c4, c5, qaaz, qabz, qacz, qadz, qaez, qafz, qagz, qahz, qaiz, qajz, qakz, qalz, qamz, qanz, evOp, qaoz, qapz, qaqz, qarz, qasz, qatz, qauz, qavz,
 ↓reduceIte, Nat.reduceEqDiff, List.nil_append, List.cons_append, List.append_nil, List.map_cons, List.map_nil, qawz, qaxz, qayz, Option.map_some, Option.map_none, qazz, qbaz, qbbz, qbcz, qbdz, qbez, qbfz, qbgz, qbhz, qbiz, qbjz, qbkz, qblz, qbmz, qbnz, qboz,
 qbpz, qbqz, qbrz, qbsz, qbtz, qbuz, qbvz, qbwz, qbxz, qbyz, qbzz, qcaz, qcbz, qccz, qcdz, qcez, qcfz, qcgz, qchz, qciz, beq_true, beq_false, Bool.not_eq_true', decide_eq_true_eq, decide_eq_false_iff_not, decide_true, decide_false,
 Int.toNat_natCast, Int.ofNat_lt, Int.ofNat_le, Int.natCast_inj, Bool.false_eq_true, Bool.true_eq_false, qcjz, List.getElem?_cons_zero, List.getElem?_cons_succ, qckz, Int.reduceToNat, Int.reduceLE, true_and, and_true, reduceCtorEq, or_false, false_or, or_true, Option.some.injEq, exists_eq_left', Bool.not_true, Bool.not_false, ne_eq, Int.reduceEq, not_true_eq_false, not_false_eq_true, Int.reduceLT, UInt8.reduceLT, UInt8.reduceLE, UInt8.reduceToNat]
    exact retII rfl rfl Kept.start rfl rfl
  obtain ⟨Y, rfl⟩ : ∃ Y : Nat, y = (Y : Int) := ⟨y.toNat, by omega⟩
  obtain ⟨M, rfl⟩ : ∃ M : Nat, m = (M : Int) := ⟨m.toNat, by omega⟩
  have hmo := fun S : St => rMonth_spec (st := S) (y := Y) (m := M)
  have hmb := rMonth_bound Y M
  simp only [Int.toNat_natCast] at bad
  by_cases c6 : (mdY Y M : Int) < d
  · rw [bad (by omega)]
    simp (maxSteps := 1000000) (disch := omega) only [c1, c2, c3, c4, c5, hmo, c6, qaaz, qabz, qacz, qadz, qaez, qafz, qagz, qahz, qaiz, qajz, qakz, qalz, qamz, qanz, evOp, qaoz, qapz, qaqz, qarz, qasz, qatz, qauz, qavz,
 ↓reduceIte, Nat.reduceEqDiff, List.nil_append, List.cons_append, List.append_nil, List.map_cons, List.map_nil, qawz, qaxz, qayz, Option.map_some, Option.map_none, qazz, qbaz, qbbz, qbcz, qbdz, qbez, qbfz, qbgz, qbhz, qbiz, qbjz, qbkz, qblz, qbmz, qbnz, qboz,
 qbpz, qbqz, qbrz, qbsz, qbtz, qbuz, qbvz, qbwz, qbxz, qbyz, qbzz, qcaz, qcbz, qccz, qcdz, qcez, qcfz, qcgz, qchz, qciz, beq_true, beq_false, Bool.not_eq_true', decide_eq_true_eq, decide_eq_false_iff_not, decide_true, decide_false,
 Int.toNat_natCast, Int.ofNat_lt, Int.ofNat_le, Int.natCast_inj, Bool.false_eq_true, Bool.true_eq_false, qcjz, List.getElem?_cons_zero, List.getElem?_cons_succ, qckz, Int.reduceToNat, Int.reduceLE, true_and, and_true, reduceCtorEq, or_false, false_or, or_true, Option.some.injEq, exists_eq_left', Bool.not_true, Bool.not_false, ne_eq, Int.reduceEq, not_true_eq_false, not_false_eq_true, Int.reduceLT, UInt8.reduceLT, UInt8.reduceLE, UInt8.reduceToNat]
    exact retII rfl rfl Kept.start rfl rfl
  have hV : daysD Y M d = (((befY Y + cumY Y M : Nat) : Int) + d - 1, 0) := by
    unfold daysD; rw [if_pos (by simp only [Int.toNat_natCast]; omega)]; rfl
  rw [hV]
  obtain ⟨Q0, hQ0⟩ : ∃ Q0 : Ex → Env → St → Prop, Q0 = endQ st [.tmp 6, .tmp 7] (.tup [.int .i64 (((befY Y + cumY Y M : Nat) : Int) + d - 1), .int .i64 0], st) := ⟨_, rfl⟩
  have hbY : ∀ i, i ≤ Y → befY i ≤ 5000000 := fun i hi => by unfold befY; omega
  have hcY : ∀ i, i ≤ M → cumY Y i ≤ 366 := fun i hi => by
    have h1 := cum_mono Y (a := i) (b := 13) (by omega)
    have h2 := cum_13 Y
    have h3 := ydY_le Y
    omega
  simp (maxSteps := 1000000) (disch := omega) only [c1, c2, c3, c4, c5, hmo, c6, ← hQ0, qaaz, qabz, qacz, qadz, qaez, qafz, qagz, qahz, qaiz, qajz, qakz, qalz, qamz, qanz, evOp, qaoz, qapz, qaqz, qarz, qasz, qatz, qauz, qavz,
 ↓reduceIte, Nat.reduceEqDiff, List.nil_append, List.cons_append, List.append_nil, List.map_cons, List.map_nil, qawz, qaxz, qayz, Option.map_some, Option.map_none, qazz, qbaz, qbbz, qbcz, qbdz, qbez, qbfz, qbgz, qbhz, qbiz, qbjz, qbkz, qblz, qbmz, qbnz, qboz,
 qbpz, qbqz, qbrz, qbsz, qbtz, qbuz, qbvz, qbwz, qbxz, qbyz, qbzz, qcaz, qcbz, qccz, qcdz, qcez, qcfz, qcgz, qchz, qciz, beq_true, beq_false, Bool.not_eq_true', decide_eq_true_eq, decide_eq_false_iff_not, decide_true, decide_false,
 Int.toNat_natCast, Int.ofNat_lt, Int.ofNat_le, Int.natCast_inj, Bool.false_eq_true, Bool.true_eq_false, qcjz, List.getElem?_cons_zero, List.getElem?_cons_succ, qckz, Int.reduceToNat, Int.reduceLE, true_and, and_true, reduceCtorEq, or_false, false_or, or_true, Option.some.injEq, exists_eq_left', Bool.not_true, Bool.not_false, ne_eq, Int.reduceEq, not_true_eq_false, not_false_eq_true, Int.reduceLT, UInt8.reduceLT, UInt8.reduceLE, UInt8.reduceToNat]
  refine W_mono (Q := fun x E S => x = .exit 0 ∧ Kept st S ∧ E 0 = .int .i64 (Y : Int) ∧ E 1 = .int .i64 (M : Int) ∧ E 2 = .int .i64 d ∧ E 8 = .int .i64 ((befY Y : Nat) : Int)) ?_ ?_
  · obtain ⟨I, hI⟩ : ∃ I : Nat → Env → St → Prop, I = fun k E S => ∃ (i : Nat), k = Y - i ∧ 1970 ≤ i ∧ i ≤ Y ∧ Kept st S ∧ E 0 = .int .i64 (Y : Int) ∧ E 1 = .int .i64 (M : Int) ∧ E 2 = .int .i64 d ∧ E 8 = .int .i64 ((befY i : Nat) : Int) ∧ E 9 = .int .i64 (i : Int) := ⟨_, rfl⟩
    refine W_loop I ?_ (n := Y - 1970) (by
      rw [hI]; exact ⟨1970, rfl, by omega, by omega, Kept.start, rfl, rfl, rfl, by rw [bef_1970]; rfl, rfl⟩)
    intro k E S hh
    rw [hI] at hh
    obtain ⟨i, rfl, hi1, hi, hk, g0, g1, g2, g8, g9⟩ := hh
    by_cases hlt : i < Y
    · have hys := fun S : St => Year_spec (st := S) (y := i)
      have hb := hbY i hi
      have hyl := ydY_le i
      have ha : binPV .add .no (.int .i64 ((befY i : Nat) : Int)) (.int .i64 ((ydY i : Nat) : Int)) = some (.int .i64 ((befY (i + 1) : Nat) : Int)) := by
        rw [add_i (by omega) (by omega), bef_succ hi1]; congr 2
      simp (maxSteps := 1000000) (disch := omega) only [g0, g1, g2, g8, g9, hlt, hys, ha, add_n, loopQ_normal, qaaz, qabz, qacz, qadz, qaez, qafz, qagz, qahz, qaiz, qajz, qakz, qalz, qamz, qanz, evOp, qaoz, qapz, qaqz, qarz, qasz, qatz, qauz, qavz,
 ↓reduceIte, Nat.reduceEqDiff, List.nil_append, List.cons_append, List.append_nil, List.map_cons, List.map_nil, qawz, qaxz, qayz, Option.map_some, Option.map_none, qazz, qbaz, qbbz, qbcz, qbdz, qbez, qbfz, qbgz, qbhz, qbiz, qbjz, qbkz, qblz, qbmz, qbnz, qboz,
 qbpz, qbqz, qbrz, qbsz, qbtz, qbuz, qbvz, qbwz, qbxz, qbyz, qbzz, qcaz, qcbz, qccz, qcdz, qcez, qcfz, qcgz, qchz, qciz, beq_true, beq_false, Bool.not_eq_true', decide_eq_true_eq, decide_eq_false_iff_not, decide_true, decide_false,
 Int.toNat_natCast, Int.ofNat_lt, Int.ofNat_le, Int.natCast_inj, Bool.false_eq_true, Bool.true_eq_false, qcjz, List.getElem?_cons_zero, List.getElem?_cons_succ, qckz, Int.reduceToNat, Int.reduceLE, true_and, and_true, reduceCtorEq, or_false, false_or, or_true, Option.some.injEq, exists_eq_left', Bool.not_true, Bool.not_false, ne_eq, Int.reduceEq, not_true_eq_false, not_false_eq_true, Int.reduceLT, UInt8.reduceLT, UInt8.reduceLE, UInt8.reduceToNat]
      refine ⟨Y - (i + 1), by omega, ?_⟩
      rw [hI]; exact ⟨i + 1, rfl, by omega, by omega, hk, g0, g1, g2, rfl, rfl⟩
    · obtain rfl : i = Y := by omega
      simp (maxSteps := 1000000) (disch := omega) only [g0, g1, g2, g8, g9, hlt, qaaz, qabz, qacz, qadz, qaez, qafz, qagz, qahz, qaiz, qajz, qakz, qalz, qamz, qanz, evOp, qaoz, qapz, qaqz, qarz, qasz, qatz, qauz, qavz,
 ↓reduceIte, Nat.reduceEqDiff, List.nil_append, List.cons_append, List.append_nil, List.map_cons, List.map_nil, qawz, qaxz, qayz, Option.map_some, Option.map_none, qazz, qbaz, qbbz, qbcz, qbdz, qbez, qbfz, qbgz, qbhz, qbiz, qbjz, qbkz, qblz, qbmz, qbnz, qboz,
 qbpz, qbqz, qbrz, qbsz, qbtz, qbuz, qbvz, qbwz, qbxz, qbyz, qbzz, qcaz, qcbz, qccz, qcdz, qcez, qcfz, qcgz, qchz, qciz, beq_true, beq_false, Bool.not_eq_true', decide_eq_true_eq, decide_eq_false_iff_not, decide_true, decide_false,
 Int.toNat_natCast, Int.ofNat_lt, Int.ofNat_le, Int.natCast_inj, Bool.false_eq_true, Bool.true_eq_false, qcjz, List.getElem?_cons_zero, List.getElem?_cons_succ, qckz, Int.reduceToNat, Int.reduceLE, true_and, and_true, reduceCtorEq, or_false, false_or, or_true, Option.some.injEq, exists_eq_left', Bool.not_true, Bool.not_false, ne_eq, Int.reduceEq, not_true_eq_false, not_false_eq_true, Int.reduceLT, UInt8.reduceLT, UInt8.reduceLE, UInt8.reduceToNat]
      exact hk
  · rintro x E S ⟨rfl, hk, g0, g1, g2, g8⟩
    simp (maxSteps := 1000000) (disch := omega) only [g0, g1, g2, g8, qaaz, qabz, qacz, qadz, qaez, qafz, qagz, qahz, qaiz, qajz, qakz, qalz, qamz, qanz, evOp, qaoz, qapz, qaqz, qarz, qasz, qatz, qauz, qavz,
 ↓reduceIte, Nat.reduceEqDiff, List.nil_append, List.cons_append, List.append_nil, List.map_cons, List.map_nil, qawz, qaxz, qayz, Option.map_some, Option.map_none, qazz, qbaz, qbbz, qbcz, qbdz, qbez, qbfz, qbgz, qbhz, qbiz, qbjz, qbkz, qblz, qbmz, qbnz, qboz,
 qbpz, qbqz, qbrz, qbsz, qbtz, qbuz, qbvz, qbwz, qbxz, qbyz, qbzz, qcaz, qcbz, qccz, qcdz, qcez, qcfz, qcgz, qchz, qciz, beq_true, beq_false, Bool.not_eq_true', decide_eq_true_eq, decide_eq_false_iff_not, decide_true, decide_false,
 Int.toNat_natCast, Int.ofNat_lt, Int.ofNat_le, Int.natCast_inj, Bool.false_eq_true, Bool.true_eq_false, qcjz, List.getElem?_cons_zero, List.getElem?_cons_succ, qckz, Int.reduceToNat, Int.reduceLE, true_and, and_true, reduceCtorEq, or_false, false_or, or_true, Option.some.injEq, exists_eq_left', Bool.not_true, Bool.not_false, ne_eq, Int.reduceEq, not_true_eq_false, not_false_eq_true, Int.reduceLT, UInt8.reduceLT, UInt8.reduceLE, UInt8.reduceToNat]
    refine W_mono (Q := fun x E S => x = .exit 2 ∧ Kept st S ∧ E 2 = .int .i64 d ∧ E 8 = .int .i64 ((befY Y + cumY Y M : Nat) : Int)) ?_ ?_
    · obtain ⟨I, hI⟩ : ∃ I : Nat → Env → St → Prop, I = fun k E S => ∃ (i : Nat), k = M - i ∧ 1 ≤ i ∧ i ≤ M ∧ Kept st S ∧ E 0 = .int .i64 (Y : Int) ∧ E 1 = .int .i64 (M : Int) ∧ E 2 = .int .i64 d ∧ E 8 = .int .i64 ((befY Y + cumY Y i : Nat) : Int) ∧ E 10 = .int .i64 (i : Int) := ⟨_, rfl⟩
      refine W_loop I ?_ (n := M - 1) (by
        rw [hI]; exact ⟨1, rfl, by omega, by omega, hk, g0, g1, g2, by rw [cum_1]; exact g8, rfl⟩)
      intro k E S hh
      rw [hI] at hh
      obtain ⟨i, rfl, hi1, hi, hk, g0, g1, g2, g8, g10⟩ := hh
      have hb := hbY Y (Nat.le_refl _)
      by_cases hlt : i < M
      · have hys := fun S : St => rMonth_spec (st := S) (y := Y) (m := i)
        have hcl := hcY i hi
        have hyl := rMonth_bound Y i
        have ha : binPV .add .no (.int .i64 ((befY Y + cumY Y i : Nat) : Int)) (.int .i64 ((mdY Y i : Nat) : Int)) = some (.int .i64 ((befY Y + cumY Y (i + 1) : Nat) : Int)) := by
          rw [add_i (by omega) (by omega), cum_succ Y (by omega)]; congr 2; push_cast; omega
        simp (maxSteps := 1000000) (disch := omega) only [g0, g1, g2, g8, g10, hlt, hys, ha, add_n, loopQ_normal, qaaz, qabz, qacz, qadz, qaez, qafz, qagz, qahz, qaiz, qajz, qakz, qalz, qamz, qanz, evOp, qaoz, qapz, qaqz, qarz, qasz, qatz, qauz, qavz,
 ↓reduceIte, Nat.reduceEqDiff, List.nil_append, List.cons_append, List.append_nil, List.map_cons, List.map_nil, qawz, qaxz, qayz, Option.map_some, Option.map_none, qazz, qbaz, qbbz, qbcz, qbdz, qbez, qbfz, qbgz, qbhz, qbiz, qbjz, qbkz, qblz, qbmz, qbnz, qboz,
 qbpz, qbqz, qbrz, qbsz, qbtz, qbuz, qbvz, qbwz, qbxz, qbyz, qbzz, qcaz, qcbz, qccz, qcdz, qcez, qcfz, qcgz, qchz, qciz, beq_true, beq_false, Bool.not_eq_true', decide_eq_true_eq, decide_eq_false_iff_not, decide_true, decide_false,
 Int.toNat_natCast, Int.ofNat_lt, Int.ofNat_le, Int.natCast_inj, Bool.false_eq_true, Bool.true_eq_false, qcjz, List.getElem?_cons_zero, List.getElem?_cons_succ, qckz, Int.reduceToNat, Int.reduceLE, true_and, and_true, reduceCtorEq, or_false, false_or, or_true, Option.some.injEq, exists_eq_left', Bool.not_true, Bool.not_false, ne_eq, Int.reduceEq, not_true_eq_false, not_false_eq_true, Int.reduceLT, UInt8.reduceLT, UInt8.reduceLE, UInt8.reduceToNat]
        refine ⟨M - (i + 1), by omega, ?_⟩
        rw [hI]; exact ⟨i + 1, rfl, by omega, by omega, hk, g0, g1, g2, rfl, rfl⟩
      · obtain rfl : i = M := by omega
        simp (maxSteps := 1000000) (disch := omega) only [g0, g1, g2, g8, g10, hlt, qaaz, qabz, qacz, qadz, qaez, qafz, qagz, qahz, qaiz, qajz, qakz, qalz, qamz, qanz, evOp, qaoz, qapz, qaqz, qarz, qasz, qatz, qauz, qavz,
 ↓reduceIte, Nat.reduceEqDiff, List.nil_append, List.cons_append, List.append_nil, List.map_cons, List.map_nil, qawz, qaxz, qayz, Option.map_some, Option.map_none, qazz, qbaz, qbbz, qbcz, qbdz, qbez, qbfz, qbgz, qbhz, qbiz, qbjz, qbkz, qblz, qbmz, qbnz, qboz,
 qbpz, qbqz, qbrz, qbsz, qbtz, qbuz, qbvz, qbwz, qbxz, qbyz, qbzz, qcaz, qcbz, qccz, qcdz, qcez, qcfz, qcgz, qchz, qciz, beq_true, beq_false, Bool.not_eq_true', decide_eq_true_eq, decide_eq_false_iff_not, decide_true, decide_false,
 Int.toNat_natCast, Int.ofNat_lt, Int.ofNat_le, Int.natCast_inj, Bool.false_eq_true, Bool.true_eq_false, qcjz, List.getElem?_cons_zero, List.getElem?_cons_succ, qckz, Int.reduceToNat, Int.reduceLE, true_and, and_true, reduceCtorEq, or_false, false_or, or_true, Option.some.injEq, exists_eq_left', Bool.not_true, Bool.not_false, ne_eq, Int.reduceEq, not_true_eq_false, not_false_eq_true, Int.reduceLT, UInt8.reduceLT, UInt8.reduceLE, UInt8.reduceToNat]
        exact hk
    · rintro x E S ⟨rfl, hk, g2, g8⟩
      have hb := hbY Y (Nat.le_refl _)
      have hc := hcY M (Nat.le_refl _)
      simp (maxSteps := 1000000) (disch := omega) only [g2, g8, add_i, sub_i, qaaz, qabz, qacz, qadz, qaez, qafz, qagz, qahz, qaiz, qajz, qakz, qalz, qamz, qanz, evOp, qaoz, qapz, qaqz, qarz, qasz, qatz, qauz, qavz,
 ↓reduceIte, Nat.reduceEqDiff, List.nil_append, List.cons_append, List.append_nil, List.map_cons, List.map_nil, qawz, qaxz, qayz, Option.map_some, Option.map_none, qazz, qbaz, qbbz, qbcz, qbdz, qbez, qbfz, qbgz, qbhz, qbiz, qbjz, qbkz, qblz, qbmz, qbnz, qboz,
 qbpz, qbqz, qbrz, qbsz, qbtz, qbuz, qbvz, qbwz, qbxz, qbyz, qbzz, qcaz, qcbz, qccz, qcdz, qcez, qcfz, qcgz, qchz, qciz, beq_true, beq_false, Bool.not_eq_true', decide_eq_true_eq, decide_eq_false_iff_not, decide_true, decide_false,
 Int.toNat_natCast, Int.ofNat_lt, Int.ofNat_le, Int.natCast_inj, Bool.false_eq_true, Bool.true_eq_false, qcjz, List.getElem?_cons_zero, List.getElem?_cons_succ, qckz, Int.reduceToNat, Int.reduceLE, true_and, and_true, reduceCtorEq, or_false, false_or, or_true, Option.some.injEq, exists_eq_left', Bool.not_true, Bool.not_false, ne_eq, Int.reduceEq, not_true_eq_false, not_false_eq_true, Int.reduceLT, UInt8.reduceLT, UInt8.reduceLE, UInt8.reduceToNat]
      rw [hQ0, qblz]
      exact retII rfl rfl hk rfl rfl

/-! ### Clocks and zones -/
theorem num2 {l : Bs} (hl : l.length ≤ 1000000) (S : St) : call prog (.fn 296 []) [.str l, .int .i64 2] S = some (.int .i64 (digD l 2 2), S) := by
  rw [← numR_digD (by omega) (by omega)]; exact number_spec (n := 2) hl
theorem mul3600 {h : Int} (h1 : -100000 < h) (h2 : h < 100000) : binPV .mul .no (.int .i64 3600) (.int .i64 h) = some (.int .i64 (h * 3600)) := by
  simp only [binPV, binI, if_true, Option.some.injEq]
  rw [wrap64 (by omega) (by omega)]; congr 1; omega
theorem mul60 {h : Int} (h1 : -100000 < h) (h2 : h < 100000) : binPV .mul .no (.int .i64 60) (.int .i64 h) = some (.int .i64 (h * 60)) := by
  simp only [binPV, binI, if_true, Option.some.injEq]
  rw [wrap64 (by omega) (by omega)]; congr 1; omega

theorem splitOn_ne {c : UInt8} : ∀ (s acc : Bs), splitOn c acc s ≠ []
  | [], acc => by simp [splitOn]
  | d :: s, acc => by
    rw [splitOn]
    split
    · simp
    · exact splitOn_ne s _

set_option maxHeartbeats 4000000 in
theorem clockOf_spec {l : Bs} (hl : l.length ≤ 1000000) : call prog (.fn 300 []) [.str l] st = some (.int .i64 (clkD l), st) := by
  refine call_of_W prog_300 ?_
  unfold F_posthornref20_clockOf; dsimp only
  obtain ⟨xs, hxs⟩ : ∃ xs, xs = splitOn 58 [] l := ⟨_, rfl⟩
  have hsp := Parts_spec (st := ⟨st.boxes, st.toks, st.loops, st.boxes.length⟩) (c := 58) (l := l) (by omega)
  have hlen := split_len (sep := 58) l []
  have hnum := split_num (sep := 58) l []
  have hne := splitOn_ne (c := 58) l []
  rw [← hxs] at hsp hlen hnum hne
  simp only [List.length_nil, Nat.zero_add] at hlen
  have hV : newSl (⟨st.boxes, st.toks, st.loops, st.boxes.length⟩ : St) 1 (xs.map .str) = rowV (.own st.toks.length) xs := by
    unfold newSl; rw [if_neg (by simpa using hne)]; rfl
  rw [hV] at hsp
  simp only [St.tok1] at hsp
  have hD : clkD l = if xs.length < 2 ∨ 3 < xs.length then -1 else hmsD (digD (xs.getD 0 []) 2 2) (digD (xs.getD 1 []) 2 2) (if xs.length = 3 then digD (xs.getD 2 []) 2 2 else 0) := by
    unfold clkD; rw [← hxs]
  have hget : ∀ k, (xs.getD k []).length ≤ 1000000 := fun k => by
    rcases Nat.lt_or_ge k xs.length with h | h
    · have : xs.getD k [] = xs[k] := by simp [List.getD, h]
      rw [this]; have := hlen _ (List.getElem_mem h); omega
    · simp [List.getD, h]
  obtain ⟨Q0, hQ0⟩ : ∃ Q0 : Ex → Env → St → Prop, Q0 = endQ st [.tmp 2] (.int .i64 (clkD l), st) := ⟨_, rfl⟩
  rw [← hQ0]
  refine W_cut (fun E S => S = ⟨st.boxes, st.toks, st.loops, st.boxes.length⟩ ∧ E 0 = .str l) ?_ ?_
  · simp (maxSteps := 1000000) (disch := omega) only [qaaz, qabz, qacz, qadz, qaez, qafz, qagz, qahz, qaiz, qajz, qakz, qalz, qamz, qanz, evOp, qaoz, qapz, qaqz, qarz, qasz, qatz, qauz, qavz,
 ↓reduceIte, Nat.reduceEqDiff, List.nil_append, List.cons_append, List.append_nil, List.map_cons, List.map_nil, qawz, qaxz, qayz, Option.map_some, Option.map_none, qazz, qbaz, qbbz, qbcz, qbdz, qbez, qbfz, qbgz, qbhz, qbiz, qbjz, qbkz, qblz, qbmz, qbnz, qboz,
 qbpz, qbqz, qbrz, qbsz, qbtz, qbuz, qbvz, qbwz, qbxz, qbyz, qbzz, qcaz, qcbz, qccz, qcdz, qcez, qcfz, qcgz, qchz, qciz, beq_true, beq_false, Bool.not_eq_true', decide_eq_true_eq, decide_eq_false_iff_not, decide_true, decide_false,
 Int.toNat_natCast, Int.ofNat_lt, Int.ofNat_le, Int.natCast_inj, Bool.false_eq_true, Bool.true_eq_false, qcjz, List.getElem?_cons_zero, List.getElem?_cons_succ, qckz, Int.reduceToNat, Int.reduceLE, true_and, and_true, reduceCtorEq, or_false, false_or, or_true, Option.some.injEq, exists_eq_left', Bool.not_true, Bool.not_false, ne_eq, Int.reduceEq, not_true_eq_false, not_false_eq_true, Int.reduceLT, UInt8.reduceLT, UInt8.reduceLE, UInt8.reduceToNat]
  rintro E S ⟨rfl, g0⟩
  refine W_cut (fun E S => S = ⟨st.boxes, st.toks ++ [true], st.loops, st.boxes.length⟩ ∧ E 3 = rowV (.own st.toks.length) xs) ?_ ?_
  · simp (maxSteps := 1000000) (disch := omega) only [g0, hsp, qaaz, qabz, qacz, qadz, qaez, qafz, qagz, qahz, qaiz, qajz, qakz, qalz, qamz, qanz, evOp, qaoz, qapz, qaqz, qarz, qasz, qatz, qauz, qavz,
 ↓reduceIte, Nat.reduceEqDiff, List.nil_append, List.cons_append, List.append_nil, List.map_cons, List.map_nil, qawz, qaxz, qayz, Option.map_some, Option.map_none, qazz, qbaz, qbbz, qbcz, qbdz, qbez, qbfz, qbgz, qbhz, qbiz, qbjz, qbkz, qblz, qbmz, qbnz, qboz,
 qbpz, qbqz, qbrz, qbsz, qbtz, qbuz, qbvz, qbwz, qbxz, qbyz, qbzz, qcaz, qcbz, qccz, qcdz, qcez, qcfz, qcgz, qchz, qciz, beq_true, beq_false, Bool.not_eq_true', decide_eq_true_eq, decide_eq_false_iff_not, decide_true, decide_false,
 Int.toNat_natCast, Int.ofNat_lt, Int.ofNat_le, Int.natCast_inj, Bool.false_eq_true, Bool.true_eq_false, qcjz, List.getElem?_cons_zero, List.getElem?_cons_succ, qckz, Int.reduceToNat, Int.reduceLE, true_and, and_true, reduceCtorEq, or_false, false_or, or_true, Option.some.injEq, exists_eq_left', Bool.not_true, Bool.not_false, ne_eq, Int.reduceEq, not_true_eq_false, not_false_eq_true, Int.reduceLT, UInt8.reduceLT, UInt8.reduceLE, UInt8.reduceToNat]
  rintro E S ⟨rfl, g3⟩
  refine W_cut (fun E S => Kept st S ∧ ∃ t ys, E 3 = rowV t ys ∧ (∀ k, (ys.getD k []).length ≤ 1000000) ∧ ys.length ≤ 2000000 ∧ (if ys.length = 3 then clkD l = hmsD (digD (ys.getD 0 []) 2 2) (digD (ys.getD 1 []) 2 2) (digD (ys.getD 2 []) 2 2) else clkD l = -1)) ?_ ?_
  · by_cases h2 : xs.length = 2
    · have h2' : (xs.length : Int) = 2 := by omega
      have ha : appV 1 ⟨st.boxes, st.toks ++ [true] ++ [true], st.loops, st.boxes.length⟩ (rowV (.own st.toks.length) xs) (.sl 1 (.own (st.toks ++ [true]).length) [.str [48, 48]]) = some (rowV (.own (st.toks.length + 2)) (xs ++ [[48, 48]]), ⟨st.boxes, st.toks ++ [false, true, true], st.loops, st.boxes.length⟩) := by
        simp [appV, srcV, rowV, appTok, freshT, room, h2]
      have hl1 : litFill 1 (List.replicate 1 (.str [])) [(0, .str [48, 48])] = some [.str [48, 48]] := rfl
      simp (maxSteps := 1000000) (disch := omega) only [g3, len_row, eq_true h2', hl1, freshT, ha, qaaz, qabz, qacz, qadz, qaez, qafz, qagz, qahz, qaiz, qajz, qakz, qalz, qamz, qanz, evOp, qaoz, qapz, qaqz, qarz, qasz, qatz, qauz, qavz,
 ↓reduceIte, Nat.reduceEqDiff, List.nil_append, List.cons_append, List.append_nil, List.map_cons, List.map_nil, qawz, qaxz, qayz, Option.map_some, Option.map_none, qazz, qbaz, qbbz, qbcz, qbdz, qbez, qbfz, qbgz, qbhz, qbiz, qbjz, qbkz, qblz, qbmz, qbnz, qboz,
 qbpz, qbqz, qbrz, qbsz, qbtz, qbuz, qbvz, qbwz, qbxz, qbyz, qbzz, qcaz, qcbz, qccz, qcdz, qcez, qcfz, qcgz, qchz, qciz, beq_true, beq_false, Bool.not_eq_true', decide_eq_true_eq, decide_eq_false_iff_not, decide_true, decide_false,
 Int.toNat_natCast, Int.ofNat_lt, Int.ofNat_le, Int.natCast_inj, Bool.false_eq_true, Bool.true_eq_false, qcjz, List.getElem?_cons_zero, List.getElem?_cons_succ, qckz, Int.reduceToNat, Int.reduceLE, true_and, and_true, reduceCtorEq, or_false, false_or, or_true, Option.some.injEq, exists_eq_left', Bool.not_true, Bool.not_false, ne_eq, Int.reduceEq, not_true_eq_false, not_false_eq_true, Int.reduceLT, UInt8.reduceLT, UInt8.reduceLE, UInt8.reduceToNat]
      refine ⟨⟨by simp, rfl, Nat.le_refl _, by simp⟩, _, _, rfl, fun k => ?_, by simp; omega, ?_⟩
      · rcases Nat.lt_or_ge k xs.length with h | h
        · have := hget k
          simp only [List.getD, List.getElem?_append_left h] at this ⊢; exact this
        · simp only [List.getD, List.getElem?_append_right h]
          by_cases hk : k - xs.length = 0
          · simp [hk]
          · have : ([[48, 48]] : List Bs)[k - xs.length]? = none := List.getElem?_eq_none (by simp; omega)
            simp [this]
      · rw [if_pos (by simp [h2]), hD, if_neg (by omega), if_neg (by omega)]
        have e0 : (xs ++ [[48, 48]]).getD 0 [] = xs.getD 0 [] := by simp only [List.getD, List.getElem?_append_left (show 0 < xs.length by omega)]
        have e1 : (xs ++ [[48, 48]]).getD 1 [] = xs.getD 1 [] := by simp only [List.getD, List.getElem?_append_left (show 1 < xs.length by omega)]
        have e2 : (xs ++ [[48, 48]]).getD 2 [] = [48, 48] := by simp [List.getD, List.getElem?_append_right (show xs.length ≤ 2 by omega), h2]
        rw [e0, e1, e2]
        rfl
    · have h2' : ¬ (xs.length : Int) = 2 := by omega
      simp (maxSteps := 1000000) (disch := omega) only [g3, len_row, h2', qaaz, qabz, qacz, qadz, qaez, qafz, qagz, qahz, qaiz, qajz, qakz, qalz, qamz, qanz, evOp, qaoz, qapz, qaqz, qarz, qasz, qatz, qauz, qavz,
 ↓reduceIte, Nat.reduceEqDiff, List.nil_append, List.cons_append, List.append_nil, List.map_cons, List.map_nil, qawz, qaxz, qayz, Option.map_some, Option.map_none, qazz, qbaz, qbbz, qbcz, qbdz, qbez, qbfz, qbgz, qbhz, qbiz, qbjz, qbkz, qblz, qbmz, qbnz, qboz,
 qbpz, qbqz, qbrz, qbsz, qbtz, qbuz, qbvz, qbwz, qbxz, qbyz, qbzz, qcaz, qcbz, qccz, qcdz, qcez, qcfz, qcgz, qchz, qciz, beq_true, beq_false, Bool.not_eq_true', decide_eq_true_eq, decide_eq_false_iff_not, decide_true, decide_false,
 Int.toNat_natCast, Int.ofNat_lt, Int.ofNat_le, Int.natCast_inj, Bool.false_eq_true, Bool.true_eq_false, qcjz, List.getElem?_cons_zero, List.getElem?_cons_succ, qckz, Int.reduceToNat, Int.reduceLE, true_and, and_true, reduceCtorEq, or_false, false_or, or_true, Option.some.injEq, exists_eq_left', Bool.not_true, Bool.not_false, ne_eq, Int.reduceEq, not_true_eq_false, not_false_eq_true, Int.reduceLT, UInt8.reduceLT, UInt8.reduceLE, UInt8.reduceToNat]
      refine ⟨⟨by simp, rfl, Nat.le_refl _, by simp⟩, _, _, rfl, hget, by omega, ?_⟩
      by_cases h3 : xs.length = 3
      · rw [if_pos h3, hD, if_neg (by omega), if_pos h3]
      · rw [if_neg h3, hD, if_pos (by omega)]
  rintro E S ⟨hk, t, ys, g3, hgy, hyl, hcl⟩
  by_cases h3 : ys.length = 3
  · rw [if_pos h3] at hcl
    have h3' : (ys.length : Int) = 3 := by omega
    have i0 : iaddrPV 1 (rowV t ys) (.int .i64 0) = some (.cp [.str (ys.getD 0 [])]) := iaddr_t rowV_vs (by omega) (by simp; omega)
    have i1 : iaddrPV 1 (rowV t ys) (.int .i64 1) = some (.cp [.str (ys.getD 1 [])]) := iaddr_t rowV_vs (by omega) (by simp; omega)
    have i2 : iaddrPV 1 (rowV t ys) (.int .i64 2) = some (.cp [.str (ys.getD 2 [])]) := iaddr_t rowV_vs (by omega) (by simp; omega)
    have n0 := num2 (hgy 0); have n1 := num2 (hgy 1); have n2 := num2 (hgy 2)
    have b0 := digD_bound (s := ys.getD 0 []) (a := 2) (b := 2) (by omega)
    have b1 := digD_bound (s := ys.getD 1 []) (a := 2) (b := 2) (by omega)
    have b2 := digD_bound (s := ys.getD 2 []) (a := 2) (b := 2) (by omega)
    generalize digD (ys.getD 0 []) 2 2 = h at n0 b0 hcl
    generalize digD (ys.getD 1 []) 2 2 = m at n1 b1 hcl
    generalize digD (ys.getD 2 []) 2 2 = c at n2 b2 hcl
    have bad : hmsD h m c = -1 → ∀ E : Env, E 2 = .int .i64 (-1) → Q0 .ret E S := fun q E k2 => by
      rw [hQ0, qblz, hcl, q]; exact retI k2 hk rfl
    by_cases a1 : h < 0
    · simp (maxSteps := 1000000) (disch := omega) only [g3, len_row, eq_true h3', i0, i1, i2, lc1, n0, n1, n2, a1, qaaz, qabz, qacz, qadz, qaez, qafz, qagz, qahz, qaiz, qajz, qakz, qalz, qamz, qanz, evOp, qaoz, qapz, qaqz, qarz, qasz, qatz, qauz, qavz,
 ↓reduceIte, Nat.reduceEqDiff, List.nil_append, List.cons_append, List.append_nil, List.map_cons, List.map_nil, qawz, qaxz, qayz, Option.map_some, Option.map_none, qazz, qbaz, qbbz, qbcz, qbdz, qbez, qbfz, qbgz, qbhz, qbiz, qbjz, qbkz, qblz, qbmz, qbnz, qboz,
 qbpz, qbqz, qbrz, qbsz, qbtz, qbuz, qbvz, qbwz, qbxz, qbyz, qbzz, qcaz, qcbz, qccz, qcdz, qcez, qcfz, qcgz, qchz, qciz, beq_true, beq_false, Bool.not_eq_true', decide_eq_true_eq, decide_eq_false_iff_not, decide_true, decide_false,
 Int.toNat_natCast, Int.ofNat_lt, Int.ofNat_le, Int.natCast_inj, Bool.false_eq_true, Bool.true_eq_false, qcjz, List.getElem?_cons_zero, List.getElem?_cons_succ, qckz, Int.reduceToNat, Int.reduceLE, true_and, and_true, reduceCtorEq, or_false, false_or, or_true, Option.some.injEq, exists_eq_left', Bool.not_true, Bool.not_false, ne_eq, Int.reduceEq, not_true_eq_false, not_false_eq_true, Int.reduceLT, UInt8.reduceLT, UInt8.reduceLE, UInt8.reduceToNat]
      exact bad (by simp [hmsD, a1]) _ rfl
    by_cases a2 : 24 ≤ h
    · simp (maxSteps := 1000000) (disch := omega) only [g3, len_row, eq_true h3', i0, i1, i2, lc1, n0, n1, n2, a1, a2, qaaz, qabz, qacz, qadz, qaez, qafz, qagz, qahz, qaiz, qajz, qakz, qalz, qamz, qanz, evOp, qaoz, qapz, qaqz, qarz, qasz, qatz, qauz, qavz,
 ↓reduceIte, Nat.reduceEqDiff, List.nil_append, List.cons_append, List.append_nil, List.map_cons, List.map_nil, qawz, qaxz, qayz, Option.map_some, Option.map_none, qazz, qbaz, qbbz, qbcz, qbdz, qbez, qbfz, qbgz, qbhz, qbiz, qbjz, qbkz, qblz, qbmz, qbnz, qboz,
 qbpz, qbqz, qbrz, qbsz, qbtz, qbuz, qbvz, qbwz, qbxz, qbyz, qbzz, qcaz, qcbz, qccz, qcdz, qcez, qcfz, qcgz, qchz, qciz, beq_true, beq_false, Bool.not_eq_true', decide_eq_true_eq, decide_eq_false_iff_not, decide_true, decide_false,
 Int.toNat_natCast, Int.ofNat_lt, Int.ofNat_le, Int.natCast_inj, Bool.false_eq_true, Bool.true_eq_false, qcjz, List.getElem?_cons_zero, List.getElem?_cons_succ, qckz, Int.reduceToNat, Int.reduceLE, true_and, and_true, reduceCtorEq, or_false, false_or, or_true, Option.some.injEq, exists_eq_left', Bool.not_true, Bool.not_false, ne_eq, Int.reduceEq, not_true_eq_false, not_false_eq_true, Int.reduceLT, UInt8.reduceLT, UInt8.reduceLE, UInt8.reduceToNat]
      exact bad (by unfold hmsD; rw [if_pos (by omega)]) _ rfl
    by_cases a3 : m < 0
    · simp (maxSteps := 1000000) (disch := omega) only [g3, len_row, eq_true h3', i0, i1, i2, lc1, n0, n1, n2, a1, a2, a3, qaaz, qabz, qacz, qadz, qaez, qafz, qagz, qahz, qaiz, qajz, qakz, qalz, qamz, qanz, evOp, qaoz, qapz, qaqz, qarz, qasz, qatz, qauz, qavz,
 ↓reduceIte, Nat.reduceEqDiff, List.nil_append, List.cons_append, List.append_nil, List.map_cons, List.map_nil, qawz, qaxz, qayz, Option.map_some, Option.map_none, qazz, qbaz, qbbz, qbcz, qbdz, qbez, qbfz, qbgz, qbhz, qbiz, qbjz, qbkz, qblz, qbmz, qbnz, qboz,
 qbpz, qbqz, qbrz, qbsz, qbtz, qbuz, qbvz, qbwz, qbxz, qbyz, qbzz, qcaz, qcbz, qccz, qcdz, qcez, qcfz, qcgz, qchz, qciz, beq_true, beq_false, Bool.not_eq_true', decide_eq_true_eq, decide_eq_false_iff_not, decide_true, decide_false,
 Int.toNat_natCast, Int.ofNat_lt, Int.ofNat_le, Int.natCast_inj, Bool.false_eq_true, Bool.true_eq_false, qcjz, List.getElem?_cons_zero, List.getElem?_cons_succ, qckz, Int.reduceToNat, Int.reduceLE, true_and, and_true, reduceCtorEq, or_false, false_or, or_true, Option.some.injEq, exists_eq_left', Bool.not_true, Bool.not_false, ne_eq, Int.reduceEq, not_true_eq_false, not_false_eq_true, Int.reduceLT, UInt8.reduceLT, UInt8.reduceLE, UInt8.reduceToNat]
      exact bad (by simp [hmsD, a3]) _ rfl
    by_cases a4 : 60 ≤ m
    · simp (maxSteps := 1000000) (disch := omega) only [g3, len_row, eq_true h3', i0, i1, i2, lc1, n0, n1, n2, a1, a2, a3, a4, qaaz, qabz, qacz, qadz, qaez, qafz, qagz, qahz, qaiz, qajz, qakz, qalz, qamz, qanz, evOp, qaoz, qapz, qaqz, qarz, qasz, qatz, qauz, qavz,
 ↓reduceIte, Nat.reduceEqDiff, List.nil_append, List.cons_append, List.append_nil, List.map_cons, List.map_nil, qawz, qaxz, qayz, Option.map_some, Option.map_none, qazz, qbaz, qbbz, qbcz, qbdz, qbez, qbfz, qbgz, qbhz, qbiz, qbjz, qbkz, qblz, qbmz, qbnz, qboz,
 qbpz, qbqz, qbrz, qbsz, qbtz, qbuz, qbvz, qbwz, qbxz, qbyz, qbzz, qcaz, qcbz, qccz, qcdz, qcez, qcfz, qcgz, qchz, qciz, beq_true, beq_false, Bool.not_eq_true', decide_eq_true_eq, decide_eq_false_iff_not, decide_true, decide_false,
 Int.toNat_natCast, Int.ofNat_lt, Int.ofNat_le, Int.natCast_inj, Bool.false_eq_true, Bool.true_eq_false, qcjz, List.getElem?_cons_zero, List.getElem?_cons_succ, qckz, Int.reduceToNat, Int.reduceLE, true_and, and_true, reduceCtorEq, or_false, false_or, or_true, Option.some.injEq, exists_eq_left', Bool.not_true, Bool.not_false, ne_eq, Int.reduceEq, not_true_eq_false, not_false_eq_true, Int.reduceLT, UInt8.reduceLT, UInt8.reduceLE, UInt8.reduceToNat]
      exact bad (by unfold hmsD; rw [if_pos (by omega)]) _ rfl
    by_cases a5 : c < 0
    · simp (maxSteps := 1000000) (disch := omega) only [g3, len_row, eq_true h3', i0, i1, i2, lc1, n0, n1, n2, a1, a2, a3, a4, a5, qaaz, qabz, qacz, qadz, qaez, qafz, qagz, qahz, qaiz, qajz, qakz, qalz, qamz, qanz, evOp, qaoz, qapz, qaqz, qarz, qasz, qatz, qauz, qavz,
 ↓reduceIte, Nat.reduceEqDiff, List.nil_append, List.cons_append, List.append_nil, List.map_cons, List.map_nil, qawz, qaxz, qayz, Option.map_some, Option.map_none, qazz, qbaz, qbbz, qbcz, qbdz, qbez, qbfz, qbgz, qbhz, qbiz, qbjz, qbkz, qblz, qbmz, qbnz, qboz,
 qbpz, qbqz, qbrz, qbsz, qbtz, qbuz, qbvz, qbwz, qbxz, qbyz, qbzz, qcaz, qcbz, qccz, qcdz, qcez, qcfz, qcgz, qchz, qciz, beq_true, beq_false, Bool.not_eq_true', decide_eq_true_eq, decide_eq_false_iff_not, decide_true, decide_false,
 Int.toNat_natCast, Int.ofNat_lt, Int.ofNat_le, Int.natCast_inj, Bool.false_eq_true, Bool.true_eq_false, qcjz, List.getElem?_cons_zero, List.getElem?_cons_succ, qckz, Int.reduceToNat, Int.reduceLE, true_and, and_true, reduceCtorEq, or_false, false_or, or_true, Option.some.injEq, exists_eq_left', Bool.not_true, Bool.not_false, ne_eq, Int.reduceEq, not_true_eq_false, not_false_eq_true, Int.reduceLT, UInt8.reduceLT, UInt8.reduceLE, UInt8.reduceToNat]
      exact bad (by simp [hmsD, a5]) _ rfl
    by_cases a6 : 60 < c
    · simp (maxSteps := 1000000) (disch := omega) only [g3, len_row, eq_true h3', i0, i1, i2, lc1, n0, n1, n2, a1, a2, a3, a4, a5, a6, qaaz, qabz, qacz, qadz, qaez, qafz, qagz, qahz, qaiz, qajz, qakz, qalz, qamz, qanz, evOp, qaoz, qapz, qaqz, qarz, qasz, qatz, qauz, qavz,
 ↓reduceIte, Nat.reduceEqDiff, List.nil_append, List.cons_append, List.append_nil, List.map_cons, List.map_nil, qawz, qaxz, qayz, Option.map_some, Option.map_none, qazz, qbaz, qbbz, qbcz, qbdz, qbez, qbfz, qbgz, qbhz, qbiz, qbjz, qbkz, qblz, qbmz, qbnz, qboz,
 qbpz, qbqz, qbrz, qbsz, qbtz, qbuz, qbvz, qbwz, qbxz, qbyz, qbzz, qcaz, qcbz, qccz, qcdz, qcez, qcfz, qcgz, qchz, qciz, beq_true, beq_false, Bool.not_eq_true', decide_eq_true_eq, decide_eq_false_iff_not, decide_true, decide_false,
 Int.toNat_natCast, Int.ofNat_lt, Int.ofNat_le, Int.natCast_inj, Bool.false_eq_true, Bool.true_eq_false, qcjz, List.getElem?_cons_zero, List.getElem?_cons_succ, qckz, Int.reduceToNat, Int.reduceLE, true_and, and_true, reduceCtorEq, or_false, false_or, or_true, Option.some.injEq, exists_eq_left', Bool.not_true, Bool.not_false, ne_eq, Int.reduceEq, not_true_eq_false, not_false_eq_true, Int.reduceLT, UInt8.reduceLT, UInt8.reduceLE, UInt8.reduceToNat]
      exact bad (by simp [hmsD, a6]) _ rfl
    have good : hmsD h m c = h * 3600 + m * 60 + min c 59 := by unfold hmsD; rw [if_neg (by omega)]
    by_cases a7 : c = 60
    · simp (maxSteps := 1000000) (disch := omega) only [g3, len_row, eq_true h3', i0, i1, i2, lc1, n0, n1, n2, a1, a2, a3, a4, a5, a6, eq_true a7, mul3600, mul60, add_i, qaaz, qabz, qacz, qadz, qaez, qafz, qagz, qahz, qaiz, qajz, qakz, qalz, qamz, qanz, evOp, qaoz, qapz, qaqz, qarz, qasz, qatz, qauz, qavz,
 ↓reduceIte, Nat.reduceEqDiff, List.nil_append, List.cons_append, List.append_nil, List.map_cons, List.map_nil, qawz, qaxz, qayz, Option.map_some, Option.map_none, qazz, qbaz, qbbz, qbcz, qbdz, qbez, qbfz, qbgz, qbhz, qbiz, qbjz, qbkz, qblz, qbmz, qbnz, qboz,
 qbpz, qbqz, qbrz, qbsz, qbtz, qbuz, qbvz, qbwz, qbxz, qbyz, qbzz, qcaz, qcbz, qccz, qcdz, qcez, qcfz, qcgz, qchz, qciz, beq_true, beq_false, Bool.not_eq_true', decide_eq_true_eq, decide_eq_false_iff_not, decide_true, decide_false,
 Int.toNat_natCast, Int.ofNat_lt, Int.ofNat_le, Int.natCast_inj, Bool.false_eq_true, Bool.true_eq_false, qcjz, List.getElem?_cons_zero, List.getElem?_cons_succ, qckz, Int.reduceToNat, Int.reduceLE, true_and, and_true, reduceCtorEq, or_false, false_or, or_true, Option.some.injEq, exists_eq_left', Bool.not_true, Bool.not_false, ne_eq, Int.reduceEq, not_true_eq_false, not_false_eq_true, Int.reduceLT, UInt8.reduceLT, UInt8.reduceLE, UInt8.reduceToNat]
      rw [hQ0, qblz, hcl, good]; exact retI rfl hk (by omega)
    · simp (maxSteps := 1000000) (disch := omega) only [g3, len_row, eq_true h3', i0, i1, i2, lc1, n0, n1, n2, a1, a2, a3, a4, a5, a6, a7, mul3600, mul60, add_i, qaaz, qabz, qacz, qadz, qaez, qafz, qagz, qahz, qaiz, qajz, qakz, qalz, qamz, qanz, evOp, qaoz, qapz, qaqz, qarz, qasz, qatz, qauz, qavz,
 ↓reduceIte, Nat.reduceEqDiff, List.nil_append, List.cons_append, List.append_nil, List.map_cons, List.map_nil, qawz, qaxz, qayz, Option.map_some, Option.map_none, qazz, qbaz, qbbz, qbcz, qbdz, qbez, qbfz, qbgz, qbhz, qbiz, qbjz, qbkz, qblz, qbmz, qbnz, qboz,
 qbpz, qbqz, qbrz, qbsz, qbtz, qbuz, qbvz, qbwz, qbxz, qbyz, qbzz, qcaz, qcbz, qccz, qcdz, qcez, qcfz, qcgz, qchz, qciz, beq_true, beq_false, Bool.not_eq_true', decide_eq_true_eq, decide_eq_false_iff_not, decide_true, decide_false,
 Int.toNat_natCast, Int.ofNat_lt, Int.ofNat_le, Int.natCast_inj, Bool.false_eq_true, Bool.true_eq_false, qcjz, List.getElem?_cons_zero, List.getElem?_cons_succ, qckz, Int.reduceToNat, Int.reduceLE, true_and, and_true, reduceCtorEq, or_false, false_or, or_true, Option.some.injEq, exists_eq_left', Bool.not_true, Bool.not_false, ne_eq, Int.reduceEq, not_true_eq_false, not_false_eq_true, Int.reduceLT, UInt8.reduceLT, UInt8.reduceLE, UInt8.reduceToNat]
      rw [hQ0, qblz, hcl, good]; exact retI rfl hk (by omega)
  · rw [if_neg h3] at hcl
    have h3' : ¬ (ys.length : Int) = 3 := by omega
    simp (maxSteps := 1000000) (disch := omega) only [g3, len_row, h3', qaaz, qabz, qacz, qadz, qaez, qafz, qagz, qahz, qaiz, qajz, qakz, qalz, qamz, qanz, evOp, qaoz, qapz, qaqz, qarz, qasz, qatz, qauz, qavz,
 ↓reduceIte, Nat.reduceEqDiff, List.nil_append, List.cons_append, List.append_nil, List.map_cons, List.map_nil, qawz, qaxz, qayz, Option.map_some, Option.map_none, qazz, qbaz, qbbz, qbcz, qbdz, qbez, qbfz, qbgz, qbhz, qbiz, qbjz, qbkz, qblz, qbmz, qbnz, qboz,
 qbpz, qbqz, qbrz, qbsz, qbtz, qbuz, qbvz, qbwz, qbxz, qbyz, qbzz, qcaz, qcbz, qccz, qcdz, qcez, qcfz, qcgz, qchz, qciz, beq_true, beq_false, Bool.not_eq_true', decide_eq_true_eq, decide_eq_false_iff_not, decide_true, decide_false,
 Int.toNat_natCast, Int.ofNat_lt, Int.ofNat_le, Int.natCast_inj, Bool.false_eq_true, Bool.true_eq_false, qcjz, List.getElem?_cons_zero, List.getElem?_cons_succ, qckz, Int.reduceToNat, Int.reduceLE, true_and, and_true, reduceCtorEq, or_false, false_or, or_true, Option.some.injEq, exists_eq_left', Bool.not_true, Bool.not_false, ne_eq, Int.reduceEq, not_true_eq_false, not_false_eq_true, Int.reduceLT, UInt8.reduceLT, UInt8.reduceLE, UInt8.reduceToNat]
    rw [hQ0, qblz, hcl]; exact retI rfl hk rfl
end Go.Ab

/-
  The document's dates: zones.
-/
namespace Go.Ab
set_option linter.unusedVariables false
set_option linter.unusedSimpArgs false
set_option maxRecDepth 20000
variable {st s : St} {e : Env}

def nzT : List Bs := [[117, 116], [103, 109, 116], [122], [101, 115, 116], [99, 115, 116], [109, 115, 116], [112, 115, 116], [101, 100, 116], [99, 100, 116], [109, 100, 116], [112, 100, 116]]
def hzT : List Int := [0, 0, 0, -5, -6, -7, -8, -4, -5, -6, -7]
theorem nz_find {i : Nat} (h : i < 11) : zoneTab.find? (fun q => decide (nzT.getD i [] = q.1)) = some (nzT.getD i [], hzT.getD i 0 * 3600) ∧ -10 < hzT.getD i 0 ∧ hzT.getD i 0 < 10 := by
  have := List.all_eq_true.1 (show (List.range 11).all (fun i => decide (zoneTab.find? (fun q => decide (nzT.getD i [] = q.1)) = some (nzT.getD i [], hzT.getD i 0 * 3600)) && decide (-10 < hzT.getD i 0) && decide (hzT.getD i 0 < 10)) = true by kernel_rfl) i (List.mem_range.2 h)
  simpa only [Bool.and_eq_true, decide_eq_true_eq, and_assoc] using this
theorem nz_all : ∀ q ∈ zoneTab, q.1 = [] ∨ ∃ i, i < 11 ∧ q.1 = nzT.getD i [] := by
  have := List.all_eq_true.1 (show zoneTab.all (fun q => decide (q.1 = []) || (List.range 11).any fun i => decide (q.1 = nzT.getD i [])) = true by kernel_rfl)
  intro q hq
  have h := this q hq
  simp only [Bool.or_eq_true, decide_eq_true_eq, List.any_eq_true, List.mem_range] at h
  exact h
/-- The digits of a shift, together and two by two. -/
theorem zone_digits {s : Bs} (h5 : s.length = 5) : ¬ digD (s.drop 1) 4 4 < 0 ↔ ¬ digD ((s.take 3).drop 1) 2 2 < 0 ∧ ¬ digD (s.drop 3) 2 2 < 0 := by
  have e : s.drop 1 = (s.take 3).drop 1 ++ s.drop 3 := by
    match s, h5 with
    | [a, b, c, d, f], _ => rfl
  have l1 : ((s.take 3).drop 1).length = 2 := by simp; omega
  have l2 : (s.drop 3).length = 2 := by simp; omega
  rw [e]
  unfold digD
  rw [List.all_append]
  by_cases h1 : ((s.take 3).drop 1).all isDg = true
  · by_cases h2 : (s.drop 3).all isDg = true
    · rw [if_pos ⟨by rw [h1, h2]; rfl, by simp only [List.length_append]; omega, by simp only [List.length_append]; omega⟩, if_pos ⟨h1, by omega, by omega⟩, if_pos ⟨h2, by omega, by omega⟩]
      omega
    · rw [if_neg (fun q => h2 (by have := q.1; rw [h1, Bool.true_and] at this; exact this)), if_neg (c := (s.drop 3).all isDg = true ∧ _) (fun q => h2 q.1)]
      simp
  · rw [if_neg (fun q => h1 (by have := q.1; simp only [Bool.and_eq_true] at this; exact this.1)), if_neg (fun q => h1 q.1)]
    simp
theorem zone_len {s : Bs} (h5 : s.length ≠ 5) : digD (s.drop 1) 4 4 < 0 := by
  unfold digD
  rw [if_neg (fun q => h5 (by have := q.2; simp at this; omega))]
  decide

theorem rd_at {cs : List PV} {i : Nat} {v : PV} (h : cs[i]? = some v) : readCells false 1 (cs.drop (0 + i * 1)) = some v := by
  obtain ⟨h1, h2⟩ := List.getElem?_eq_some_iff.1 h
  rw [show 0 + i * 1 = i by omega, List.drop_eq_getElem_cons h1]
  simp only [readCells, h2]; rfl
/-- A shift out of a text: as the program has it, where it is one. -/
def zoneR (l : Bs) : Int := if (zoneD l).2 = true then (zoneD l).1 else 0

theorem W_cutR {A : AP} {a b : ACode} {Q : Ex → Env → St → Prop} (M : Env → St → Prop) (h1 : W A a e st (fun x e' s' => (x = .normal ∧ M e' s') ∨ (x = .ret ∧ Q .ret e' s'))) (h2 : ∀ e' s', M e' s' → W A b e' s' Q) : W A (.seq a b) e st Q := by
  rw [qaaz]
  refine W_mono h1 ?_
  rintro x e s (⟨rfl, h⟩ | ⟨rfl, h⟩)
  · exact h2 e s h
  · rw [qbaz]; exact h

set_option maxHeartbeats 8000000 in
theorem zoneOf_spec {l : Bs} (hl : l.length ≤ 1000000) (hne : l ≠ []) : call prog (.fn 301 []) [.str l] st = some (.tup [.int .i64 (zoneR l), .bool (zoneD l).2], st) := by
  refine call_of_W prog_301 ?_
  unfold F_posthornref20_zoneOf; dsimp only
  obtain ⟨zz, hzz⟩ : ∃ zz, zz = zoneR l := ⟨_, rfl⟩
  rw [← hzz]
  have hb1 : buildCells [.str [], .str [], .str [], .str [], .str [], .str [], .str [], .str [], .str [], .str [], .str []] [(0, 1, .str [117, 116]), (1, 1, .str [103, 109, 116]), (2, 1, .str [122]), (3, 1, .str [101, 115, 116]), (4, 1, .str [99, 115, 116]), (5, 1, .str [109, 115, 116]), (6, 1, .str [112, 115, 116]), (7, 1, .str [101, 100, 116]), (8, 1, .str [99, 100, 116]), (9, 1, .str [109, 100, 116]), (10, 1, .str [112, 100, 116])] = some (nzT.map .str) := rfl
  have hb2 : buildCells [PV.int .i64 0, .int .i64 0, .int .i64 0, .int .i64 0, .int .i64 0, .int .i64 0, .int .i64 0, .int .i64 0, .int .i64 0, .int .i64 0, .int .i64 0] [(0, 1, .int .i64 0), (1, 1, .int .i64 0), (2, 1, .int .i64 0), (3, 1, .int .i64 (-5)), (4, 1, .int .i64 (-6)), (5, 1, .int .i64 (-7)), (6, 1, .int .i64 (-8)), (7, 1, .int .i64 (-4)), (8, 1, .int .i64 (-5)), (9, 1, .int .i64 (-6)), (10, 1, .int .i64 (-7))] = some (hzT.map (.int .i64)) := rfl
  obtain ⟨Q0, hQ0⟩ : ∃ Q0 : Ex → Env → St → Prop, Q0 = endQ st [.tmp 2, .tmp 3] (.tup [.int .i64 zz, .bool (zoneD l).2], st) := ⟨_, rfl⟩
  rw [← hQ0]
  obtain ⟨S0, hS0⟩ : ∃ S0 : St, S0 = ⟨st.boxes ++ [nzT.map .str, hzT.map (.int .i64)], st.toks, st.loops, st.boxes.length⟩ := ⟨_, rfl⟩
  have hk : Kept st S0 := by rw [hS0]; exact ⟨by simp, rfl, Nat.le_refl _, by simp⟩
  have s1 : storePV ⟨st.boxes ++ [[PV.str [], .str [], .str [], .str [], .str [], .str [], .str [], .str [], .str [], .str [], .str []]], st.toks, st.loops, st.boxes.length⟩ 11 (.ptr st.boxes.length 0) (.agg (nzT.map .str)) = some ⟨st.boxes ++ [nzT.map .str], st.toks, st.loops, st.boxes.length⟩ := st_all rfl rfl (by kernel_rfl)
  have s2 : storePV ⟨st.boxes ++ [nzT.map .str] ++ [[PV.int .i64 0, .int .i64 0, .int .i64 0, .int .i64 0, .int .i64 0, .int .i64 0, .int .i64 0, .int .i64 0, .int .i64 0, .int .i64 0, .int .i64 0]], st.toks, st.loops, st.boxes.length⟩ 11 (.ptr (st.boxes ++ [nzT.map PV.str]).length 0) (.agg (hzT.map (.int .i64))) = some ⟨st.boxes ++ [nzT.map .str] ++ [hzT.map (.int .i64)], st.toks, st.loops, st.boxes.length⟩ := st_all rfl rfl (by kernel_rfl)
  refine W_cut (fun E S => S = ⟨st.boxes, st.toks, st.loops, st.boxes.length⟩ ∧ E 0 = .str l) ?_ ?_
  · simp (maxSteps := 1000000) (disch := omega) only [qaaz, qabz, qacz, qadz, qaez, qafz, qagz, qahz, qaiz, qajz, qakz, qalz, qamz, qanz, evOp, qaoz, qapz, qaqz, qarz, qasz, qatz, qauz, qavz,
 ↓reduceIte, Nat.reduceEqDiff, List.nil_append, List.cons_append, List.append_nil, List.map_cons, List.map_nil, qawz, qaxz, qayz, Option.map_some, Option.map_none, qazz, qbaz, qbbz, qbcz, qbdz, qbez, qbfz, qbgz, qbhz, qbiz, qbjz, qbkz, qblz, qbmz, qbnz, qboz,
 qbpz, qbqz, qbrz, qbsz, qbtz, qbuz, qbvz, qbwz, qbxz, qbyz, qbzz, qcaz, qcbz, qccz, qcdz, qcez, qcfz, qcgz, qchz, qciz, beq_true, beq_false, Bool.not_eq_true', decide_eq_true_eq, decide_eq_false_iff_not, decide_true, decide_false,
 Int.toNat_natCast, Int.ofNat_lt, Int.ofNat_le, Int.natCast_inj, Bool.false_eq_true, Bool.true_eq_false, qcjz, List.getElem?_cons_zero, List.getElem?_cons_succ, qckz, Int.reduceToNat, Int.reduceLE, true_and, and_true, reduceCtorEq, or_false, false_or, or_true, Option.some.injEq, exists_eq_left', Bool.not_true, Bool.not_false, ne_eq, Int.reduceEq, not_true_eq_false, not_false_eq_true, Int.reduceLT, UInt8.reduceLT, UInt8.reduceLE, UInt8.reduceToNat]
  rintro E S ⟨rfl, g0⟩
  refine W_cut (fun E S => S = ⟨st.boxes ++ [nzT.map .str], st.toks, st.loops, st.boxes.length⟩ ∧ E 0 = .str l ∧ E 4 = .ptr st.boxes.length 0) ?_ ?_
  · simp (maxSteps := 1000000) (disch := omega) only [hb1, allocPV, s1, qaaz, qabz, qacz, qadz, qaez, qafz, qagz, qahz, qaiz, qajz, qakz, qalz, qamz, qanz, evOp, qaoz, qapz, qaqz, qarz, qasz, qatz, qauz, qavz,
 ↓reduceIte, Nat.reduceEqDiff, List.nil_append, List.cons_append, List.append_nil, List.map_cons, List.map_nil, qawz, qaxz, qayz, Option.map_some, Option.map_none, qazz, qbaz, qbbz, qbcz, qbdz, qbez, qbfz, qbgz, qbhz, qbiz, qbjz, qbkz, qblz, qbmz, qbnz, qboz,
 qbpz, qbqz, qbrz, qbsz, qbtz, qbuz, qbvz, qbwz, qbxz, qbyz, qbzz, qcaz, qcbz, qccz, qcdz, qcez, qcfz, qcgz, qchz, qciz, beq_true, beq_false, Bool.not_eq_true', decide_eq_true_eq, decide_eq_false_iff_not, decide_true, decide_false,
 Int.toNat_natCast, Int.ofNat_lt, Int.ofNat_le, Int.natCast_inj, Bool.false_eq_true, Bool.true_eq_false, qcjz, List.getElem?_cons_zero, List.getElem?_cons_succ, qckz, Int.reduceToNat, Int.reduceLE, true_and, and_true, reduceCtorEq, or_false, false_or, or_true, Option.some.injEq, exists_eq_left', Bool.not_true, Bool.not_false, ne_eq, Int.reduceEq, not_true_eq_false, not_false_eq_true, Int.reduceLT, UInt8.reduceLT, UInt8.reduceLE, UInt8.reduceToNat]
    exact g0
  rintro E S ⟨rfl, g0, g4⟩
  refine W_cut (fun E S => S = S0 ∧ E 0 = .str l ∧ E 4 = .ptr st.boxes.length 0 ∧ E 5 = .ptr (st.boxes.length + 1) 0) ?_ ?_
  · simp (maxSteps := 1000000) (disch := omega) only [hb2, allocPV, s2, Int.reduceNeg, qaaz, qabz, qacz, qadz, qaez, qafz, qagz, qahz, qaiz, qajz, qakz, qalz, qamz, qanz, evOp, qaoz, qapz, qaqz, qarz, qasz, qatz, qauz, qavz,
 ↓reduceIte, Nat.reduceEqDiff, List.nil_append, List.cons_append, List.append_nil, List.map_cons, List.map_nil, qawz, qaxz, qayz, Option.map_some, Option.map_none, qazz, qbaz, qbbz, qbcz, qbdz, qbez, qbfz, qbgz, qbhz, qbiz, qbjz, qbkz, qblz, qbmz, qbnz, qboz,
 qbpz, qbqz, qbrz, qbsz, qbtz, qbuz, qbvz, qbwz, qbxz, qbyz, qbzz, qcaz, qcbz, qccz, qcdz, qcez, qcfz, qcgz, qchz, qciz, beq_true, beq_false, Bool.not_eq_true', decide_eq_true_eq, decide_eq_false_iff_not, decide_true, decide_false,
 Int.toNat_natCast, Int.ofNat_lt, Int.ofNat_le, Int.natCast_inj, Bool.false_eq_true, Bool.true_eq_false, qcjz, List.getElem?_cons_zero, List.getElem?_cons_succ, qckz, Int.reduceToNat, Int.reduceLE, true_and, and_true, reduceCtorEq, or_false, false_or, or_true, Option.some.injEq, exists_eq_left', Bool.not_true, Bool.not_false, ne_eq, Int.reduceEq, not_true_eq_false, not_false_eq_true, Int.reduceLT, UInt8.reduceLT, UInt8.reduceLE, UInt8.reduceToNat]
    exact ⟨by rw [hS0]; simp, g0, g4, by simp⟩
  rintro E S ⟨hS, g0, g4, g5⟩
  rw [hS]
  have hll := fun S : St => rLower_spec (st := S) (l := l) (by omega)

  have hlow : lowOf l ≠ [] := fun h => hne (by simpa [lowOf] using h)
  have badR : ∀ E : Env, E 2 = .int .i64 0 → E 3 = .bool false → (zoneD l).2 = false → Q0 .ret E S0 := fun E k2 k3 h => by
    have hz0 : zz = 0 := by rw [hzz]; unfold zoneR; rw [h]; simp
    rw [hQ0, qblz, h, hz0]
    exact retIB k2 k3 hk rfl rfl
  have goodR : ∀ (E : Env) (z : Int), E 2 = .int .i64 z → E 3 = .bool true → zoneD l = (z, true) → Q0 .ret E S0 := fun E z k2 k3 h => by
    have hz0 : zz = z := by rw [hzz]; unfold zoneR; rw [h]; simp
    rw [hQ0, qblz, h, hz0]
    exact retIB k2 k3 hk rfl rfl
  refine W_cutR (fun E S => S = S0 ∧ E 0 = .str l ∧ ∀ j, j < 11 → lowOf l ≠ nzT.getD j []) ?_ ?_
  · simp (maxSteps := 1000000) (disch := omega) only [qaaz, qabz, qacz, qadz, qaez, qafz, qagz, qahz, qaiz, qajz, qakz, qalz, qamz, qanz, evOp, qaoz, qapz, qaqz, qarz, qasz, qatz, qauz, qavz,
 ↓reduceIte, Nat.reduceEqDiff, List.nil_append, List.cons_append, List.append_nil, List.map_cons, List.map_nil, qawz, qaxz, qayz, Option.map_some, Option.map_none, qazz, qbaz, qbbz, qbcz, qbdz, qbez, qbfz, qbgz, qbhz, qbiz, qbjz, qbkz, qblz, qbmz, qbnz, qboz,
 qbpz, qbqz, qbrz, qbsz, qbtz, qbuz, qbvz, qbwz, qbxz, qbyz, qbzz, qcaz, qcbz, qccz, qcdz, qcez, qcfz, qcgz, qchz, qciz, beq_true, beq_false, Bool.not_eq_true', decide_eq_true_eq, decide_eq_false_iff_not, decide_true, decide_false,
 Int.toNat_natCast, Int.ofNat_lt, Int.ofNat_le, Int.natCast_inj, Bool.false_eq_true, Bool.true_eq_false, qcjz, List.getElem?_cons_zero, List.getElem?_cons_succ, qckz, Int.reduceToNat, Int.reduceLE, true_and, and_true, reduceCtorEq, or_false, false_or, or_true, Option.some.injEq, exists_eq_left', Bool.not_true, Bool.not_false, ne_eq, Int.reduceEq, not_true_eq_false, not_false_eq_true, Int.reduceLT, UInt8.reduceLT, UInt8.reduceLE, UInt8.reduceToNat]
    obtain ⟨I, hI⟩ : ∃ I : Nat → Env → St → Prop, I = fun k E S => ∃ i : Nat, k = 11 - i ∧ i ≤ 11 ∧ S = S0 ∧ (∀ j, j < i → lowOf l ≠ nzT.getD j []) ∧ E 0 = .str l ∧ E 4 = .ptr st.boxes.length 0 ∧ E 5 = .ptr (st.boxes.length + 1) 0 ∧ E 6 = .int .i64 (i : Int) := ⟨_, rfl⟩
    refine W_loop I ?_ (n := 11) (by rw [hI]; exact ⟨0, rfl, by omega, rfl, fun j h => by omega, g0, g4, g5, rfl⟩)
    intro k E S hh
    rw [hI] at hh
    obtain ⟨i, rfl, hi, hS', hall, g0, g4, g5, g6⟩ := hh
    rw [hS']
    by_cases hlt : i < 11
    · have hlt' : (i : Int) < 11 := by omega
      obtain ⟨f1, f2, f3⟩ := nz_find hlt
      have a1 : iaddrAPV 11 1 (.ptr st.boxes.length 0) (.int .i64 (i : Int)) = some (.ptr st.boxes.length (0 + i * 1)) := by rw [iaA (by omega) (by omega)]; rfl
      have a2 : iaddrAPV 11 1 (.ptr (st.boxes.length + 1) 0) (.int .i64 (i : Int)) = some (.ptr (st.boxes.length + 1) (0 + i * 1)) := by rw [iaA (by omega) (by omega)]; rfl
      have l1 : loadPV S0 false 1 (.ptr st.boxes.length (0 + i * 1)) = some (.str (nzT.getD i [])) := by
        have hx : S0.boxes[st.boxes.length]? = some (nzT.map .str) := by rw [hS0]; exact get_app0
        simp only [loadPV, hx]
        exact rd_at (by have : i < nzT.length := hlt
                        simp [List.getD, this])
      have l2 : loadPV S0 false 1 (.ptr (st.boxes.length + 1) (0 + i * 1)) = some (.int .i64 (hzT.getD i 0)) := by
        have hx : S0.boxes[st.boxes.length + 1]? = some (hzT.map (.int .i64)) := by rw [hS0]; exact get_app
        simp only [loadPV, hx]
        exact rd_at (by have : i < hzT.length := hlt
                        simp [List.getD, this])
      by_cases c1 : lowOf l = nzT.getD i []
      · have m1 := mul3600 (h := hzT.getD i 0) (by omega) (by omega)
        simp (maxSteps := 1000000) (disch := omega) only [g0, g4, g5, g6, hlt', hll, qboz, a1, a2, l1, l2, eq_true c1, m1, qaaz, qabz, qacz, qadz, qaez, qafz, qagz, qahz, qaiz, qajz, qakz, qalz, qamz, qanz, evOp, qaoz, qapz, qaqz, qarz, qasz, qatz, qauz, qavz,
 ↓reduceIte, Nat.reduceEqDiff, List.nil_append, List.cons_append, List.append_nil, List.map_cons, List.map_nil, qawz, qaxz, qayz, Option.map_some, Option.map_none, qazz, qbaz, qbbz, qbcz, qbdz, qbez, qbfz, qbgz, qbhz, qbiz, qbjz, qbkz, qblz, qbmz, qbnz, qboz,
 qbpz, qbqz, qbrz, qbsz, qbtz, qbuz, qbvz, qbwz, qbxz, qbyz, qbzz, qcaz, qcbz, qccz, qcdz, qcez, qcfz, qcgz, qchz, qciz, beq_true, beq_false, Bool.not_eq_true', decide_eq_true_eq, decide_eq_false_iff_not, decide_true, decide_false,
 Int.toNat_natCast, Int.ofNat_lt, Int.ofNat_le, Int.natCast_inj, Bool.false_eq_true, Bool.true_eq_false, qcjz, List.getElem?_cons_zero, List.getElem?_cons_succ, qckz, Int.reduceToNat, Int.reduceLE, true_and, and_true, reduceCtorEq, or_false, false_or, or_true, Option.some.injEq, exists_eq_left', Bool.not_true, Bool.not_false, ne_eq, Int.reduceEq, not_true_eq_false, not_false_eq_true, Int.reduceLT, UInt8.reduceLT, UInt8.reduceLE, UInt8.reduceToNat]
        refine .inr (goodR _ _ rfl rfl ?_)
        unfold zoneD
        rw [c1, f1]
      · simp (maxSteps := 1000000) (disch := omega) only [g0, g4, g5, g6, hlt', hll, qboz, a1, l1, c1, add_n, loopQ_normal, qaaz, qabz, qacz, qadz, qaez, qafz, qagz, qahz, qaiz, qajz, qakz, qalz, qamz, qanz, evOp, qaoz, qapz, qaqz, qarz, qasz, qatz, qauz, qavz,
 ↓reduceIte, Nat.reduceEqDiff, List.nil_append, List.cons_append, List.append_nil, List.map_cons, List.map_nil, qawz, qaxz, qayz, Option.map_some, Option.map_none, qazz, qbaz, qbbz, qbcz, qbdz, qbez, qbfz, qbgz, qbhz, qbiz, qbjz, qbkz, qblz, qbmz, qbnz, qboz,
 qbpz, qbqz, qbrz, qbsz, qbtz, qbuz, qbvz, qbwz, qbxz, qbyz, qbzz, qcaz, qcbz, qccz, qcdz, qcez, qcfz, qcgz, qchz, qciz, beq_true, beq_false, Bool.not_eq_true', decide_eq_true_eq, decide_eq_false_iff_not, decide_true, decide_false,
 Int.toNat_natCast, Int.ofNat_lt, Int.ofNat_le, Int.natCast_inj, Bool.false_eq_true, Bool.true_eq_false, qcjz, List.getElem?_cons_zero, List.getElem?_cons_succ, qckz, Int.reduceToNat, Int.reduceLE, true_and, and_true, reduceCtorEq, or_false, false_or, or_true, Option.some.injEq, exists_eq_left', Bool.not_true, Bool.not_false, ne_eq, Int.reduceEq, not_true_eq_false, not_false_eq_true, Int.reduceLT, UInt8.reduceLT, UInt8.reduceLE, UInt8.reduceToNat]
        refine ⟨11 - (i + 1), by omega, ?_⟩
        rw [hI]
        refine ⟨i + 1, rfl, by omega, rfl, fun j hj => ?_, g0, g4, g5, rfl⟩
        by_cases hji : j = i
        · subst hji; exact c1
        · exact hall j (by omega)
    · have hlt' : ¬ (i : Int) < 11 := by omega
      simp (maxSteps := 1000000) (disch := omega) only [g0, g4, g5, g6, hlt', qaaz, qabz, qacz, qadz, qaez, qafz, qagz, qahz, qaiz, qajz, qakz, qalz, qamz, qanz, evOp, qaoz, qapz, qaqz, qarz, qasz, qatz, qauz, qavz,
 ↓reduceIte, Nat.reduceEqDiff, List.nil_append, List.cons_append, List.append_nil, List.map_cons, List.map_nil, qawz, qaxz, qayz, Option.map_some, Option.map_none, qazz, qbaz, qbbz, qbcz, qbdz, qbez, qbfz, qbgz, qbhz, qbiz, qbjz, qbkz, qblz, qbmz, qbnz, qboz,
 qbpz, qbqz, qbrz, qbsz, qbtz, qbuz, qbvz, qbwz, qbxz, qbyz, qbzz, qcaz, qcbz, qccz, qcdz, qcez, qcfz, qcgz, qchz, qciz, beq_true, beq_false, Bool.not_eq_true', decide_eq_true_eq, decide_eq_false_iff_not, decide_true, decide_false,
 Int.toNat_natCast, Int.ofNat_lt, Int.ofNat_le, Int.natCast_inj, Bool.false_eq_true, Bool.true_eq_false, qcjz, List.getElem?_cons_zero, List.getElem?_cons_succ, qckz, Int.reduceToNat, Int.reduceLE, true_and, and_true, reduceCtorEq, or_false, false_or, or_true, Option.some.injEq, exists_eq_left', Bool.not_true, Bool.not_false, ne_eq, Int.reduceEq, not_true_eq_false, not_false_eq_true, Int.reduceLT, UInt8.reduceLT, UInt8.reduceLE, UInt8.reduceToNat]
      exact .inl fun j hj => hall j (by omega)
  rintro E S ⟨hS', g0, hall⟩
  rw [hS']
  have hZ : zoneD l = zoneN l := by
    unfold zoneD
    rw [List.find?_eq_none.2 (fun q hq => by
      simp only [decide_eq_true_eq]
      intro he
      rcases nz_all q hq with h | ⟨i, hi, h⟩
      · exact hlow (by rw [he, h])
      · exact hall i hi (by rw [he, h]))]
  by_cases h5 : l.length = 5
  · have h5' : (l.length : Int) = 5 := by omega
    have hb1 := digD_bound (s := (l.take 3).drop 1) (a := 2) (b := 2) (by omega)
    have hb2 := digD_bound (s := l.drop 3) (a := 2) (b := 2) (by omega)
    have hzd := zone_digits h5
    have hsl1 : slcPV 0 (.str l) (some (.int .i64 1)) (some (.int .i64 3)) none = some (.str ((l.take 3).drop 1)) := by
      rw [slc_s (by omega) (by omega) (by omega)]; rfl
    have hsl2 : slcPV 0 (.str l) (some (.int .i64 3)) none none = some (.str (l.drop 3)) := by
      rw [slc_s_lo (by omega) (by omega)]; rfl
    have n1 := num2 (l := (l.take 3).drop 1) (by simp; omega)
    have n2 := num2 (l := l.drop 3) (by simp; omega)
    have ix : idxSPV (.str l) (.int .i64 0) = some (.b8 (l.getD 0 0)) := by
      rw [idx_s (by omega) (by simp; omega)]; rfl
    have hNbad : ((l.getD 0 0 ≠ 43 ∧ l.getD 0 0 ≠ 45) ∨ digD (l.drop 1) 4 4 < 0) → (zoneD l).2 = false := fun h => by rw [hZ]; unfold zoneN; rw [if_pos h]
    have hNok : ¬ ((l.getD 0 0 ≠ 43 ∧ l.getD 0 0 ≠ 45) ∨ digD (l.drop 1) 4 4 < 0) → zoneD l = ((if l.getD 0 0 = 45 then -(digD ((l.take 3).drop 1) 2 2 * 3600 + digD (l.drop 3) 2 2 * 60) else digD ((l.take 3).drop 1) 2 2 * 3600 + digD (l.drop 3) 2 2 * 60), decide (digD ((l.take 3).drop 1) 2 2 < 24) && decide (digD (l.drop 3) 2 2 < 60)) := fun h => by rw [hZ]; unfold zoneN; rw [if_neg h]
    generalize digD ((l.take 3).drop 1) 2 2 = h at n1 hb1 hzd hNok
    generalize digD (l.drop 3) 2 2 = m at n2 hb2 hzd hNok
    generalize digD (l.drop 1) 4 4 = w at hzd hNok hNbad
    generalize l.getD 0 0 = c at ix hNok hNbad
    by_cases s43 : c = 43 ∨ c = 45
    · have hcc : ∀ {P : Prop}, (c = 43 → P) → (c = 45 → P) → P := fun a b => s43.elim a b
      have m1 := mul3600 (h := h) (by omega) (by omega)
      have m2 := mul60 (h := m) (by omega) (by omega)
      have hs1 : ¬ (c ≠ 43 ∧ c ≠ 45) := by rintro ⟨a, b⟩; exact s43.elim a b
      have badc : (h < 0 ∨ 24 ≤ h ∨ m < 0 ∨ 60 ≤ m) → (zoneD l).2 = false := fun q => by
        by_cases hw : w < 0
        · exact hNbad (.inr hw)
        · have := hzd.1 hw
          rw [hNok (by rintro (a | a); exact hs1 a; exact hw a)]
          have h2 : decide (h < 24) = false ∨ decide (m < 60) = false := by
            rcases q with q | q | q | q
            · omega
            · left; simp; omega
            · omega
            · right; simp; omega
          rcases h2 with h2 | h2 <;> simp only [h2, Bool.false_and, Bool.and_false]
      have okc : ¬ h < 0 → ¬ 24 ≤ h → ¬ m < 0 → ¬ 60 ≤ m → zoneD l = ((if c = 45 then -(h * 3600 + m * 60) else h * 3600 + m * 60), true) := fun q1 q2 q3 q4 => by
        have hw := hzd.2 ⟨q1, q3⟩
        rw [hNok (by rintro (a | a); exact hs1 a; exact hw a)]
        have d1 : decide (h < 24) = true := by simp; omega
        have d2 : decide (m < 60) = true := by simp; omega
        rw [d1, d2]; rfl
      rcases s43 with s43 | s45
      · have c45 : ¬ c = 45 := by rw [s43]; decide
        by_cases a1 : h < 0
        · simp (maxSteps := 1000000) (disch := omega) only [g0, len_s, eq_true h5', ix, eq_true s43, c45, hsl1, hsl2, n1, n2, a1, qaaz, qabz, qacz, qadz, qaez, qafz, qagz, qahz, qaiz, qajz, qakz, qalz, qamz, qanz, evOp, qaoz, qapz, qaqz, qarz, qasz, qatz, qauz, qavz,
 ↓reduceIte, Nat.reduceEqDiff, List.nil_append, List.cons_append, List.append_nil, List.map_cons, List.map_nil, qawz, qaxz, qayz, Option.map_some, Option.map_none, qazz, qbaz, qbbz, qbcz, qbdz, qbez, qbfz, qbgz, qbhz, qbiz, qbjz, qbkz, qblz, qbmz, qbnz, qboz,
 qbpz, qbqz, qbrz, qbsz, qbtz, qbuz, qbvz, qbwz, qbxz, qbyz, qbzz, qcaz, qcbz, qccz, qcdz, qcez, qcfz, qcgz, qchz, qciz, beq_true, beq_false, Bool.not_eq_true', decide_eq_true_eq, decide_eq_false_iff_not, decide_true, decide_false,
 Int.toNat_natCast, Int.ofNat_lt, Int.ofNat_le, Int.natCast_inj, Bool.false_eq_true, Bool.true_eq_false, qcjz, List.getElem?_cons_zero, List.getElem?_cons_succ, qckz, Int.reduceToNat, Int.reduceLE, true_and, and_true, reduceCtorEq, or_false, false_or, or_true, Option.some.injEq, exists_eq_left', Bool.not_true, Bool.not_false, ne_eq, Int.reduceEq, not_true_eq_false, not_false_eq_true, Int.reduceLT, UInt8.reduceLT, UInt8.reduceLE, UInt8.reduceToNat]
          exact badR _ rfl rfl (badc (.inl a1))
        by_cases a2 : 24 ≤ h
        · simp (maxSteps := 1000000) (disch := omega) only [g0, len_s, eq_true h5', ix, eq_true s43, c45, hsl1, hsl2, n1, n2, a1, a2, qaaz, qabz, qacz, qadz, qaez, qafz, qagz, qahz, qaiz, qajz, qakz, qalz, qamz, qanz, evOp, qaoz, qapz, qaqz, qarz, qasz, qatz, qauz, qavz,
 ↓reduceIte, Nat.reduceEqDiff, List.nil_append, List.cons_append, List.append_nil, List.map_cons, List.map_nil, qawz, qaxz, qayz, Option.map_some, Option.map_none, qazz, qbaz, qbbz, qbcz, qbdz, qbez, qbfz, qbgz, qbhz, qbiz, qbjz, qbkz, qblz, qbmz, qbnz, qboz,
 qbpz, qbqz, qbrz, qbsz, qbtz, qbuz, qbvz, qbwz, qbxz, qbyz, qbzz, qcaz, qcbz, qccz, qcdz, qcez, qcfz, qcgz, qchz, qciz, beq_true, beq_false, Bool.not_eq_true', decide_eq_true_eq, decide_eq_false_iff_not, decide_true, decide_false,
 Int.toNat_natCast, Int.ofNat_lt, Int.ofNat_le, Int.natCast_inj, Bool.false_eq_true, Bool.true_eq_false, qcjz, List.getElem?_cons_zero, List.getElem?_cons_succ, qckz, Int.reduceToNat, Int.reduceLE, true_and, and_true, reduceCtorEq, or_false, false_or, or_true, Option.some.injEq, exists_eq_left', Bool.not_true, Bool.not_false, ne_eq, Int.reduceEq, not_true_eq_false, not_false_eq_true, Int.reduceLT, UInt8.reduceLT, UInt8.reduceLE, UInt8.reduceToNat]
          exact badR _ rfl rfl (badc (.inr (.inl a2)))
        by_cases a3 : m < 0
        · simp (maxSteps := 1000000) (disch := omega) only [g0, len_s, eq_true h5', ix, eq_true s43, c45, hsl1, hsl2, n1, n2, a1, a2, a3, qaaz, qabz, qacz, qadz, qaez, qafz, qagz, qahz, qaiz, qajz, qakz, qalz, qamz, qanz, evOp, qaoz, qapz, qaqz, qarz, qasz, qatz, qauz, qavz,
 ↓reduceIte, Nat.reduceEqDiff, List.nil_append, List.cons_append, List.append_nil, List.map_cons, List.map_nil, qawz, qaxz, qayz, Option.map_some, Option.map_none, qazz, qbaz, qbbz, qbcz, qbdz, qbez, qbfz, qbgz, qbhz, qbiz, qbjz, qbkz, qblz, qbmz, qbnz, qboz,
 qbpz, qbqz, qbrz, qbsz, qbtz, qbuz, qbvz, qbwz, qbxz, qbyz, qbzz, qcaz, qcbz, qccz, qcdz, qcez, qcfz, qcgz, qchz, qciz, beq_true, beq_false, Bool.not_eq_true', decide_eq_true_eq, decide_eq_false_iff_not, decide_true, decide_false,
 Int.toNat_natCast, Int.ofNat_lt, Int.ofNat_le, Int.natCast_inj, Bool.false_eq_true, Bool.true_eq_false, qcjz, List.getElem?_cons_zero, List.getElem?_cons_succ, qckz, Int.reduceToNat, Int.reduceLE, true_and, and_true, reduceCtorEq, or_false, false_or, or_true, Option.some.injEq, exists_eq_left', Bool.not_true, Bool.not_false, ne_eq, Int.reduceEq, not_true_eq_false, not_false_eq_true, Int.reduceLT, UInt8.reduceLT, UInt8.reduceLE, UInt8.reduceToNat]
          exact badR _ rfl rfl (badc (.inr (.inr (.inl a3))))
        by_cases a4 : 60 ≤ m
        · simp (maxSteps := 1000000) (disch := omega) only [g0, len_s, eq_true h5', ix, eq_true s43, c45, hsl1, hsl2, n1, n2, a1, a2, a3, a4, qaaz, qabz, qacz, qadz, qaez, qafz, qagz, qahz, qaiz, qajz, qakz, qalz, qamz, qanz, evOp, qaoz, qapz, qaqz, qarz, qasz, qatz, qauz, qavz,
 ↓reduceIte, Nat.reduceEqDiff, List.nil_append, List.cons_append, List.append_nil, List.map_cons, List.map_nil, qawz, qaxz, qayz, Option.map_some, Option.map_none, qazz, qbaz, qbbz, qbcz, qbdz, qbez, qbfz, qbgz, qbhz, qbiz, qbjz, qbkz, qblz, qbmz, qbnz, qboz,
 qbpz, qbqz, qbrz, qbsz, qbtz, qbuz, qbvz, qbwz, qbxz, qbyz, qbzz, qcaz, qcbz, qccz, qcdz, qcez, qcfz, qcgz, qchz, qciz, beq_true, beq_false, Bool.not_eq_true', decide_eq_true_eq, decide_eq_false_iff_not, decide_true, decide_false,
 Int.toNat_natCast, Int.ofNat_lt, Int.ofNat_le, Int.natCast_inj, Bool.false_eq_true, Bool.true_eq_false, qcjz, List.getElem?_cons_zero, List.getElem?_cons_succ, qckz, Int.reduceToNat, Int.reduceLE, true_and, and_true, reduceCtorEq, or_false, false_or, or_true, Option.some.injEq, exists_eq_left', Bool.not_true, Bool.not_false, ne_eq, Int.reduceEq, not_true_eq_false, not_false_eq_true, Int.reduceLT, UInt8.reduceLT, UInt8.reduceLE, UInt8.reduceToNat]
          exact badR _ rfl rfl (badc (.inr (.inr (.inr a4))))
        simp (maxSteps := 1000000) (disch := omega) only [g0, len_s, eq_true h5', ix, eq_true s43, c45, hsl1, hsl2, n1, n2, a1, a2, a3, a4, m1, m2, add_i, qaaz, qabz, qacz, qadz, qaez, qafz, qagz, qahz, qaiz, qajz, qakz, qalz, qamz, qanz, evOp, qaoz, qapz, qaqz, qarz, qasz, qatz, qauz, qavz,
 ↓reduceIte, Nat.reduceEqDiff, List.nil_append, List.cons_append, List.append_nil, List.map_cons, List.map_nil, qawz, qaxz, qayz, Option.map_some, Option.map_none, qazz, qbaz, qbbz, qbcz, qbdz, qbez, qbfz, qbgz, qbhz, qbiz, qbjz, qbkz, qblz, qbmz, qbnz, qboz,
 qbpz, qbqz, qbrz, qbsz, qbtz, qbuz, qbvz, qbwz, qbxz, qbyz, qbzz, qcaz, qcbz, qccz, qcdz, qcez, qcfz, qcgz, qchz, qciz, beq_true, beq_false, Bool.not_eq_true', decide_eq_true_eq, decide_eq_false_iff_not, decide_true, decide_false,
 Int.toNat_natCast, Int.ofNat_lt, Int.ofNat_le, Int.natCast_inj, Bool.false_eq_true, Bool.true_eq_false, qcjz, List.getElem?_cons_zero, List.getElem?_cons_succ, qckz, Int.reduceToNat, Int.reduceLE, true_and, and_true, reduceCtorEq, or_false, false_or, or_true, Option.some.injEq, exists_eq_left', Bool.not_true, Bool.not_false, ne_eq, Int.reduceEq, not_true_eq_false, not_false_eq_true, Int.reduceLT, UInt8.reduceLT, UInt8.reduceLE, UInt8.reduceToNat]
        exact goodR _ _ rfl rfl (by rw [okc a1 a2 a3 a4, if_neg c45])
      · have c43 : ¬ c = 43 := by rw [s45]; decide
        have ng : unPV .neg (.int .i64 (h * 3600 + m * 60)) = some (.int .i64 (-(h * 3600 + m * 60))) := neg_i (by omega) (by omega)
        by_cases a1 : h < 0
        · simp (maxSteps := 1000000) (disch := omega) only [g0, len_s, eq_true h5', ix, eq_true s45, c43, hsl1, hsl2, n1, n2, a1, qaaz, qabz, qacz, qadz, qaez, qafz, qagz, qahz, qaiz, qajz, qakz, qalz, qamz, qanz, evOp, qaoz, qapz, qaqz, qarz, qasz, qatz, qauz, qavz,
 ↓reduceIte, Nat.reduceEqDiff, List.nil_append, List.cons_append, List.append_nil, List.map_cons, List.map_nil, qawz, qaxz, qayz, Option.map_some, Option.map_none, qazz, qbaz, qbbz, qbcz, qbdz, qbez, qbfz, qbgz, qbhz, qbiz, qbjz, qbkz, qblz, qbmz, qbnz, qboz,
 qbpz, qbqz, qbrz, qbsz, qbtz, qbuz, qbvz, qbwz, qbxz, qbyz, qbzz, qcaz, qcbz, qccz, qcdz, qcez, qcfz, qcgz, qchz, qciz, beq_true, beq_false, Bool.not_eq_true', decide_eq_true_eq, decide_eq_false_iff_not, decide_true, decide_false,
 Int.toNat_natCast, Int.ofNat_lt, Int.ofNat_le, Int.natCast_inj, Bool.false_eq_true, Bool.true_eq_false, qcjz, List.getElem?_cons_zero, List.getElem?_cons_succ, qckz, Int.reduceToNat, Int.reduceLE, true_and, and_true, reduceCtorEq, or_false, false_or, or_true, Option.some.injEq, exists_eq_left', Bool.not_true, Bool.not_false, ne_eq, Int.reduceEq, not_true_eq_false, not_false_eq_true, Int.reduceLT, UInt8.reduceLT, UInt8.reduceLE, UInt8.reduceToNat]
          exact badR _ rfl rfl (badc (.inl a1))
        by_cases a2 : 24 ≤ h
        · simp (maxSteps := 1000000) (disch := omega) only [g0, len_s, eq_true h5', ix, eq_true s45, c43, hsl1, hsl2, n1, n2, a1, a2, qaaz, qabz, qacz, qadz, qaez, qafz, qagz, qahz, qaiz, qajz, qakz, qalz, qamz, qanz, evOp, qaoz, qapz, qaqz, qarz, qasz, qatz, qauz, qavz,
 ↓reduceIte, Nat.reduceEqDiff, List.nil_append, List.cons_append, List.append_nil, List.map_cons, List.map_nil, qawz, qaxz, qayz, Option.map_some, Option.map_none, qazz, qbaz, qbbz, qbcz, qbdz, qbez, qbfz, qbgz, qbhz, qbiz, qbjz, qbkz, qblz, qbmz, qbnz, qboz,
 qbpz, qbqz, qbrz, qbsz, qbtz, qbuz, qbvz, qbwz, qbxz, qbyz, qbzz, qcaz, qcbz, qccz, qcdz, qcez, qcfz, qcgz, qchz, qciz, beq_true, beq_false, Bool.not_eq_true', decide_eq_true_eq, decide_eq_false_iff_not, decide_true, decide_false,
 Int.toNat_natCast, Int.ofNat_lt, Int.ofNat_le, Int.natCast_inj, Bool.false_eq_true, Bool.true_eq_false, qcjz, List.getElem?_cons_zero, List.getElem?_cons_succ, qckz, Int.reduceToNat, Int.reduceLE, true_and, and_true, reduceCtorEq, or_false, false_or, or_true, Option.some.injEq, exists_eq_left', Bool.not_true, Bool.not_false, ne_eq, Int.reduceEq, not_true_eq_false, not_false_eq_true, Int.reduceLT, UInt8.reduceLT, UInt8.reduceLE, UInt8.reduceToNat]
          exact badR _ rfl rfl (badc (.inr (.inl a2)))
        by_cases a3 : m < 0
        · simp (maxSteps := 1000000) (disch := omega) only [g0, len_s, eq_true h5', ix, eq_true s45, c43, hsl1, hsl2, n1, n2, a1, a2, a3, qaaz, qabz, qacz, qadz, qaez, qafz, qagz, qahz, qaiz, qajz, qakz, qalz, qamz, qanz, evOp, qaoz, qapz, qaqz, qarz, qasz, qatz, qauz, qavz,
 ↓reduceIte, Nat.reduceEqDiff, List.nil_append, List.cons_append, List.append_nil, List.map_cons, List.map_nil, qawz, qaxz, qayz, Option.map_some, Option.map_none, qazz, qbaz, qbbz, qbcz, qbdz, qbez, qbfz, qbgz, qbhz, qbiz, qbjz, qbkz, qblz, qbmz, qbnz, qboz,
 qbpz, qbqz, qbrz, qbsz, qbtz, qbuz, qbvz, qbwz, qbxz, qbyz, qbzz, qcaz, qcbz, qccz, qcdz, qcez, qcfz, qcgz, qchz, qciz, beq_true, beq_false, Bool.not_eq_true', decide_eq_true_eq, decide_eq_false_iff_not, decide_true, decide_false,
 Int.toNat_natCast, Int.ofNat_lt, Int.ofNat_le, Int.natCast_inj, Bool.false_eq_true, Bool.true_eq_false, qcjz, List.getElem?_cons_zero, List.getElem?_cons_succ, qckz, Int.reduceToNat, Int.reduceLE, true_and, and_true, reduceCtorEq, or_false, false_or, or_true, Option.some.injEq, exists_eq_left', Bool.not_true, Bool.not_false, ne_eq, Int.reduceEq, not_true_eq_false, not_false_eq_true, Int.reduceLT, UInt8.reduceLT, UInt8.reduceLE, UInt8.reduceToNat]
          exact badR _ rfl rfl (badc (.inr (.inr (.inl a3))))
        by_cases a4 : 60 ≤ m
        · simp (maxSteps := 1000000) (disch := omega) only [g0, len_s, eq_true h5', ix, eq_true s45, c43, hsl1, hsl2, n1, n2, a1, a2, a3, a4, qaaz, qabz, qacz, qadz, qaez, qafz, qagz, qahz, qaiz, qajz, qakz, qalz, qamz, qanz, evOp, qaoz, qapz, qaqz, qarz, qasz, qatz, qauz, qavz,
 ↓reduceIte, Nat.reduceEqDiff, List.nil_append, List.cons_append, List.append_nil, List.map_cons, List.map_nil, qawz, qaxz, qayz, Option.map_some, Option.map_none, qazz, qbaz, qbbz, qbcz, qbdz, qbez, qbfz, qbgz, qbhz, qbiz, qbjz, qbkz, qblz, qbmz, qbnz, qboz,
 qbpz, qbqz, qbrz, qbsz, qbtz, qbuz, qbvz, qbwz, qbxz, qbyz, qbzz, qcaz, qcbz, qccz, qcdz, qcez, qcfz, qcgz, qchz, qciz, beq_true, beq_false, Bool.not_eq_true', decide_eq_true_eq, decide_eq_false_iff_not, decide_true, decide_false,
 Int.toNat_natCast, Int.ofNat_lt, Int.ofNat_le, Int.natCast_inj, Bool.false_eq_true, Bool.true_eq_false, qcjz, List.getElem?_cons_zero, List.getElem?_cons_succ, qckz, Int.reduceToNat, Int.reduceLE, true_and, and_true, reduceCtorEq, or_false, false_or, or_true, Option.some.injEq, exists_eq_left', Bool.not_true, Bool.not_false, ne_eq, Int.reduceEq, not_true_eq_false, not_false_eq_true, Int.reduceLT, UInt8.reduceLT, UInt8.reduceLE, UInt8.reduceToNat]
          exact badR _ rfl rfl (badc (.inr (.inr (.inr a4))))
        simp (maxSteps := 1000000) (disch := omega) only [g0, len_s, eq_true h5', ix, eq_true s45, c43, hsl1, hsl2, n1, n2, a1, a2, a3, a4, m1, m2, ng, add_i, qaaz, qabz, qacz, qadz, qaez, qafz, qagz, qahz, qaiz, qajz, qakz, qalz, qamz, qanz, evOp, qaoz, qapz, qaqz, qarz, qasz, qatz, qauz, qavz,
 ↓reduceIte, Nat.reduceEqDiff, List.nil_append, List.cons_append, List.append_nil, List.map_cons, List.map_nil, qawz, qaxz, qayz, Option.map_some, Option.map_none, qazz, qbaz, qbbz, qbcz, qbdz, qbez, qbfz, qbgz, qbhz, qbiz, qbjz, qbkz, qblz, qbmz, qbnz, qboz,
 qbpz, qbqz, qbrz, qbsz, qbtz, qbuz, qbvz, qbwz, qbxz, qbyz, qbzz, qcaz, qcbz, qccz, qcdz, qcez, qcfz, qcgz, qchz, qciz, beq_true, beq_false, Bool.not_eq_true', decide_eq_true_eq, decide_eq_false_iff_not, decide_true, decide_false,
 Int.toNat_natCast, Int.ofNat_lt, Int.ofNat_le, Int.natCast_inj, Bool.false_eq_true, Bool.true_eq_false, qcjz, List.getElem?_cons_zero, List.getElem?_cons_succ, qckz, Int.reduceToNat, Int.reduceLE, true_and, and_true, reduceCtorEq, or_false, false_or, or_true, Option.some.injEq, exists_eq_left', Bool.not_true, Bool.not_false, ne_eq, Int.reduceEq, not_true_eq_false, not_false_eq_true, Int.reduceLT, UInt8.reduceLT, UInt8.reduceLE, UInt8.reduceToNat]
        exact goodR _ _ rfl rfl (by rw [okc a1 a2 a3 a4, if_pos s45])
    · have c43 : ¬ c = 43 := fun h => s43 (.inl h)
      have c45 : ¬ c = 45 := fun h => s43 (.inr h)
      simp (maxSteps := 1000000) (disch := omega) only [g0, len_s, eq_true h5', ix, c43, c45, qaaz, qabz, qacz, qadz, qaez, qafz, qagz, qahz, qaiz, qajz, qakz, qalz, qamz, qanz, evOp, qaoz, qapz, qaqz, qarz, qasz, qatz, qauz, qavz,
 ↓reduceIte, Nat.reduceEqDiff, List.nil_append, List.cons_append, List.append_nil, List.map_cons, List.map_nil, qawz, qaxz, qayz, Option.map_some, Option.map_none, qazz, qbaz, qbbz, qbcz, qbdz, qbez, qbfz, qbgz, qbhz, qbiz, qbjz, qbkz, qblz, qbmz, qbnz, qboz,
 qbpz, qbqz, qbrz, qbsz, qbtz, qbuz, qbvz, qbwz, qbxz, qbyz, qbzz, qcaz, qcbz, qccz, qcdz, qcez, qcfz, qcgz, qchz, qciz, beq_true, beq_false, Bool.not_eq_true', decide_eq_true_eq, decide_eq_false_iff_not, decide_true, decide_false,
 Int.toNat_natCast, Int.ofNat_lt, Int.ofNat_le, Int.natCast_inj, Bool.false_eq_true, Bool.true_eq_false, qcjz, List.getElem?_cons_zero, List.getElem?_cons_succ, qckz, Int.reduceToNat, Int.reduceLE, true_and, and_true, reduceCtorEq, or_false, false_or, or_true, Option.some.injEq, exists_eq_left', Bool.not_true, Bool.not_false, ne_eq, Int.reduceEq, not_true_eq_false, not_false_eq_true, Int.reduceLT, UInt8.reduceLT, UInt8.reduceLE, UInt8.reduceToNat]
      exact badR _ rfl rfl (hNbad (.inl ⟨c43, c45⟩))
  · have h5' : ¬ (l.length : Int) = 5 := by omega
    have hz2 : (zoneD l).2 = false := by rw [hZ]; unfold zoneN; rw [if_pos (.inr (zone_len h5))]
    simp (maxSteps := 1000000) (disch := omega) only [g0, len_s, h5', qaaz, qabz, qacz, qadz, qaez, qafz, qagz, qahz, qaiz, qajz, qakz, qalz, qamz, qanz, evOp, qaoz, qapz, qaqz, qarz, qasz, qatz, qauz, qavz,
 ↓reduceIte, Nat.reduceEqDiff, List.nil_append, List.cons_append, List.append_nil, List.map_cons, List.map_nil, qawz, qaxz, qayz, Option.map_some, Option.map_none, qazz, qbaz, qbbz, qbcz, qbdz, qbez, qbfz, qbgz, qbhz, qbiz, qbjz, qbkz, qblz, qbmz, qbnz, qboz,
 qbpz, qbqz, qbrz, qbsz, qbtz, qbuz, qbvz, qbwz, qbxz, qbyz, qbzz, qcaz, qcbz, qccz, qcdz, qcez, qcfz, qcgz, qchz, qciz, beq_true, beq_false, Bool.not_eq_true', decide_eq_true_eq, decide_eq_false_iff_not, decide_true, decide_false,
 Int.toNat_natCast, Int.ofNat_lt, Int.ofNat_le, Int.natCast_inj, Bool.false_eq_true, Bool.true_eq_false, qcjz, List.getElem?_cons_zero, List.getElem?_cons_succ, qckz, Int.reduceToNat, Int.reduceLE, true_and, and_true, reduceCtorEq, or_false, false_or, or_true, Option.some.injEq, exists_eq_left', Bool.not_true, Bool.not_false, ne_eq, Int.reduceEq, not_true_eq_false, not_false_eq_true, Int.reduceLT, UInt8.reduceLT, UInt8.reduceLE, UInt8.reduceToNat]
    exact badR _ rfl rfl hz2
end Go.Ab

/-
  The document's dates: a text without remarks; words.
-/
namespace Go.Ab
set_option linter.unusedVariables false
set_option linter.unusedSimpArgs false
set_option maxRecDepth 20000
variable {st s : St} {e : Env}

def clnG : Bool → Bs → Bs
  | _, [] => []
  | true, c :: r => clnG (decide (c ≠ 41)) r
  | false, c :: r => if c = 40 then 32 :: clnG true r else if c = 9 then 32 :: clnG false r else c :: clnG false r
def inG : Bool → Bs → Bool
  | b, [] => b
  | true, c :: r => inG (decide (c ≠ 41)) r
  | false, c :: r => inG (decide (c = 40)) r

set_option maxHeartbeats 4000000 in
theorem clean_spec {l : Bs} (hl : l.length ≤ 1000000) : call prog (.fn 293 []) [.str l] st = some (.tup [.str (clnG false l), .bool (!inG false l)], st) := by
  refine call_of_W prog_293 ?_
  unfold F_posthornref20_clean; dsimp only
  simp (maxSteps := 1000000) (disch := omega) only [qaaz, qabz, qacz, qadz, qaez, qafz, qagz, qahz, qaiz, qajz, qakz, qalz, qamz, qanz, evOp, qaoz, qapz, qaqz, qarz, qasz, qatz, qauz, qavz,
 ↓reduceIte, Nat.reduceEqDiff, List.nil_append, List.cons_append, List.append_nil, List.map_cons, List.map_nil, qawz, qaxz, qayz, Option.map_some, Option.map_none, qazz, qbaz, qbbz, qbcz, qbdz, qbez, qbfz, qbgz, qbhz, qbiz, qbjz, qbkz, qblz, qbmz, qbnz, qboz,
 qbpz, qbqz, qbrz, qbsz, qbtz, qbuz, qbvz, qbwz, qbxz, qbyz, qbzz, qcaz, qcbz, qccz, qcdz, qcez, qcfz, qcgz, qchz, qciz, beq_true, beq_false, Bool.not_eq_true', decide_eq_true_eq, decide_eq_false_iff_not, decide_true, decide_false,
 Int.toNat_natCast, Int.ofNat_lt, Int.ofNat_le, Int.natCast_inj, Bool.false_eq_true, Bool.true_eq_false, qcjz, List.getElem?_cons_zero, List.getElem?_cons_succ, qckz, Int.reduceToNat, Int.reduceLE, true_and, and_true, reduceCtorEq, or_false, false_or, or_true, Option.some.injEq, exists_eq_left', Bool.not_true, Bool.not_false, ne_eq, Int.reduceEq, not_true_eq_false, not_false_eq_true, Int.reduceLT, UInt8.reduceLT, UInt8.reduceLE, UInt8.reduceToNat]
  obtain ⟨T, hT⟩ : ∃ T, T = clnG false l := ⟨_, rfl⟩
  obtain ⟨B, hB⟩ : ∃ B, B = inG false l := ⟨_, rfl⟩
  rw [← hT, ← hB]
  obtain ⟨Q0, hQ0⟩ : ∃ Q0 : Ex → Env → St → Prop, Q0 = endQ st [.tmp 2, .tmp 3] (.tup [.str T, .bool (!B)], st) := ⟨_, rfl⟩
  rw [← hQ0]
  have hroom : room = 68719476736 := rfl
  obtain ⟨I, hI⟩ : ∃ I : Nat → Env → St → Prop, I = fun k E S => ∃ (i : Nat) (b : Bool) (acc : Bs) (v : PV), k = l.length - i ∧ i ≤ l.length ∧ Kept st S ∧ Mine st S v acc ∧ acc.length ≤ i ∧ T = acc ++ clnG b (l.drop i) ∧ B = inG b (l.drop i) ∧ E 0 = .str l ∧ E 4 = v ∧ E 5 = .bool b ∧ E 6 = .int .i64 (i : Int) := ⟨_, rfl⟩
  refine W_loop I ?_ (n := l.length) (by
    rw [hI]; exact ⟨0, false, [], .nils, rfl, by omega, Kept.start, Mine.nil, by simp, hT, hB, rfl, rfl, rfl, rfl⟩)
  intro k E S hh
  rw [hI] at hh
  obtain ⟨i, b, acc, v, rfl, hi, hk, hm, hal, hTT, hBB, h0, h4, h5, h6⟩ := hh
  by_cases hlt : i < l.length
  · obtain ⟨c, hc⟩ : ∃ c, c = l.getD i 0 := ⟨_, rfl⟩
    have hd : l.drop i = c :: l.drop (i + 1) := by rw [List.drop_eq_getElem_cons hlt, hc]; simp [List.getD, hlt]
    rw [hd] at hTT hBB
    have next : ∀ (b' : Bool) (acc' : Bs) (v' : PV) (S' : St), Kept st S' → Mine st S' v' acc' → acc'.length ≤ i + 1 → T = acc' ++ clnG b' (l.drop (i + 1)) → B = inG b' (l.drop (i + 1)) → ∀ E : Env, E 0 = .str l → E 4 = v' → E 5 = .bool b' → E 6 = .int .i64 ((i + 1 : Nat) : Int) → ∃ m, m < l.length - i ∧ I m E S' := fun b' acc' v' S' q1 q2 q3 q4 q5 E k0 k4 k5 k6 =>
      ⟨l.length - (i + 1), by omega, by rw [hI]; exact ⟨i + 1, b', acc', v', rfl, by omega, q1, q2, q3, q4, q5, k0, k4, k5, k6⟩⟩
    cases b with
    | true =>
      rw [clnG] at hTT
      rw [inG] at hBB
      by_cases c1 : c = 41
      · have : decide (c ≠ 41) = false := by simp [c1]
        rw [this] at hTT hBB
        simp (maxSteps := 1000000) (disch := omega) only [h0, h4, h5, h6, len_s, hlt, idx_s, ← hc, eq_true c1, add_n, loopQ_normal, qaaz, qabz, qacz, qadz, qaez, qafz, qagz, qahz, qaiz, qajz, qakz, qalz, qamz, qanz, evOp, qaoz, qapz, qaqz, qarz, qasz, qatz, qauz, qavz,
 ↓reduceIte, Nat.reduceEqDiff, List.nil_append, List.cons_append, List.append_nil, List.map_cons, List.map_nil, qawz, qaxz, qayz, Option.map_some, Option.map_none, qazz, qbaz, qbbz, qbcz, qbdz, qbez, qbfz, qbgz, qbhz, qbiz, qbjz, qbkz, qblz, qbmz, qbnz, qboz,
 qbpz, qbqz, qbrz, qbsz, qbtz, qbuz, qbvz, qbwz, qbxz, qbyz, qbzz, qcaz, qcbz, qccz, qcdz, qcez, qcfz, qcgz, qchz, qciz, beq_true, beq_false, Bool.not_eq_true', decide_eq_true_eq, decide_eq_false_iff_not, decide_true, decide_false,
 Int.toNat_natCast, Int.ofNat_lt, Int.ofNat_le, Int.natCast_inj, Bool.false_eq_true, Bool.true_eq_false, qcjz, List.getElem?_cons_zero, List.getElem?_cons_succ, qckz, Int.reduceToNat, Int.reduceLE, true_and, and_true, reduceCtorEq, or_false, false_or, or_true, Option.some.injEq, exists_eq_left', Bool.not_true, Bool.not_false, ne_eq, Int.reduceEq, not_true_eq_false, not_false_eq_true, Int.reduceLT, UInt8.reduceLT, UInt8.reduceLE, UInt8.reduceToNat]
        exact next false acc v S hk hm (by omega) hTT hBB _ h0 h4 rfl rfl
      · have : decide (c ≠ 41) = true := by simp [c1]
        rw [this] at hTT hBB
        simp (maxSteps := 1000000) (disch := omega) only [h0, h4, h5, h6, len_s, hlt, idx_s, ← hc, c1, add_n, loopQ_normal, qaaz, qabz, qacz, qadz, qaez, qafz, qagz, qahz, qaiz, qajz, qakz, qalz, qamz, qanz, evOp, qaoz, qapz, qaqz, qarz, qasz, qatz, qauz, qavz,
 ↓reduceIte, Nat.reduceEqDiff, List.nil_append, List.cons_append, List.append_nil, List.map_cons, List.map_nil, qawz, qaxz, qayz, Option.map_some, Option.map_none, qazz, qbaz, qbbz, qbcz, qbdz, qbez, qbfz, qbgz, qbhz, qbiz, qbjz, qbkz, qblz, qbmz, qbnz, qboz,
 qbpz, qbqz, qbrz, qbsz, qbtz, qbuz, qbvz, qbwz, qbxz, qbyz, qbzz, qcaz, qcbz, qccz, qcdz, qcez, qcfz, qcgz, qchz, qciz, beq_true, beq_false, Bool.not_eq_true', decide_eq_true_eq, decide_eq_false_iff_not, decide_true, decide_false,
 Int.toNat_natCast, Int.ofNat_lt, Int.ofNat_le, Int.natCast_inj, Bool.false_eq_true, Bool.true_eq_false, qcjz, List.getElem?_cons_zero, List.getElem?_cons_succ, qckz, Int.reduceToNat, Int.reduceLE, true_and, and_true, reduceCtorEq, or_false, false_or, or_true, Option.some.injEq, exists_eq_left', Bool.not_true, Bool.not_false, ne_eq, Int.reduceEq, not_true_eq_false, not_false_eq_true, Int.reduceLT, UInt8.reduceLT, UInt8.reduceLE, UInt8.reduceToNat]
        exact next true acc v S hk hm (by omega) hTT hBB _ h0 h4 rfl rfl
    | false =>
      rw [clnG] at hTT
      rw [inG] at hBB
      by_cases c1 : c = 40
      · obtain ⟨v', S', a1, a2, a3⟩ := hk.push (c := 32) hm (by omega)
        rw [if_pos c1] at hTT
        rw [decide_eq_true c1] at hBB
        have a1' : app8 ⟨S.boxes, S.toks ++ [true], S.loops, S.low⟩ v (.bys (.own S.toks.length) [32]) = some (v', S') := a1
        simp (maxSteps := 1000000) (disch := omega) only [h0, h4, h5, h6, len_s, hlt, idx_s, ← hc, eq_true c1, lit8_1, freshT, a1', add_n, loopQ_normal, qaaz, qabz, qacz, qadz, qaez, qafz, qagz, qahz, qaiz, qajz, qakz, qalz, qamz, qanz, evOp, qaoz, qapz, qaqz, qarz, qasz, qatz, qauz, qavz,
 ↓reduceIte, Nat.reduceEqDiff, List.nil_append, List.cons_append, List.append_nil, List.map_cons, List.map_nil, qawz, qaxz, qayz, Option.map_some, Option.map_none, qazz, qbaz, qbbz, qbcz, qbdz, qbez, qbfz, qbgz, qbhz, qbiz, qbjz, qbkz, qblz, qbmz, qbnz, qboz,
 qbpz, qbqz, qbrz, qbsz, qbtz, qbuz, qbvz, qbwz, qbxz, qbyz, qbzz, qcaz, qcbz, qccz, qcdz, qcez, qcfz, qcgz, qchz, qciz, beq_true, beq_false, Bool.not_eq_true', decide_eq_true_eq, decide_eq_false_iff_not, decide_true, decide_false,
 Int.toNat_natCast, Int.ofNat_lt, Int.ofNat_le, Int.natCast_inj, Bool.false_eq_true, Bool.true_eq_false, qcjz, List.getElem?_cons_zero, List.getElem?_cons_succ, qckz, Int.reduceToNat, Int.reduceLE, true_and, and_true, reduceCtorEq, or_false, false_or, or_true, Option.some.injEq, exists_eq_left', Bool.not_true, Bool.not_false, ne_eq, Int.reduceEq, not_true_eq_false, not_false_eq_true, Int.reduceLT, UInt8.reduceLT, UInt8.reduceLE, UInt8.reduceToNat]
        exact next true (acc ++ [32]) v' S' a2 a3 (by simp; omega) (by rw [hTT]; simp) hBB _ h0 rfl rfl rfl
      · rw [if_neg c1] at hTT
        rw [decide_eq_false c1] at hBB
        by_cases c2 : c = 9
        · obtain ⟨v', S', a1, a2, a3⟩ := hk.push (c := 32) hm (by omega)
          rw [if_pos c2] at hTT
          have a1' : app8 ⟨S.boxes, S.toks ++ [true], S.loops, S.low⟩ v (.bys (.own S.toks.length) [32]) = some (v', S') := a1
          simp (maxSteps := 1000000) (disch := omega) only [h0, h4, h5, h6, len_s, hlt, idx_s, ← hc, c1, eq_true c2, lit8_1, freshT, a1', add_n, loopQ_normal, qaaz, qabz, qacz, qadz, qaez, qafz, qagz, qahz, qaiz, qajz, qakz, qalz, qamz, qanz, evOp, qaoz, qapz, qaqz, qarz, qasz, qatz, qauz, qavz,
 ↓reduceIte, Nat.reduceEqDiff, List.nil_append, List.cons_append, List.append_nil, List.map_cons, List.map_nil, qawz, qaxz, qayz, Option.map_some, Option.map_none, qazz, qbaz, qbbz, qbcz, qbdz, qbez, qbfz, qbgz, qbhz, qbiz, qbjz, qbkz, qblz, qbmz, qbnz, qboz,
 qbpz, qbqz, qbrz, qbsz, qbtz, qbuz, qbvz, qbwz, qbxz, qbyz, qbzz, qcaz, qcbz, qccz, qcdz, qcez, qcfz, qcgz, qchz, qciz, beq_true, beq_false, Bool.not_eq_true', decide_eq_true_eq, decide_eq_false_iff_not, decide_true, decide_false,
 Int.toNat_natCast, Int.ofNat_lt, Int.ofNat_le, Int.natCast_inj, Bool.false_eq_true, Bool.true_eq_false, qcjz, List.getElem?_cons_zero, List.getElem?_cons_succ, qckz, Int.reduceToNat, Int.reduceLE, true_and, and_true, reduceCtorEq, or_false, false_or, or_true, Option.some.injEq, exists_eq_left', Bool.not_true, Bool.not_false, ne_eq, Int.reduceEq, not_true_eq_false, not_false_eq_true, Int.reduceLT, UInt8.reduceLT, UInt8.reduceLE, UInt8.reduceToNat]
          exact next false (acc ++ [32]) v' S' a2 a3 (by simp; omega) (by rw [hTT]; simp) hBB _ h0 rfl h5 rfl
        · obtain ⟨v', S', a1, a2, a3⟩ := hk.push (c := c) hm (by omega)
          rw [if_neg c2] at hTT
          have a1' : app8 ⟨S.boxes, S.toks ++ [true], S.loops, S.low⟩ v (.bys (.own S.toks.length) [c]) = some (v', S') := a1
          simp (maxSteps := 1000000) (disch := omega) only [h0, h4, h5, h6, len_s, hlt, idx_s, ← hc, c1, c2, lit8_1, freshT, a1', add_n, loopQ_normal, qaaz, qabz, qacz, qadz, qaez, qafz, qagz, qahz, qaiz, qajz, qakz, qalz, qamz, qanz, evOp, qaoz, qapz, qaqz, qarz, qasz, qatz, qauz, qavz,
 ↓reduceIte, Nat.reduceEqDiff, List.nil_append, List.cons_append, List.append_nil, List.map_cons, List.map_nil, qawz, qaxz, qayz, Option.map_some, Option.map_none, qazz, qbaz, qbbz, qbcz, qbdz, qbez, qbfz, qbgz, qbhz, qbiz, qbjz, qbkz, qblz, qbmz, qbnz, qboz,
 qbpz, qbqz, qbrz, qbsz, qbtz, qbuz, qbvz, qbwz, qbxz, qbyz, qbzz, qcaz, qcbz, qccz, qcdz, qcez, qcfz, qcgz, qchz, qciz, beq_true, beq_false, Bool.not_eq_true', decide_eq_true_eq, decide_eq_false_iff_not, decide_true, decide_false,
 Int.toNat_natCast, Int.ofNat_lt, Int.ofNat_le, Int.natCast_inj, Bool.false_eq_true, Bool.true_eq_false, qcjz, List.getElem?_cons_zero, List.getElem?_cons_succ, qckz, Int.reduceToNat, Int.reduceLE, true_and, and_true, reduceCtorEq, or_false, false_or, or_true, Option.some.injEq, exists_eq_left', Bool.not_true, Bool.not_false, ne_eq, Int.reduceEq, not_true_eq_false, not_false_eq_true, Int.reduceLT, UInt8.reduceLT, UInt8.reduceLE, UInt8.reduceToNat]
          exact next false (acc ++ [c]) v' S' a2 a3 (by simp; omega) (by rw [hTT]; simp) hBB _ h0 rfl h5 rfl
  · have hn : l.drop i = [] := List.drop_of_length_le (by omega)
    rw [hn] at hTT hBB
    have h1 : T = acc := by rw [hTT]; cases b <;> simp [clnG]
    have h2 : B = b := by rw [hBB]; cases b <;> rfl
    simp (maxSteps := 1000000) (disch := omega) only [h0, h4, h5, h6, len_s, hlt, b2s_by hm.by, qaaz, qabz, qacz, qadz, qaez, qafz, qagz, qahz, qaiz, qajz, qakz, qalz, qamz, qanz, evOp, qaoz, qapz, qaqz, qarz, qasz, qatz, qauz, qavz,
 ↓reduceIte, Nat.reduceEqDiff, List.nil_append, List.cons_append, List.append_nil, List.map_cons, List.map_nil, qawz, qaxz, qayz, Option.map_some, Option.map_none, qazz, qbaz, qbbz, qbcz, qbdz, qbez, qbfz, qbgz, qbhz, qbiz, qbjz, qbkz, qblz, qbmz, qbnz, qboz,
 qbpz, qbqz, qbrz, qbsz, qbtz, qbuz, qbvz, qbwz, qbxz, qbyz, qbzz, qcaz, qcbz, qccz, qcdz, qcez, qcfz, qcgz, qchz, qciz, beq_true, beq_false, Bool.not_eq_true', decide_eq_true_eq, decide_eq_false_iff_not, decide_true, decide_false,
 Int.toNat_natCast, Int.ofNat_lt, Int.ofNat_le, Int.natCast_inj, Bool.false_eq_true, Bool.true_eq_false, qcjz, List.getElem?_cons_zero, List.getElem?_cons_succ, qckz, Int.reduceToNat, Int.reduceLE, true_and, and_true, reduceCtorEq, or_false, false_or, or_true, Option.some.injEq, exists_eq_left', Bool.not_true, Bool.not_false, ne_eq, Int.reduceEq, not_true_eq_false, not_false_eq_true, Int.reduceLT, UInt8.reduceLT, UInt8.reduceLE, UInt8.reduceToNat]
    rw [hQ0, qblz, h1, h2]
    exact retV2 rfl rfl rfl rfl hk ⟨fun _ => rfl, fun _ _ => rfl⟩

/-- Words, as the document has them. -/
def wordsR (t : Bs) : List Bs := (splitOn 32 [] t).filter fun w => !decide (w = [])

set_option maxHeartbeats 4000000 in
theorem rWords_spec {l : Bs} (hl : l.length ≤ 1000000) : call prog (.fn 294 []) [.str l] st = some (newSl st 1 ((wordsR l).map .str), newS st ((wordsR l).map PV.str).isEmpty) := by
  refine call_of_W prog_294 ?_
  unfold F_posthornref20_words; dsimp only
  obtain ⟨xs, hxs⟩ : ∃ xs, xs = splitOn 32 [] l := ⟨_, rfl⟩
  have hsp := Parts_spec (st := ⟨st.boxes, st.toks, st.loops, st.boxes.length⟩) (c := 32) (l := l) (by omega)
  have hnum := split_num (sep := 32) l []
  have hne := splitOn_ne (c := 32) l []
  rw [← hxs] at hsp hnum hne
  have hV : newSl (⟨st.boxes, st.toks, st.loops, st.boxes.length⟩ : St) 1 (xs.map .str) = rowV (.own st.toks.length) xs := by
    unfold newSl; rw [if_neg (by simpa using hne)]; rfl
  rw [hV] at hsp
  have hW : wordsR l = xs.filter fun w => !decide (w = []) := by unfold wordsR; rw [← hxs]
  rw [hW]
  simp only [St.tok1] at hsp
  simp (maxSteps := 1000000) (disch := omega) only [hsp, qaaz, qabz, qacz, qadz, qaez, qafz, qagz, qahz, qaiz, qajz, qakz, qalz, qamz, qanz, evOp, qaoz, qapz, qaqz, qarz, qasz, qatz, qauz, qavz,
 ↓reduceIte, Nat.reduceEqDiff, List.nil_append, List.cons_append, List.append_nil, List.map_cons, List.map_nil, qawz, qaxz, qayz, Option.map_some, Option.map_none, qazz, qbaz, qbbz, qbcz, qbdz, qbez, qbfz, qbgz, qbhz, qbiz, qbjz, qbkz, qblz, qbmz, qbnz, qboz,
 qbpz, qbqz, qbrz, qbsz, qbtz, qbuz, qbvz, qbwz, qbxz, qbyz, qbzz, qcaz, qcbz, qccz, qcdz, qcez, qcfz, qcgz, qchz, qciz, beq_true, beq_false, Bool.not_eq_true', decide_eq_true_eq, decide_eq_false_iff_not, decide_true, decide_false,
 Int.toNat_natCast, Int.ofNat_lt, Int.ofNat_le, Int.natCast_inj, Bool.false_eq_true, Bool.true_eq_false, qcjz, List.getElem?_cons_zero, List.getElem?_cons_succ, qckz, Int.reduceToNat, Int.reduceLE, true_and, and_true, reduceCtorEq, or_false, false_or, or_true, Option.some.injEq, exists_eq_left', Bool.not_true, Bool.not_false, ne_eq, Int.reduceEq, not_true_eq_false, not_false_eq_true, Int.reduceLT, UInt8.reduceLT, UInt8.reduceLE, UInt8.reduceToNat]
  obtain ⟨Q0, hQ0⟩ : ∃ Q0 : Ex → Env → St → Prop, Q0 = endQ st [.tmp 2] (newSl st 1 ((xs.filter fun w => !decide (w = [])).map .str), newS st ((xs.filter fun w => !decide (w = [])).map PV.str).isEmpty) := ⟨_, rfl⟩
  rw [← hQ0]
  have hroom : room = 68719476736 := rfl
  obtain ⟨I, hI⟩ : ∃ I : Nat → Env → St → Prop, I = fun k E S => ∃ (i : Nat) (acc : List Bs) (v : PV), k = xs.length - i ∧ i ≤ xs.length ∧ Kept st S ∧ Own st S 1 v (acc.map .str) ∧ (acc = [] → v = .nils) ∧ acc.length ≤ i ∧ (xs.filter fun w => !decide (w = [])) = acc ++ ((xs.drop i).filter fun w => !decide (w = [])) ∧ E 3 = rowV (.own st.toks.length) xs ∧ E 4 = v ∧ E 5 = .int .i64 (i : Int) := ⟨_, rfl⟩
  refine W_loop I ?_ (n := xs.length) (by
    rw [hI]; exact ⟨0, [], .nils, rfl, by omega, Kept.start.tok1, .inl ⟨rfl, rfl⟩, fun _ => rfl, by simp, by simp, rfl, rfl, rfl⟩)
  intro k E S hh
  rw [hI] at hh
  obtain ⟨i, acc, v, rfl, hi, hk, ho, hz, hal, hTT, h3, h4, h5⟩ := hh
  by_cases hlt : i < xs.length
  · have hlt' : (i : Int) < (xs.length : Int) := by omega
    obtain ⟨w, hw⟩ : ∃ w, w = xs.getD i [] := ⟨_, rfl⟩
    have hd : xs.drop i = w :: xs.drop (i + 1) := by rw [List.drop_eq_getElem_cons hlt, hw]; simp [List.getD, hlt]
    have hia : iaddrPV 1 (rowV (.own st.toks.length) xs) (.int .i64 (i : Int)) = some (.cp [.str w]) := by rw [hw]; exact iaddr_t rowV_vs (by omega) (by simpa using hlt)
    rw [hd] at hTT
    have next : ∀ (acc' : List Bs) (v' : PV) (S' : St), Kept st S' → Own st S' 1 v' (acc'.map .str) → (acc' = [] → v' = .nils) → acc'.length ≤ i + 1 → (xs.filter fun w => !decide (w = [])) = acc' ++ ((xs.drop (i + 1)).filter fun w => !decide (w = [])) → ∀ E : Env, E 3 = rowV (.own st.toks.length) xs → E 4 = v' → E 5 = .int .i64 ((i + 1 : Nat) : Int) → ∃ m, m < xs.length - i ∧ I m E S' := fun acc' v' S' q1 q2 q3 q4 q5 E k3 k4 k5 =>
      ⟨xs.length - (i + 1), by omega, by rw [hI]; exact ⟨i + 1, acc', v', rfl, by omega, q1, q2, q3, q4, q5, k3, k4, k5⟩⟩
    by_cases hwn : w = []
    · rw [List.filter_cons_of_neg (by simp [hwn])] at hTT
      simp (maxSteps := 1000000) (disch := omega) only [h3, h4, h5, len_row, hlt, hia, eq_true hwn, add_n, loopQ_normal, qaaz, qabz, qacz, qadz, qaez, qafz, qagz, qahz, qaiz, qajz, qakz, qalz, qamz, qanz, evOp, qaoz, qapz, qaqz, qarz, qasz, qatz, qauz, qavz,
 ↓reduceIte, Nat.reduceEqDiff, List.nil_append, List.cons_append, List.append_nil, List.map_cons, List.map_nil, qawz, qaxz, qayz, Option.map_some, Option.map_none, qazz, qbaz, qbbz, qbcz, qbdz, qbez, qbfz, qbgz, qbhz, qbiz, qbjz, qbkz, qblz, qbmz, qbnz, qboz,
 qbpz, qbqz, qbrz, qbsz, qbtz, qbuz, qbvz, qbwz, qbxz, qbyz, qbzz, qcaz, qcbz, qccz, qcdz, qcez, qcfz, qcgz, qchz, qciz, beq_true, beq_false, Bool.not_eq_true', decide_eq_true_eq, decide_eq_false_iff_not, decide_true, decide_false,
 Int.toNat_natCast, Int.ofNat_lt, Int.ofNat_le, Int.natCast_inj, Bool.false_eq_true, Bool.true_eq_false, qcjz, List.getElem?_cons_zero, List.getElem?_cons_succ, qckz, Int.reduceToNat, Int.reduceLE, true_and, and_true, reduceCtorEq, or_false, false_or, or_true, Option.some.injEq, exists_eq_left', Bool.not_true, Bool.not_false, ne_eq, Int.reduceEq, not_true_eq_false, not_false_eq_true, Int.reduceLT, UInt8.reduceLT, UInt8.reduceLE, UInt8.reduceToNat]
      exact next acc v S hk ho hz (by omega) hTT _ h3 h4 rfl
    · rw [List.filter_cons_of_pos (by simp [hwn])] at hTT
      obtain ⟨v', S', a1, a2, a3, a4⟩ := hk.appV (u := .str w) (w := .nils) ho (by simp; omega)
      have a1' : appV 1 ⟨S.boxes, S.toks ++ [true], S.loops, S.low⟩ v (.sl 1 (.own S.toks.length) [.str w]) = some (v', S') := a1
      simp (maxSteps := 1000000) (disch := omega) only [h3, h4, h5, len_row, hlt, hia, hwn, lit_s, freshT, a1', add_n, loopQ_normal, qaaz, qabz, qacz, qadz, qaez, qafz, qagz, qahz, qaiz, qajz, qakz, qalz, qamz, qanz, evOp, qaoz, qapz, qaqz, qarz, qasz, qatz, qauz, qavz,
 ↓reduceIte, Nat.reduceEqDiff, List.nil_append, List.cons_append, List.append_nil, List.map_cons, List.map_nil, qawz, qaxz, qayz, Option.map_some, Option.map_none, qazz, qbaz, qbbz, qbcz, qbdz, qbez, qbfz, qbgz, qbhz, qbiz, qbjz, qbkz, qblz, qbmz, qbnz, qboz,
 qbpz, qbqz, qbrz, qbsz, qbtz, qbuz, qbvz, qbwz, qbxz, qbyz, qbzz, qcaz, qcbz, qccz, qcdz, qcez, qcfz, qcgz, qchz, qciz, beq_true, beq_false, Bool.not_eq_true', decide_eq_true_eq, decide_eq_false_iff_not, decide_true, decide_false,
 Int.toNat_natCast, Int.ofNat_lt, Int.ofNat_le, Int.natCast_inj, Bool.false_eq_true, Bool.true_eq_false, qcjz, List.getElem?_cons_zero, List.getElem?_cons_succ, qckz, Int.reduceToNat, Int.reduceLE, true_and, and_true, reduceCtorEq, or_false, false_or, or_true, Option.some.injEq, exists_eq_left', Bool.not_true, Bool.not_false, ne_eq, Int.reduceEq, not_true_eq_false, not_false_eq_true, Int.reduceLT, UInt8.reduceLT, UInt8.reduceLE, UInt8.reduceToNat]
      exact next (acc ++ [w]) v' S' a2 (by simpa using a3) (fun h => by simp at h) (by simp; omega) (by rw [hTT]; simp) _ h3 rfl rfl
  · have hn : xs.drop i = [] := List.drop_of_length_le (by omega)
    rw [hn, List.filter_nil, List.append_nil] at hTT
    simp (maxSteps := 1000000) (disch := omega) only [h3, h4, h5, len_row, hlt, qaaz, qabz, qacz, qadz, qaez, qafz, qagz, qahz, qaiz, qajz, qakz, qalz, qamz, qanz, evOp, qaoz, qapz, qaqz, qarz, qasz, qatz, qauz, qavz,
 ↓reduceIte, Nat.reduceEqDiff, List.nil_append, List.cons_append, List.append_nil, List.map_cons, List.map_nil, qawz, qaxz, qayz, Option.map_some, Option.map_none, qazz, qbaz, qbbz, qbcz, qbdz, qbez, qbfz, qbgz, qbhz, qbiz, qbjz, qbkz, qblz, qbmz, qbnz, qboz,
 qbpz, qbqz, qbrz, qbsz, qbtz, qbuz, qbvz, qbwz, qbxz, qbyz, qbzz, qcaz, qcbz, qccz, qcdz, qcez, qcfz, qcgz, qchz, qciz, beq_true, beq_false, Bool.not_eq_true', decide_eq_true_eq, decide_eq_false_iff_not, decide_true, decide_false,
 Int.toNat_natCast, Int.ofNat_lt, Int.ofNat_le, Int.natCast_inj, Bool.false_eq_true, Bool.true_eq_false, qcjz, List.getElem?_cons_zero, List.getElem?_cons_succ, qckz, Int.reduceToNat, Int.reduceLE, true_and, and_true, reduceCtorEq, or_false, false_or, or_true, Option.some.injEq, exists_eq_left', Bool.not_true, Bool.not_false, ne_eq, Int.reduceEq, not_true_eq_false, not_false_eq_true, Int.reduceLT, UInt8.reduceLT, UInt8.reduceLE, UInt8.reduceToNat]
    rw [hQ0, qblz, hTT]
    refine ⟨v, by simp [resOf, rvAll, rv1, own_nt ho, packRes, qavz], hk.leaveOwn1 ho (fun h => hz (by simpa using h))⟩
end Go.Ab
