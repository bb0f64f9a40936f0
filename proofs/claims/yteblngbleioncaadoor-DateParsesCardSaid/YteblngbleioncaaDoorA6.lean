/-
  The document's dates: a day's name ahead of the words.
-/
import Derived.Test.YteblngbleioncaaDoorA5
import Derived.Test.YteblngbleioncaaDoorA2
import Derived.Test.YteblngbleioncaaDoorA3
import Derived.Shelf.Bytes.SlIndexWhole
import Derived.Shelf.Bytes.IndexByte
import Derived.Shelf.Strings.Builder1
import Derived.Shelf.Strings.Search2
import Derived.Shelf.Small.Strs
import Derived.Shelf.Strings.Split
import Derived.HandedShaped
import Derived.LaidLaws
import Derived.Lay
namespace Go.Ab
set_option linter.unusedVariables false
set_option linter.unusedSimpArgs false
set_option maxRecDepth 20000
variable {st s : St} {e : Env}

theorem retX {a b c : Nat} {n m : Int} {p q : Bool} {t : Tok} {l : List Bs} (ha : e a = rowV t l) (hb : e b = .int .i64 n) (hc : e c = .bool p) (hk : Kept st s) (ht : ∀ i, t = .own i → i < st.toks.length) (hnm : n = m) (hpq : p = q) :
    ∃ rv, resOf e s [.tmp a, .tmp b, .tmp c] = some rv ∧ leave st s rv = (.tup [rowV t l, .int .i64 m, .bool q], st) := by
  subst hnm hpq
  refine ⟨.tup [rowV t l, .int .i64 n, .bool p], by simp [resOf, rvAll, rv1, ha, hb, hc, packRes, notTup, rowV], ?_⟩
  have h1 := hk.bx; have h2 := hk.lp; have h3 := hk.lw; have h4 := hk.tk
  have h5 : (PV.tup [rowV t l, .int .i64 n, .bool p]).inB st.boxes.length = true := rfl
  have h6 : keepRes st.toks.length s.toks (.tup [rowV t l, .int .i64 n, .bool p]) = (.tup [rowV t l, .int .i64 n, .bool p], []) := by
    simp only [keepRes, keepVals, keep_row ht]; rfl
  simp [leave, h5, h3, h6, h1, h2, h4]
theorem retXn {a b c : Nat} {n m : Int} {p q : Bool} (ha : e a = .nils) (hb : e b = .int .i64 n) (hc : e c = .bool p) (hk : Kept st s) (hnm : n = m) (hpq : p = q) :
    ∃ rv, resOf e s [.tmp a, .tmp b, .tmp c] = some rv ∧ leave st s rv = (.tup [.nils, .int .i64 m, .bool q], st) := by
  subst hnm hpq
  exact ⟨.tup [.nils, .int .i64 n, .bool p], by simp [resOf, rvAll, rv1, ha, hb, hc, packRes, notTup], hk.leave' ⟨fun _ => rfl, fun _ _ => rfl⟩⟩
theorem retXo {a b c : Nat} {n m : Int} {p q : Bool} {i : Nat} {l : List Bs} (ha : e a = rowV (.own i) l) (hb : e b = .int .i64 n) (hc : e c = .bool p) (hk : Kept st s) (hi : st.toks.length ≤ i) (ht : s.toks[i]? = some true) (hnm : n = m) (hpq : p = q) :
    ∃ rv, resOf e s [.tmp a, .tmp b, .tmp c] = some rv ∧ leave st s rv = (.tup [rowV (.own st.toks.length) l, .int .i64 m, .bool q], st.tok1) := by
  subst hnm hpq
  refine ⟨.tup [rowV (.own i) l, .int .i64 n, .bool p], by simp [resOf, rvAll, rv1, ha, hb, hc, packRes, notTup, rowV], ?_⟩
  have h1 := hk.bx; have h2 := hk.lp; have h3 := hk.lw; have h4 := hk.tk
  have h5 : (PV.tup [.sl 1 (.own i) (l.map .str), .int .i64 n, .bool p]).inB st.boxes.length = true := rfl
  simp [leave, h5, h3, rowV, keepRes, keepVals, keepVal, keepLeaf, keepTok, ht, show ¬ i < st.toks.length by omega, h1, h2, h4, St.tok1]

def endT (st : St) (rs : List RV) (R : PV × St → Prop) : Ex → Env → St → Prop := fun x e1 st1 => (x = .normal ∨ x = .ret) ∧ ∃ rv, resOf e1 st1 rs = some rv ∧ R (leave st st1 rv)
theorem call_exT {f : Nat} {args : List PV} {fn : ACFn} {R : PV × St → Prop} (hA : prog f = some (.code fn))
    (h : W prog fn.body (env0 args) { st with low := st.boxes.length } (endT st fn.results R)) : ∃ r, call prog (.fn f []) args st = some r ∧ R r := by
  obtain ⟨⟨x, e1, st1⟩, h1, h2, rv, h3, h4⟩ := h
  refine ⟨_, ?_, h4⟩
  rw [call_fn hA, List.append_nil, h1]
  rcases h2 with rfl | rfl
  · simp only [finish]; simp only at h3 h4; rw [h3]; rfl
  · simp only [finish]; simp only at h3 h4; rw [h3]; rfl
/-- What is handed back behind a day's name. -/
def nmR (st : St) (i : Nat) (L : List Bs) (r : PV × St) : Prop := ∃ (y : PV) (n : Int), r.1 = .tup [y, .int .i64 n, .bool (decide ((wdD L).1 ≠ -2))] ∧ (r.2 = st ∨ r.2 = st.tok1) ∧
  ((wdD L).1 ≠ -2 → n = (wdD L).1 ∧ (y = .nils ∧ (wdD L).2 = [] ∨ ∃ j, (j = i ∨ j = st.toks.length) ∧ y = rowV (.own j) (wdD L).2 ∧ r.2.toks[j]? = some true))

theorem nmD_day (w : Bs) : nmD w 7 dayT = -1 ∨ 0 ≤ nmD w 7 dayT := by
  unfold nmD
  split
  · right; omega
  · left; rfl

set_option maxHeartbeats 8000000 in
theorem named_spec {i : Nat} {L : List Bs} (hi : st.toks[i]? = some true) (hne : ∀ w ∈ L, w ≠ []) (hl : ∀ w ∈ L, w.length ≤ 1000000) (hn : L.length ≤ 1000000) : ∃ r, call prog (.fn 295 []) [rowV (.own i) L] st = some r ∧ nmR st i L r := by
  have hil : i < st.toks.length := (List.getElem?_eq_some_iff.1 hi).1
  match L, hne, hl, hn with
  | [], _, _, _ =>
    refine ⟨(.tup [.nils, .int .i64 (-1), .bool false], st), ?_, .nils, -1, rfl, .inl rfl, fun h => absurd rfl h⟩
    refine call_of_W prog_295 ?_
    unfold F_posthornref20_named; dsimp only
    have ln : lenPV false (rowV (.own i) []) = some (.int .i64 0) := rfl
    simp (maxSteps := 1000000) (disch := omega) only [ln, qaaz, qabz, qacz, qadz, qaez, qafz, qagz, qahz, qaiz, qajz, qakz, qalz, qamz, qanz, evOp, qaoz, qapz, qaqz, qarz, qasz, qatz, qauz, qavz,
 ↓reduceIte, Nat.reduceEqDiff, List.nil_append, List.cons_append, List.append_nil, List.map_cons, List.map_nil, qawz, qaxz, qayz, Option.map_some, Option.map_none, qazz, qbaz, qbbz, qbcz, qbdz, qbez, qbfz, qbgz, qbhz, qbiz, qbjz, qbkz, qblz, qbmz, qbnz, qboz,
 qbpz, qbqz, qbrz, qbsz, qbtz, qbuz, qbvz, qbwz, qbxz, qbyz, qbzz, qcaz, qcbz, qccz, qcdz, qcez, qcfz, qcgz, qchz, qciz, beq_true, beq_false, Bool.not_eq_true', decide_eq_true_eq, decide_eq_false_iff_not, decide_true, decide_false,
 Int.toNat_natCast, Int.ofNat_lt, Int.ofNat_le, Int.natCast_inj, Bool.false_eq_true, Bool.true_eq_false, qcjz, List.getElem?_cons_zero, List.getElem?_cons_succ, qckz, Int.reduceToNat, Int.reduceLE, true_and, and_true, reduceCtorEq, or_false, false_or, or_true, Option.some.injEq, exists_eq_left', Bool.not_true, Bool.not_false, ne_eq, Int.reduceEq, not_true_eq_false, not_false_eq_true, Int.reduceLT, UInt8.reduceLT, UInt8.reduceLE, UInt8.reduceToNat]
    exact retXn rfl rfl rfl Kept.start rfl rfl
  | w :: r, hne, hl, hn =>
    have hlw := hl w (by simp)
    simp only [List.length_cons] at hn
    refine call_exT prog_295 ?_
    unfold F_posthornref20_named; dsimp only
    obtain ⟨Q0, hQ0⟩ : ∃ Q0 : Ex → Env → St → Prop, Q0 = endT st [.tmp 2, .tmp 3, .tmp 4] (nmR st i (w :: r)) := ⟨_, rfl⟩
    rw [← hQ0]
    have e1 : ¬ (((r.length + 1 : Nat) : Int) = 0) := by omega
    have i0 : iaddrPV 1 (rowV (.own i) (w :: r)) (.int .i64 0) = some (.cp [.str w]) := iaddr_t rowV_vs (by omega) (by simp)
    obtain ⟨S0, hS0⟩ : ∃ S0 : St, S0 = ⟨st.boxes, st.toks, st.loops, st.boxes.length⟩ := ⟨_, rfl⟩
    have hk0 : Kept st S0 := by rw [hS0]; exact Kept.start
    have ht0 : S0.toks = st.toks := by rw [hS0]
    rw [← hS0]
    -- where the comma is
    obtain ⟨p, hp1, hp2, hp3⟩ : ∃ p : Nat, p ≤ w.length ∧ (∀ j, j < p → w.getD j 0 ≠ 44) ∧ ((p = w.length ∧ ¬ 0 ≤ Lib.index w [44]) ∨ (p < w.length ∧ w.getD p 0 = 44 ∧ Lib.index w [44] = (p : Int))) := by
      rcases chr_split 44 w with ⟨q1, q2⟩ | ⟨n, t, q1, q2⟩
      · refine ⟨w.length, Nat.le_refl _, fun j hj h => q1 ?_, .inl ⟨rfl, by rw [q2]; omega⟩⟩
        rw [← h]; simp [List.getD, hj]
      · refine ⟨n.length, by rw [q1]; simp, fun j hj => ?_, .inr ⟨by rw [q1]; simp, by rw [q1]; simp [List.getD], by rw [q1]; exact index_chr n t q2⟩⟩
        have : w.getD j 0 = n.getD j 0 := by rw [q1]; simp [List.getD, List.getElem?_append_left hj]
        rw [this]
        exact q2 _ (by simp [List.getD, hj])
    simp (maxSteps := 1000000) (disch := omega) only [len_row, List.length_cons, e1, i0, qaaz, qabz, qacz, qadz, qaez, qafz, qagz, qahz, qaiz, qajz, qakz, qalz, qamz, qanz, evOp, qaoz, qapz, qaqz, qarz, qasz, qatz, qauz, qavz,
 ↓reduceIte, Nat.reduceEqDiff, List.nil_append, List.cons_append, List.append_nil, List.map_cons, List.map_nil, qawz, qaxz, qayz, Option.map_some, Option.map_none, qazz, qbaz, qbbz, qbcz, qbdz, qbez, qbfz, qbgz, qbhz, qbiz, qbjz, qbkz, qblz, qbmz, qbnz, qboz,
 qbpz, qbqz, qbrz, qbsz, qbtz, qbuz, qbvz, qbwz, qbxz, qbyz, qbzz, qcaz, qcbz, qccz, qcdz, qcez, qcfz, qcgz, qchz, qciz, beq_true, beq_false, Bool.not_eq_true', decide_eq_true_eq, decide_eq_false_iff_not, decide_true, decide_false,
 Int.toNat_natCast, Int.ofNat_lt, Int.ofNat_le, Int.natCast_inj, Bool.false_eq_true, Bool.true_eq_false, qcjz, List.getElem?_cons_zero, List.getElem?_cons_succ, qckz, Int.reduceToNat, Int.reduceLE, true_and, and_true, reduceCtorEq, or_false, false_or, or_true, Option.some.injEq, exists_eq_left', Bool.not_true, Bool.not_false, ne_eq, Int.reduceEq, not_true_eq_false, not_false_eq_true, Int.reduceLT, UInt8.reduceLT, UInt8.reduceLE, UInt8.reduceToNat]
    refine W_mono (Q := fun x E S => x = .exit 0 ∧ S = S0 ∧ E 0 = rowV (.own i) (w :: r) ∧ E 5 = .str w ∧ E 6 = .int .i64 (p : Int)) ?_ ?_
    · obtain ⟨I, hI⟩ : ∃ I : Nat → Env → St → Prop, I = fun k E S => ∃ j : Nat, k = p - j ∧ j ≤ p ∧ S = S0 ∧ E 0 = rowV (.own i) (w :: r) ∧ E 5 = .str w ∧ E 6 = .int .i64 (j : Int) := ⟨_, rfl⟩
      refine W_loop I ?_ (n := p) (by rw [hI]; exact ⟨0, rfl, by omega, rfl, rfl, rfl, rfl⟩)
      intro k E S hh
      rw [hI] at hh
      obtain ⟨j, rfl, hj, hS, g0, g5, g6⟩ := hh
      by_cases hjp : j < p
      · have hlt : j < w.length := by omega
        have hne44 := hp2 j hjp
        simp (maxSteps := 1000000) (disch := omega) only [g0, g5, g6, len_s, hlt, idx_s, hne44, add_n, loopQ_normal, qaaz, qabz, qacz, qadz, qaez, qafz, qagz, qahz, qaiz, qajz, qakz, qalz, qamz, qanz, evOp, qaoz, qapz, qaqz, qarz, qasz, qatz, qauz, qavz,
 ↓reduceIte, Nat.reduceEqDiff, List.nil_append, List.cons_append, List.append_nil, List.map_cons, List.map_nil, qawz, qaxz, qayz, Option.map_some, Option.map_none, qazz, qbaz, qbbz, qbcz, qbdz, qbez, qbfz, qbgz, qbhz, qbiz, qbjz, qbkz, qblz, qbmz, qbnz, qboz,
 qbpz, qbqz, qbrz, qbsz, qbtz, qbuz, qbvz, qbwz, qbxz, qbyz, qbzz, qcaz, qcbz, qccz, qcdz, qcez, qcfz, qcgz, qchz, qciz, beq_true, beq_false, Bool.not_eq_true', decide_eq_true_eq, decide_eq_false_iff_not, decide_true, decide_false,
 Int.toNat_natCast, Int.ofNat_lt, Int.ofNat_le, Int.natCast_inj, Bool.false_eq_true, Bool.true_eq_false, qcjz, List.getElem?_cons_zero, List.getElem?_cons_succ, qckz, Int.reduceToNat, Int.reduceLE, true_and, and_true, reduceCtorEq, or_false, false_or, or_true, Option.some.injEq, exists_eq_left', Bool.not_true, Bool.not_false, ne_eq, Int.reduceEq, not_true_eq_false, not_false_eq_true, Int.reduceLT, UInt8.reduceLT, UInt8.reduceLE, UInt8.reduceToNat]
        refine ⟨p - (j + 1), by omega, ?_⟩
        rw [hI]; exact ⟨j + 1, rfl, by omega, hS, g0, g5, rfl⟩
      · obtain rfl : j = p := by omega
        rcases hp3 with ⟨h1, _⟩ | ⟨h1, h2, _⟩
        · have hlt : ¬ j < w.length := by omega
          simp (maxSteps := 1000000) (disch := omega) only [g0, g5, g6, len_s, hlt, qaaz, qabz, qacz, qadz, qaez, qafz, qagz, qahz, qaiz, qajz, qakz, qalz, qamz, qanz, evOp, qaoz, qapz, qaqz, qarz, qasz, qatz, qauz, qavz,
 ↓reduceIte, Nat.reduceEqDiff, List.nil_append, List.cons_append, List.append_nil, List.map_cons, List.map_nil, qawz, qaxz, qayz, Option.map_some, Option.map_none, qazz, qbaz, qbbz, qbcz, qbdz, qbez, qbfz, qbgz, qbhz, qbiz, qbjz, qbkz, qblz, qbmz, qbnz, qboz,
 qbpz, qbqz, qbrz, qbsz, qbtz, qbuz, qbvz, qbwz, qbxz, qbyz, qbzz, qcaz, qcbz, qccz, qcdz, qcez, qcfz, qcgz, qchz, qciz, beq_true, beq_false, Bool.not_eq_true', decide_eq_true_eq, decide_eq_false_iff_not, decide_true, decide_false,
 Int.toNat_natCast, Int.ofNat_lt, Int.ofNat_le, Int.natCast_inj, Bool.false_eq_true, Bool.true_eq_false, qcjz, List.getElem?_cons_zero, List.getElem?_cons_succ, qckz, Int.reduceToNat, Int.reduceLE, true_and, and_true, reduceCtorEq, or_false, false_or, or_true, Option.some.injEq, exists_eq_left', Bool.not_true, Bool.not_false, ne_eq, Int.reduceEq, not_true_eq_false, not_false_eq_true, Int.reduceLT, UInt8.reduceLT, UInt8.reduceLE, UInt8.reduceToNat]
          exact hS
        · simp (maxSteps := 1000000) (disch := omega) only [g0, g5, g6, len_s, h1, idx_s, eq_true h2, qaaz, qabz, qacz, qadz, qaez, qafz, qagz, qahz, qaiz, qajz, qakz, qalz, qamz, qanz, evOp, qaoz, qapz, qaqz, qarz, qasz, qatz, qauz, qavz,
 ↓reduceIte, Nat.reduceEqDiff, List.nil_append, List.cons_append, List.append_nil, List.map_cons, List.map_nil, qawz, qaxz, qayz, Option.map_some, Option.map_none, qazz, qbaz, qbbz, qbcz, qbdz, qbez, qbfz, qbgz, qbhz, qbiz, qbjz, qbkz, qblz, qbmz, qbnz, qboz,
 qbpz, qbqz, qbrz, qbsz, qbtz, qbuz, qbvz, qbwz, qbxz, qbyz, qbzz, qcaz, qcbz, qccz, qcdz, qcez, qcfz, qcgz, qchz, qciz, beq_true, beq_false, Bool.not_eq_true', decide_eq_true_eq, decide_eq_false_iff_not, decide_true, decide_false,
 Int.toNat_natCast, Int.ofNat_lt, Int.ofNat_le, Int.natCast_inj, Bool.false_eq_true, Bool.true_eq_false, qcjz, List.getElem?_cons_zero, List.getElem?_cons_succ, qckz, Int.reduceToNat, Int.reduceLE, true_and, and_true, reduceCtorEq, or_false, false_or, or_true, Option.some.injEq, exists_eq_left', Bool.not_true, Bool.not_false, ne_eq, Int.reduceEq, not_true_eq_false, not_false_eq_true, Int.reduceLT, UInt8.reduceLT, UInt8.reduceLE, UInt8.reduceToNat]
          exact hS
    rintro x E S ⟨rfl, hS, g0, g5, g6⟩
    rw [hS]
    simp only [qbfz, if_true, qazz]
    have finX0 : ∀ (E : Env) (S : St) (y : PV) (n : Int) (rv : PV) (r2 : PV × St), resOf E S [.tmp 2, .tmp 3, .tmp 4] = some rv → leave st S rv = r2 → nmR st i (w :: r) r2 → Q0 .ret E S := fun E S y n rv r2 h1 h2 h3 => by
      rw [hQ0]; exact ⟨.inr rfl, rv, h1, by rw [h2]; exact h3⟩
    have fin := finX0
    have finX : ∀ (E : Env) (l : List Bs), E 2 = rowV (.own i) l → E 3 = .int .i64 (-1) → E 4 = .bool true → wdD l = (-1, l) → l = w :: r → Q0 .ret E S0 := fun E l h2 h3 h4 hD hlr => by
      obtain ⟨rv, a1, a2⟩ := retX (st := st) (s := S0) (n := -1) (m := -1) (p := true) (q := true) h2 h3 h4 hk0 (fun j hj => by cases hj; exact hil) rfl rfl
      subst hlr
      exact fin _ _ (rowV (.own i) (w :: r)) (-1) rv _ a1 a2 ⟨_, -1, by rw [hD]; rfl, .inl rfl, fun _ => ⟨by rw [hD], .inr ⟨i, .inl rfl, by rw [hD], hi⟩⟩⟩
    refine W_cutR (fun E S => S = S0 ∧ E 0 = rowV (.own i) (w :: r) ∧ E 5 = .str w ∧ E 6 = .int .i64 (p : Int)) ?_ ?_
    · simp (maxSteps := 1000000) (disch := omega) only [g0, g5, g6, qaaz, qabz, qacz, qadz, qaez, qafz, qagz, qahz, qaiz, qajz, qakz, qalz, qamz, qanz, evOp, qaoz, qapz, qaqz, qarz, qasz, qatz, qauz, qavz,
 ↓reduceIte, Nat.reduceEqDiff, List.nil_append, List.cons_append, List.append_nil, List.map_cons, List.map_nil, qawz, qaxz, qayz, Option.map_some, Option.map_none, qazz, qbaz, qbbz, qbcz, qbdz, qbez, qbfz, qbgz, qbhz, qbiz, qbjz, qbkz, qblz, qbmz, qbnz, qboz,
 qbpz, qbqz, qbrz, qbsz, qbtz, qbuz, qbvz, qbwz, qbxz, qbyz, qbzz, qcaz, qcbz, qccz, qcdz, qcez, qcfz, qcgz, qchz, qciz, beq_true, beq_false, Bool.not_eq_true', decide_eq_true_eq, decide_eq_false_iff_not, decide_true, decide_false,
 Int.toNat_natCast, Int.ofNat_lt, Int.ofNat_le, Int.natCast_inj, Bool.false_eq_true, Bool.true_eq_false, qcjz, List.getElem?_cons_zero, List.getElem?_cons_succ, qckz, Int.reduceToNat, Int.reduceLE, true_and, and_true, reduceCtorEq, or_false, false_or, or_true, Option.some.injEq, exists_eq_left', Bool.not_true, Bool.not_false, ne_eq, Int.reduceEq, not_true_eq_false, not_false_eq_true, Int.reduceLT, UInt8.reduceLT, UInt8.reduceLE, UInt8.reduceToNat]
      exact .inl trivial
    rintro E S ⟨hS, g0, g5, g6⟩
    rw [hS]
    refine W_cutR (fun E S => S = S0 ∧ E 5 = .str w ∧ E 6 = .int .i64 (p : Int) ∧ ∃ rest r2, E 7 = .str rest ∧ E 0 = rowV (.own i) r2 ∧ wdD (w :: r) = wdGo (w.take p) rest r2 ∧ r2.length ≤ 1000000 ∧ rest.length ≤ 1000000) ?_ ?_
    · rcases hp3 with ⟨h1, h2⟩ | ⟨h1, h2, h3⟩
      · match r, hl, hne, hn, g0 with
        | [], hl, hne, hn, g0 =>
          have hD : wdD [w] = (-1, [w]) := by unfold wdD; dsimp only; rw [if_neg h2]
          have e11 : (([w].length : Nat) : Int) = 1 := rfl
          simp (maxSteps := 1000000) (disch := omega) only [g0, g5, g6, len_s, eq_true h1, len_row, eq_true e11, qaaz, qabz, qacz, qadz, qaez, qafz, qagz, qahz, qaiz, qajz, qakz, qalz, qamz, qanz, evOp, qaoz, qapz, qaqz, qarz, qasz, qatz, qauz, qavz,
 ↓reduceIte, Nat.reduceEqDiff, List.nil_append, List.cons_append, List.append_nil, List.map_cons, List.map_nil, qawz, qaxz, qayz, Option.map_some, Option.map_none, qazz, qbaz, qbbz, qbcz, qbdz, qbez, qbfz, qbgz, qbhz, qbiz, qbjz, qbkz, qblz, qbmz, qbnz, qboz,
 qbpz, qbqz, qbrz, qbsz, qbtz, qbuz, qbvz, qbwz, qbxz, qbyz, qbzz, qcaz, qcbz, qccz, qcdz, qcez, qcfz, qcgz, qchz, qciz, beq_true, beq_false, Bool.not_eq_true', decide_eq_true_eq, decide_eq_false_iff_not, decide_true, decide_false,
 Int.toNat_natCast, Int.ofNat_lt, Int.ofNat_le, Int.natCast_inj, Bool.false_eq_true, Bool.true_eq_false, qcjz, List.getElem?_cons_zero, List.getElem?_cons_succ, qckz, Int.reduceToNat, Int.reduceLE, true_and, and_true, reduceCtorEq, or_false, false_or, or_true, Option.some.injEq, exists_eq_left', Bool.not_true, Bool.not_false, ne_eq, Int.reduceEq, not_true_eq_false, not_false_eq_true, Int.reduceLT, UInt8.reduceLT, UInt8.reduceLE, UInt8.reduceToNat]
          refine .inr ?_
          exact finX _ [w] rfl rfl rfl hD rfl
        | v :: r', hl, hne, hn, g0 =>
          have hvn := hne v (by simp)
          have hlv := hl v (by simp)
          simp only [List.length_cons] at hn
          have hvp := List.length_pos_iff.2 hvn
          have e2 : ¬ (((w :: v :: r').length : Nat) : Int) = 1 := by simp; omega
          have i1 : iaddrPV 1 (rowV (.own i) (w :: v :: r')) (.int .i64 1) = some (.cp [.str v]) := iaddr_t rowV_vs (by omega) (by simp)
          have ix : idxSPV (.str v) (.int .i64 0) = some (.b8 (v.getD 0 0)) := by rw [idx_s (by omega) (by simp; omega)]; rfl
          have hh : v.head? = some (v.getD 0 0) := by cases v with
            | nil => exact absurd rfl hvn
            | cons c v => rfl
          by_cases hv : v.getD 0 0 = 44
          · have hD : wdD (w :: v :: r') = wdGo w (v.drop 1) r' := by unfold wdD; dsimp only; rw [if_neg h2, if_pos (by rw [hh, hv])]
            have hs1 : slcPV 0 (.str v) (some (.int .i64 1)) none none = some (.str (v.drop 1)) := by rw [slc_s_lo (by omega) (by simp; omega)]; rfl
            have hs2 : slcPV 1 (rowV (.own i) (w :: v :: r')) (some (.int .i64 2)) none none = some (rowV (.own i) r') := by
              have q1 : (2 : Int) ≤ (r'.length : Int) + 1 + 1 := by omega
              have q2 : (r'.map PV.str).take r'.length = r'.map .str := List.take_of_length_le (by simp)
              simp [rowV, slcPV, bnd, intOf, sufTok, q1, q2]
            simp (maxSteps := 1000000) (disch := omega) only [g0, g5, g6, len_s, eq_true h1, len_row, e2, i1, ix, eq_true hv, hs1, hs2, qaaz, qabz, qacz, qadz, qaez, qafz, qagz, qahz, qaiz, qajz, qakz, qalz, qamz, qanz, evOp, qaoz, qapz, qaqz, qarz, qasz, qatz, qauz, qavz,
 ↓reduceIte, Nat.reduceEqDiff, List.nil_append, List.cons_append, List.append_nil, List.map_cons, List.map_nil, qawz, qaxz, qayz, Option.map_some, Option.map_none, qazz, qbaz, qbbz, qbcz, qbdz, qbez, qbfz, qbgz, qbhz, qbiz, qbjz, qbkz, qblz, qbmz, qbnz, qboz,
 qbpz, qbqz, qbrz, qbsz, qbtz, qbuz, qbvz, qbwz, qbxz, qbyz, qbzz, qcaz, qcbz, qccz, qcdz, qcez, qcfz, qcgz, qchz, qciz, beq_true, beq_false, Bool.not_eq_true', decide_eq_true_eq, decide_eq_false_iff_not, decide_true, decide_false,
 Int.toNat_natCast, Int.ofNat_lt, Int.ofNat_le, Int.natCast_inj, Bool.false_eq_true, Bool.true_eq_false, qcjz, List.getElem?_cons_zero, List.getElem?_cons_succ, qckz, Int.reduceToNat, Int.reduceLE, true_and, and_true, reduceCtorEq, or_false, false_or, or_true, Option.some.injEq, exists_eq_left', Bool.not_true, Bool.not_false, ne_eq, Int.reduceEq, not_true_eq_false, not_false_eq_true, Int.reduceLT, UInt8.reduceLT, UInt8.reduceLE, UInt8.reduceToNat]
            exact .inl ⟨_, _, rfl, rfl, by rw [hD, h1, List.take_length], by omega, by simp; omega⟩
          · have hD : wdD (w :: v :: r') = (-1, w :: v :: r') := by unfold wdD; dsimp only; rw [if_neg h2, if_neg (by rw [hh]; simpa using hv)]
            simp (maxSteps := 1000000) (disch := omega) only [g0, g5, g6, len_s, eq_true h1, len_row, e2, i1, ix, hv, qaaz, qabz, qacz, qadz, qaez, qafz, qagz, qahz, qaiz, qajz, qakz, qalz, qamz, qanz, evOp, qaoz, qapz, qaqz, qarz, qasz, qatz, qauz, qavz,
 ↓reduceIte, Nat.reduceEqDiff, List.nil_append, List.cons_append, List.append_nil, List.map_cons, List.map_nil, qawz, qaxz, qayz, Option.map_some, Option.map_none, qazz, qbaz, qbbz, qbcz, qbdz, qbez, qbfz, qbgz, qbhz, qbiz, qbjz, qbkz, qblz, qbmz, qbnz, qboz,
 qbpz, qbqz, qbrz, qbsz, qbtz, qbuz, qbvz, qbwz, qbxz, qbyz, qbzz, qcaz, qcbz, qccz, qcdz, qcez, qcfz, qcgz, qchz, qciz, beq_true, beq_false, Bool.not_eq_true', decide_eq_true_eq, decide_eq_false_iff_not, decide_true, decide_false,
 Int.toNat_natCast, Int.ofNat_lt, Int.ofNat_le, Int.natCast_inj, Bool.false_eq_true, Bool.true_eq_false, qcjz, List.getElem?_cons_zero, List.getElem?_cons_succ, qckz, Int.reduceToNat, Int.reduceLE, true_and, and_true, reduceCtorEq, or_false, false_or, or_true, Option.some.injEq, exists_eq_left', Bool.not_true, Bool.not_false, ne_eq, Int.reduceEq, not_true_eq_false, not_false_eq_true, Int.reduceLT, UInt8.reduceLT, UInt8.reduceLE, UInt8.reduceToNat]
            refine .inr ?_
            exact finX _ (w :: v :: r') rfl rfl rfl hD rfl
      · have hnp : ¬ p = w.length := by omega
        have hD : wdD (w :: r) = wdGo (w.take p) (w.drop (p + 1)) r := by unfold wdD; dsimp only; rw [if_pos (by omega), h3, Int.toNat_natCast]
        have hs1 : slcPV 0 (.str w) (some (.int .i64 ((p + 1 : Nat) : Int))) none none = some (.str (w.drop (p + 1))) := by rw [slc_s_lo (by omega) (by simp; omega), Int.toNat_natCast]
        simp (maxSteps := 1000000) (disch := omega) only [g0, g5, g6, len_s, hnp, add_n, hs1, slc_row, qaaz, qabz, qacz, qadz, qaez, qafz, qagz, qahz, qaiz, qajz, qakz, qalz, qamz, qanz, evOp, qaoz, qapz, qaqz, qarz, qasz, qatz, qauz, qavz,
 ↓reduceIte, Nat.reduceEqDiff, List.nil_append, List.cons_append, List.append_nil, List.map_cons, List.map_nil, qawz, qaxz, qayz, Option.map_some, Option.map_none, qazz, qbaz, qbbz, qbcz, qbdz, qbez, qbfz, qbgz, qbhz, qbiz, qbjz, qbkz, qblz, qbmz, qbnz, qboz,
 qbpz, qbqz, qbrz, qbsz, qbtz, qbuz, qbvz, qbwz, qbxz, qbyz, qbzz, qcaz, qcbz, qccz, qcdz, qcez, qcfz, qcgz, qchz, qciz, beq_true, beq_false, Bool.not_eq_true', decide_eq_true_eq, decide_eq_false_iff_not, decide_true, decide_false,
 Int.toNat_natCast, Int.ofNat_lt, Int.ofNat_le, Int.natCast_inj, Bool.false_eq_true, Bool.true_eq_false, qcjz, List.getElem?_cons_zero, List.getElem?_cons_succ, qckz, Int.reduceToNat, Int.reduceLE, true_and, and_true, reduceCtorEq, or_false, false_or, or_true, Option.some.injEq, exists_eq_left', Bool.not_true, Bool.not_false, ne_eq, Int.reduceEq, not_true_eq_false, not_false_eq_true, Int.reduceLT, UInt8.reduceLT, UInt8.reduceLE, UInt8.reduceToNat]
        exact .inl ⟨_, _, rfl, rfl, hD, by omega, by simp; omega⟩
    rintro E S ⟨hS, g5, g6, rest, r2, g7, g0, hD, hr2, hrs⟩
    rw [hS]
    have hsl : slcPV 0 (.str w) none (some (.int .i64 (p : Int))) none = some (.str (w.take p)) := by
      simp [slcPV, bnd, intOf, hp1]
    have hday := fun S : St => dayOf_spec (st := S) (l := w.take p) (by simp; omega)
    have hnd := nmD_day (w.take p)
    unfold wdGo at hD
    generalize nmD (w.take p) 7 dayT = n at hday hnd hD
    have hok : decide ((wdD (w :: r)).1 ≠ -2) = decide (0 ≤ n) := by
      rw [hD]
      rcases hnd with rfl | hnd
      · rfl
      · have h2 : n ≠ -2 := by omega
        rw [if_neg (by omega)]; simp [h2, hnd]
    have hwd : (wdD (w :: r)).1 ≠ -2 → n = (wdD (w :: r)).1 ∧ (wdD (w :: r)).2 = if rest = [] then r2 else rest :: r2 := fun h => by
      rw [hD] at h ⊢
      by_cases hn0 : n < 0
      · rw [if_pos hn0] at h; exact absurd rfl h
      · rw [if_neg hn0]; exact ⟨rfl, rfl⟩
    have hroom : room = 68719476736 := rfl
    have htl : S0.toks.length = st.toks.length := by rw [ht0]
    have hkT : ∀ T : List Bool, Kept st ⟨S0.boxes, S0.toks ++ T, S0.loops, S0.low⟩ := fun T => hk0.toks
    have finN : ∀ (E : Env) (S : St), E 2 = .nils → E 3 = .int .i64 n → E 4 = .bool (decide (0 ≤ n)) → Kept st S → ((wdD (w :: r)).1 ≠ -2 → n = (wdD (w :: r)).1 ∧ (PV.nils = .nils ∧ (wdD (w :: r)).2 = [] ∨ ∃ j, (j = i ∨ j = st.toks.length) ∧ PV.nils = rowV (.own j) (wdD (w :: r)).2 ∧ st.toks[j]? = some true)) → Q0 .ret E S := fun E S h2 h3 h4 hk hf => by
      obtain ⟨rv, a1, a2⟩ := retXn (st := st) h2 h3 h4 hk rfl rfl
      exact fin _ _ .nils n rv _ a1 a2 ⟨_, n, by rw [hok], .inl rfl, hf⟩
    have finO : ∀ (E : Env) (S : St) (j : Nat) (l : List Bs), E 2 = rowV (.own j) l → E 3 = .int .i64 n → E 4 = .bool (decide (0 ≤ n)) → Kept st S → st.toks.length ≤ j → S.toks[j]? = some true → ((wdD (w :: r)).1 ≠ -2 → n = (wdD (w :: r)).1 ∧ (wdD (w :: r)).2 = l) → Q0 .ret E S := fun E S j l h2 h3 h4 hk hj1 hj2 hf => by
      obtain ⟨rv, a1, a2⟩ := retXo (st := st) h2 h3 h4 hk hj1 hj2 rfl rfl
      exact fin _ _ (rowV (.own st.toks.length) l) n rv _ a1 a2 ⟨_, n, by rw [hok], .inr rfl, fun h => ⟨(hf h).1, .inr ⟨st.toks.length, .inr rfl, by rw [(hf h).2], by simp [St.tok1]⟩⟩⟩
    by_cases hrn : rest = []
    · rw [if_pos hrn] at hwd
      cases r2 with
      | nil =>
        have ha : ∀ S : St, appV 1 S .nils (rowV (.own i) []) = some (.nils, S) := fun S => by simp [appV, srcV, rowV]
        simp (maxSteps := 1000000) (disch := omega) only [g0, g5, g6, g7, eq_true hrn, hsl, hday, ha, qaaz, qabz, qacz, qadz, qaez, qafz, qagz, qahz, qaiz, qajz, qakz, qalz, qamz, qanz, evOp, qaoz, qapz, qaqz, qarz, qasz, qatz, qauz, qavz,
 ↓reduceIte, Nat.reduceEqDiff, List.nil_append, List.cons_append, List.append_nil, List.map_cons, List.map_nil, qawz, qaxz, qayz, Option.map_some, Option.map_none, qazz, qbaz, qbbz, qbcz, qbdz, qbez, qbfz, qbgz, qbhz, qbiz, qbjz, qbkz, qblz, qbmz, qbnz, qboz,
 qbpz, qbqz, qbrz, qbsz, qbtz, qbuz, qbvz, qbwz, qbxz, qbyz, qbzz, qcaz, qcbz, qccz, qcdz, qcez, qcfz, qcgz, qchz, qciz, beq_true, beq_false, Bool.not_eq_true', decide_eq_true_eq, decide_eq_false_iff_not, decide_true, decide_false,
 Int.toNat_natCast, Int.ofNat_lt, Int.ofNat_le, Int.natCast_inj, Bool.false_eq_true, Bool.true_eq_false, qcjz, List.getElem?_cons_zero, List.getElem?_cons_succ, qckz, Int.reduceToNat, Int.reduceLE, true_and, and_true, reduceCtorEq, or_false, false_or, or_true, Option.some.injEq, exists_eq_left', Bool.not_true, Bool.not_false, ne_eq, Int.reduceEq, not_true_eq_false, not_false_eq_true, Int.reduceLT, UInt8.reduceLT, UInt8.reduceLE, UInt8.reduceToNat]
        exact finN _ _ rfl rfl rfl hk0 fun h => ⟨(hwd h).1, .inl ⟨rfl, (hwd h).2⟩⟩
      | cons u r3 =>
        have ha : appV 1 S0 .nils (rowV (.own i) (u :: r3)) = some (rowV (.own st.toks.length) (u :: r3), ⟨S0.boxes, S0.toks ++ [true], S0.loops, S0.low⟩) := by
          simp only [List.length_cons] at hr2
          have : r3.length + 1 ≤ room := by omega
          simp [appV, srcV, rowV, freshT, this, htl]
        simp (maxSteps := 1000000) (disch := omega) only [g0, g5, g6, g7, eq_true hrn, hsl, hday, ha, qaaz, qabz, qacz, qadz, qaez, qafz, qagz, qahz, qaiz, qajz, qakz, qalz, qamz, qanz, evOp, qaoz, qapz, qaqz, qarz, qasz, qatz, qauz, qavz,
 ↓reduceIte, Nat.reduceEqDiff, List.nil_append, List.cons_append, List.append_nil, List.map_cons, List.map_nil, qawz, qaxz, qayz, Option.map_some, Option.map_none, qazz, qbaz, qbbz, qbcz, qbdz, qbez, qbfz, qbgz, qbhz, qbiz, qbjz, qbkz, qblz, qbmz, qbnz, qboz,
 qbpz, qbqz, qbrz, qbsz, qbtz, qbuz, qbvz, qbwz, qbxz, qbyz, qbzz, qcaz, qcbz, qccz, qcdz, qcez, qcfz, qcgz, qchz, qciz, beq_true, beq_false, Bool.not_eq_true', decide_eq_true_eq, decide_eq_false_iff_not, decide_true, decide_false,
 Int.toNat_natCast, Int.ofNat_lt, Int.ofNat_le, Int.natCast_inj, Bool.false_eq_true, Bool.true_eq_false, qcjz, List.getElem?_cons_zero, List.getElem?_cons_succ, qckz, Int.reduceToNat, Int.reduceLE, true_and, and_true, reduceCtorEq, or_false, false_or, or_true, Option.some.injEq, exists_eq_left', Bool.not_true, Bool.not_false, ne_eq, Int.reduceEq, not_true_eq_false, not_false_eq_true, Int.reduceLT, UInt8.reduceLT, UInt8.reduceLE, UInt8.reduceToNat]
        exact finO _ _ _ _ rfl rfl rfl (hkT _) (Nat.le_refl _) (by rw [ht0]; simp) fun h => ⟨(hwd h).1, (hwd h).2⟩
    · rw [if_neg hrn] at hwd
      obtain ⟨S1, hS1⟩ : ∃ S1 : St, S1 = ⟨S0.boxes, S0.toks ++ [true], S0.loops, S0.low⟩ := ⟨_, rfl⟩
      have ha1 : appV 1 ⟨S0.boxes, S0.toks ++ [true], S0.loops, S0.low⟩ .nils (.sl 1 (.own S0.toks.length) [.str rest]) = some (.sl 1 (.own S1.toks.length) [.str rest], S1.tok1) := by
        rw [hS1]; simp [appV, srcV, freshT, St.tok1, room]
      obtain ⟨j, T, q1, q2, q3⟩ := app_row (s := S1) (w := rest) (t := .own i) (l := r2) (by omega)
      have hT2 : (⟨S1.boxes, S1.toks ++ T, S1.loops, S1.low⟩ : St) = ⟨S0.boxes, S0.toks ++ (true :: T), S0.loops, S0.low⟩ := by rw [hS1]; simp
      rw [hT2] at q1
      have q3' : (S0.toks ++ (true :: T))[j]? = some true := by rw [hS1] at q3; simpa using q3
      have q2' : st.toks.length ≤ j := by rw [hS1] at q2; simp at q2; omega
      simp (maxSteps := 1000000) (disch := omega) only [g0, g5, g6, g7, hrn, lit_s, freshT, ha1, hsl, hday, q1, qaaz, qabz, qacz, qadz, qaez, qafz, qagz, qahz, qaiz, qajz, qakz, qalz, qamz, qanz, evOp, qaoz, qapz, qaqz, qarz, qasz, qatz, qauz, qavz,
 ↓reduceIte, Nat.reduceEqDiff, List.nil_append, List.cons_append, List.append_nil, List.map_cons, List.map_nil, qawz, qaxz, qayz, Option.map_some, Option.map_none, qazz, qbaz, qbbz, qbcz, qbdz, qbez, qbfz, qbgz, qbhz, qbiz, qbjz, qbkz, qblz, qbmz, qbnz, qboz,
 qbpz, qbqz, qbrz, qbsz, qbtz, qbuz, qbvz, qbwz, qbxz, qbyz, qbzz, qcaz, qcbz, qccz, qcdz, qcez, qcfz, qcgz, qchz, qciz, beq_true, beq_false, Bool.not_eq_true', decide_eq_true_eq, decide_eq_false_iff_not, decide_true, decide_false,
 Int.toNat_natCast, Int.ofNat_lt, Int.ofNat_le, Int.natCast_inj, Bool.false_eq_true, Bool.true_eq_false, qcjz, List.getElem?_cons_zero, List.getElem?_cons_succ, qckz, Int.reduceToNat, Int.reduceLE, true_and, and_true, reduceCtorEq, or_false, false_or, or_true, Option.some.injEq, exists_eq_left', Bool.not_true, Bool.not_false, ne_eq, Int.reduceEq, not_true_eq_false, not_false_eq_true, Int.reduceLT, UInt8.reduceLT, UInt8.reduceLE, UInt8.reduceToNat]
      exact finO _ _ _ _ rfl rfl rfl (hkT _) q2' q3' fun h => ⟨(hwd h).1, (hwd h).2⟩
end Go.Ab

/-
  The document's dates and the program's: the same words; a remark that is not ended.
-/
namespace Go.Ab
set_option linter.unusedVariables false
set_option linter.unusedSimpArgs false
set_option maxRecDepth 20000

/-- A tab as a blank. -/
def tb (c : UInt8) : UInt8 := if c = 9 then 32 else c
theorem wordsG_tb : ∀ (s acc : Bs), wordsG (s.map tb) acc = wordsG s acc
  | [], acc => rfl
  | c :: s, acc => by
    rw [List.map_cons, wordsG, wordsG]
    have h1 := wordsG_tb s []
    have h2 := wordsG_tb s (acc ++ [c])
    by_cases h9 : c = 9
    · subst h9
      have : tb 9 = 32 := rfl
      rw [this, if_pos (.inl rfl), if_pos (show (9 : UInt8) = 32 ∨ (9 : UInt8) = 9 from .inr rfl), h1]
    · have : tb c = c := by unfold tb; rw [if_neg h9]
      rw [this, h1, h2]
theorem wordsG_split : ∀ (s acc : Bs), (∀ c ∈ s, c ≠ 9) → wordsG s acc = (splitOn 32 acc s).filter fun w => !decide (w = [])
  | [], acc, _ => by
    rw [wordsG, splitOn]
    by_cases h : acc = []
    · simp [h]
    · simp [h]
  | c :: s, acc, hc => by
    have h9 := hc c (by simp)
    have hs : ∀ d ∈ s, d ≠ 9 := fun d hd => hc d (by simp [hd])
    rw [wordsG, splitOn]
    by_cases h : c = 32
    · rw [if_pos (.inl h), if_pos h, wordsG_split s [] hs]
      by_cases ha : acc = []
      · rw [if_pos ha, List.filter_cons_of_neg (by simp [ha])]
      · rw [if_neg ha, List.filter_cons_of_pos (by simp [ha])]
    · rw [if_neg (by simp [h, h9]), if_neg h, wordsG_split s (acc ++ [c]) hs]
theorem clnG_no9 : ∀ (s : Bs) (b : Bool), ∀ c ∈ clnG b s, c ≠ 9
  | [], b, c, h => by cases b <;> simp [clnG] at h
  | d :: s, true, c, h => by rw [clnG] at h; exact clnG_no9 s _ c h
  | d :: s, false, c, h => by
    rw [clnG] at h
    by_cases h1 : d = 40
    · rw [if_pos h1] at h
      rcases List.mem_cons.1 h with rfl | h
      · decide
      · exact clnG_no9 s _ c h
    · rw [if_neg h1] at h
      by_cases h2 : d = 9
      · rw [if_pos h2] at h
        rcases List.mem_cons.1 h with rfl | h
        · decide
        · exact clnG_no9 s _ c h
      · rw [if_neg h2] at h
        rcases List.mem_cons.1 h with rfl | h
        · exact h2
        · exact clnG_no9 s _ c h
theorem words_same (s : Bs) : wordsR (clnG false s) = wordsG (clnG false s) [] := (wordsG_split _ [] (clnG_no9 s false)).symm

theorem cln_out : ∀ (n t : Bs), (∀ c ∈ n, c ≠ 40) → clnG false (n ++ t) = n.map tb ++ clnG false t ∧ inG false (n ++ t) = inG false t
  | [], t, _ => ⟨rfl, rfl⟩
  | c :: n, t, h => by
    have hc := h c (by simp)
    obtain ⟨i1, i2⟩ := cln_out n t fun d hd => h d (by simp [hd])
    rw [List.cons_append, clnG, inG, if_neg hc, decide_eq_false hc, i1, i2]
    refine ⟨?_, rfl⟩
    by_cases h9 : c = 9
    · rw [if_pos h9, h9]; rfl
    · rw [if_neg h9, List.map_cons, show tb c = c by unfold tb; rw [if_neg h9]]; rfl
theorem cln_in : ∀ (p t : Bs), (∀ c ∈ p, c ≠ 41) → clnG true (p ++ t) = clnG true t ∧ inG true (p ++ t) = inG true t
  | [], t, _ => ⟨rfl, rfl⟩
  | c :: p, t, h => by
    have hc := h c (by simp)
    obtain ⟨i1, i2⟩ := cln_in p t fun d hd => h d (by simp [hd])
    rw [List.cons_append, clnG, inG, decide_eq_true hc, i1, i2]
    exact ⟨rfl, rfl⟩

/-- Where each remark is ended the texts are the same, but for tabs; else the program's ends in a bracket. -/
theorem bare_clean : ∀ (k n : Nat) (s : Bs), s.length ≤ k → s.length + 1 ≤ n → (inG false s = false ∧ clnG false s = (bareD n s).map tb) ∨ (inG false s = true ∧ ∃ a, bareD n s = a ++ [40]) := by
  intro k
  induction k using Nat.strongRecOn with
  | _ k ih =>
    intro n s hk hn
    obtain ⟨n', rfl⟩ : ∃ n', n = n' + 1 := ⟨n - 1, by omega⟩
    rcases chr_split 40 s with ⟨q1, q2⟩ | ⟨a, t, rfl, ha⟩
    · left
      have hno : ∀ c ∈ s, c ≠ 40 := fun c hc h => q1 (h ▸ hc)
      obtain ⟨i1, i2⟩ := cln_out s [] hno
      rw [List.append_nil] at i1 i2
      rw [bare_no q2, i1, i2]
      exact ⟨rfl, by simp [clnG]⟩
    · obtain ⟨i1, i2⟩ := cln_out a (40 :: t) ha
      rw [i1, i2]
      have c1 : clnG false (40 :: t) = 32 :: clnG true t := by rw [clnG, if_pos rfl]
      have c2 : inG false (40 :: t) = inG true t := by rw [inG]; rfl
      rw [c1, c2]
      rcases chr_split 41 t with ⟨p1, p2⟩ | ⟨p, u, rfl, hp⟩
      · right
        have hno : ∀ c ∈ t, c ≠ 41 := fun c hc h => p1 (h ▸ hc)
        obtain ⟨j1, j2⟩ := cln_in t [] hno
        rw [List.append_nil] at j1 j2
        rw [bare_open ha p2, j2]
        exact ⟨rfl, a, rfl⟩
      · obtain ⟨j1, j2⟩ := cln_in p (41 :: u) hp
        have d1 : clnG true (41 :: u) = clnG false u := by rw [clnG]; rfl
        have d2 : inG true (41 :: u) = inG false u := by rw [inG]; rfl
        rw [j1, j2, d1, d2, bare_shut ha hp]
        simp only [List.length_append, List.length_cons] at hk hn
        rcases ih u.length (by omega) n' u (Nat.le_refl _) (by omega) with ⟨h1, h2⟩ | ⟨h1, b, h2⟩
        · exact .inl ⟨h1, by rw [h2]; simp; rfl⟩
        · exact .inr ⟨h1, a ++ 32 :: b, by rw [h2]; simp⟩

/-! ### A bracket at the end -/
theorem words_brk : ∀ (a acc : Bs), ∃ ws w, wordsG (a ++ [40]) acc = ws ++ [w ++ [40]]
  | [], acc => ⟨[], acc, by simp [wordsG]⟩
  | c :: a, acc => by
    rw [List.cons_append, wordsG]
    split
    · obtain ⟨ws, w, h⟩ := words_brk a []
      split
      · exact ⟨ws, w, h⟩
      · exact ⟨acc :: ws, w, by rw [h]; rfl⟩
    · exact words_brk a _
/-- The last word ends in a bracket, or there are not four. -/
def brk (L : List Bs) : Prop := L.length < 4 ∨ ∃ ws w, L = ws ++ [w ++ [40]]
theorem brk_tail {x : Bs} {r : List Bs} (hr : r ≠ []) (h : ∃ ws w, x :: r = ws ++ [w ++ [40]]) : ∃ ws w, r = ws ++ [w ++ [40]] := by
  obtain ⟨ws, w, h⟩ := h
  cases ws with
  | nil => simp at h; exact absurd h.2 hr
  | cons y ws => exact ⟨ws, w, (List.cons.inj h).2⟩
theorem brk_go {a b : Bs} {r : List Bs} (h : r.length ≤ 2 ∨ ∃ ws w, r = ws ++ [w ++ [40]]) : brk (wdGo a b r).2 := by
  unfold wdGo
  split
  · exact .inl (by simp)
  · split
    · rcases h with h | h
      · exact .inl (by simp only; omega)
      · exact .inr h
    · rcases h with h | ⟨ws, w, h⟩
      · exact .inl (by simp; omega)
      · exact .inr ⟨b :: ws, w, by rw [h]; rfl⟩
theorem brk_wd {L : List Bs} (h : ∃ ws w, L = ws ++ [w ++ [40]]) : brk (wdD L).2 := by
  match L, h with
  | [], _ => exact .inl (by simp [wdD])
  | x :: r, h =>
    unfold wdD
    dsimp only
    split
    · refine brk_go ?_
      by_cases hr : r = []
      · left; simp [hr]
      · exact .inr (brk_tail hr h)
    · cases r with
      | nil => exact .inl (by simp)
      | cons v r' =>
        dsimp only
        split
        · refine brk_go ?_
          by_cases hr : r' = []
          · left; simp [hr]
          · exact .inr (brk_tail hr (brk_tail (by simp) h))
        · exact .inr h
theorem dig_brk (w : Bs) (a b : Nat) : digD (w ++ [40]) a b = -1 := by
  unfold digD
  rw [if_neg]
  rintro ⟨h, _⟩
  rw [List.all_append] at h
  simp [isDg] at h
theorem split_brk : ∀ (w acc : Bs), ∃ ps q, splitOn 58 acc (w ++ [40]) = ps ++ [q ++ [40]]
  | [], acc => ⟨[], acc, by simp [splitOn]⟩
  | c :: w, acc => by
    rw [List.cons_append, splitOn]
    split
    · obtain ⟨ps, q, h⟩ := split_brk w []
      exact ⟨acc :: ps, q, by rw [h]; rfl⟩
    · exact split_brk w _
theorem clk_brk (w : Bs) : clkD (w ++ [40]) = -1 := by
  obtain ⟨ps, q, h⟩ := split_brk w []
  unfold clkD
  rw [h]
  by_cases hb : (ps ++ [q ++ [40]]).length < 2 ∨ 3 < (ps ++ [q ++ [40]]).length
  · rw [if_pos hb]
  · rw [if_neg hb]
    simp only [List.length_append, List.length_cons, List.length_nil] at hb
    match ps, hb with
    | [], hb => simp at hb
    | [x], _ =>
      simp only [List.cons_append, List.nil_append, List.getD_cons_zero, List.getD_cons_succ, dig_brk]
      unfold hmsD; rw [if_pos (by omega)]
    | [x, y], _ =>
      simp only [List.cons_append, List.nil_append, List.getD_cons_zero, List.getD_cons_succ, List.length_cons, List.length_nil, Nat.reduceAdd, if_true, dig_brk]
      unfold hmsD; rw [if_pos (by omega)]
    | x :: y :: z :: r, hb => simp at hb
theorem zone_brk (w : Bs) : (zoneD (w ++ [40])).2 = false := by
  have hn : zoneTab.find? (fun q => decide (lowOf (w ++ [40]) = q.1)) = none := by
    rw [List.find?_eq_none]
    intro q hq
    have hh : ∀ q ∈ zoneTab, q.1.getLast? ≠ some 40 := by decide
    have := hh q hq
    simp only [decide_eq_true_eq]
    intro he
    rw [← he] at this
    apply this
    simp [lowOf, lowC]
  unfold zoneD
  rw [hn]
  simp only
  unfold zoneN
  cases w with
  | nil => rw [if_pos (.inr (by decide))]
  | cons c w =>
    rw [if_pos (.inr (by
      have : ((c :: w) ++ [40]).drop 1 = w ++ [40] := rfl
      rw [this, dig_brk]; decide))]
theorem lst_brk {wd : Int} {L : List Bs} (h : brk L) : lstD wd L = (0, 0, 110) := by
  unfold lstD
  by_cases hb : wd = -2 ∨ L.length < 4 ∨ 5 < L.length
  · rw [if_pos hb]
  · rw [if_neg hb]
    rcases h with h | ⟨ws, w, rfl⟩
    · omega
    · simp only [List.length_append, List.length_cons, List.length_nil] at hb
      have hws : ws.length = 3 ∨ ws.length = 4 := by omega
      unfold finD
      rcases hws with h3 | h4
      · have : (ws ++ [w ++ [40]]).getD 3 [] = w ++ [40] := by simp [List.getD, List.getElem?_append_right (show ws.length ≤ 3 by omega), h3]
        rw [this, clk_brk, if_pos (.inr (.inl (by omega)))]
      · have : (ws ++ [w ++ [40]]).getD 4 [] = w ++ [40] := by simp [List.getD, List.getElem?_append_right (show ws.length ≤ 4 by omega), h4]
        rw [this, zone_brk, if_pos (.inr (.inr (.inl rfl)))]

/-- **A remark that is not ended: no date.** -/
theorem parse_open {s : Bs} (h : inG false s = true) : parseD s = (0, 0, 110) := by
  rcases bare_clean s.length (s.length + 1) s (Nat.le_refl _) (Nat.le_refl _) with ⟨h1, _⟩ | ⟨_, a, h2⟩
  · rw [h] at h1; cases h1
  · unfold parseD bareT
    rw [h2]
    exact lst_brk (brk_wd (words_brk a []))
theorem parse_shut {s : Bs} (h : inG false s = false) : wordsR (clnG false s) = wordsG (bareT s) [] := by
  rcases bare_clean s.length (s.length + 1) s (Nat.le_refl _) (Nat.le_refl _) with ⟨_, h2⟩ | ⟨h1, _⟩
  · rw [words_same, h2, wordsG_tb]; rfl
  · rw [h] at h1; cases h1
end Go.Ab

/-
  The document's dates: the whole, walked; the law DateParses.
-/
namespace Go.Ab
set_option linter.unusedVariables false
set_option linter.unusedSimpArgs false
set_option maxRecDepth 20000
variable {st s : St} {e : Env}

theorem named_nil : call prog (.fn 295 []) [.nils] st = some (.tup [.nils, .int .i64 (-1), .bool false], st) := by
  refine call_of_W prog_295 ?_
  unfold F_posthornref20_named; dsimp only
  have ln : lenPV false .nils = some (.int .i64 0) := rfl
  simp (maxSteps := 1000000) (disch := omega) only [ln, qaaz, qabz, qacz, qadz, qaez, qafz, qagz, qahz, qaiz, qajz, qakz, qalz, qamz, qanz, evOp, qaoz, qapz, qaqz, qarz, qasz, qatz, qauz, qavz,
 ↓reduceIte, Nat.reduceEqDiff, List.nil_append, List.cons_append, List.append_nil, List.map_cons, List.map_nil, qawz, qaxz, qayz, Option.map_some, Option.map_none, qazz, qbaz, qbbz, qbcz, qbdz, qbez, qbfz, qbgz, qbhz, qbiz, qbjz, qbkz, qblz, qbmz, qbnz, qboz,
 qbpz, qbqz, qbrz, qbsz, qbtz, qbuz, qbvz, qbwz, qbxz, qbyz, qbzz, qcaz, qcbz, qccz, qcdz, qcez, qcfz, qcgz, qchz, qciz, beq_true, beq_false, Bool.not_eq_true', decide_eq_true_eq, decide_eq_false_iff_not, decide_true, decide_false,
 Int.toNat_natCast, Int.ofNat_lt, Int.ofNat_le, Int.natCast_inj, Bool.false_eq_true, Bool.true_eq_false, qcjz, List.getElem?_cons_zero, List.getElem?_cons_succ, qckz, Int.reduceToNat, Int.reduceLE, true_and, and_true, reduceCtorEq, or_false, false_or, or_true, Option.some.injEq, exists_eq_left', Bool.not_true, Bool.not_false, ne_eq, Int.reduceEq, not_true_eq_false, not_false_eq_true, Int.reduceLT, UInt8.reduceLT, UInt8.reduceLE, UInt8.reduceToNat]
  exact retXn rfl rfl rfl Kept.start rfl rfl
theorem nmD_ge (w : Bs) (n : Nat) (tab : Nat → Bs) : -1 ≤ nmD w n tab := by
  unfold nmD; split <;> omega
theorem yrD_ge (w : Bs) : -1 ≤ yrD w := by
  have h1 := digD_bound (s := w) (a := 4) (b := 4) (by omega)
  have h2 := digD_bound (s := w) (a := 2) (b := 2) (by omega)
  unfold yrD
  split
  · omega
  · split
    · omega
    · split <;> omega
theorem dayN {w : Bs} (h : w ≠ []) : (if 2 < w.length then -1 else valR w) = digD w 1 2 := by
  have hp := List.length_pos_iff.2 h
  unfold digD valR
  by_cases h2 : 2 < w.length
  · rw [if_pos h2, if_neg (by omega)]
  · rw [if_neg h2, if_neg (by rintro (q | q); exact h q; omega)]
    by_cases hd : w.all isDg = true
    · rw [if_pos hd, if_pos ⟨hd, by omega, by omega⟩]
    · rw [if_neg hd, if_neg (fun q => hd q.1)]
theorem wordsG_ne : ∀ (s acc : Bs), ∀ w ∈ wordsG s acc, w ≠ []
  | [], acc, w, h => by
    rw [wordsG] at h
    split at h
    · simp at h
    · rename_i ha
      simp at h; rw [h]; exact ha
  | c :: s, acc, w, h => by
    rw [wordsG] at h
    split at h
    · split at h
      · exact wordsG_ne s _ w h
      · rename_i ha
        rcases List.mem_cons.1 h with rfl | h
        · exact ha
        · exact wordsG_ne s _ w h
    · exact wordsG_ne s _ w h
theorem zone_gmt : zoneD [71, 77, 84] = zoneD [] := by kernel_rfl

set_option maxHeartbeats 16000000 in
theorem rParse_spec {l : Bs} (hl : l.length ≤ 100000) : call prog (.fn 263 []) [.str l] st = some (.tup [.int .i64 (parseD l).1, .int .i64 (parseD l).2.1, .int .i64 (parseD l).2.2], st) := by
  refine call_of_W prog_263 ?_
  unfold F_posthornref20_Parse; dsimp only
  obtain ⟨t, ht⟩ : ∃ t, t = clnG false l := ⟨_, rfl⟩
  obtain ⟨b, hb⟩ : ∃ b, b = inG false l := ⟨_, rfl⟩
  have hcl := fun S : St => clean_spec (st := S) (l := l) (by omega)
  rw [← ht, ← hb] at hcl
  have htl : t.length ≤ 100000 := by
    have : ∀ (s : Bs) (b : Bool), (clnG b s).length ≤ s.length := by
      intro s
      induction s with
      | nil => intro b; cases b <;> simp [clnG]
      | cons c s ih =>
        intro b
        cases b with
        | true => rw [clnG]; have := ih (decide (c ≠ 41)); simp only [List.length_cons]; omega
        | false =>
          rw [clnG]
          have h1 := ih true; have h2 := ih false
          split
          · simp only [List.length_cons]; omega
          · split <;> (simp only [List.length_cons]; omega)
    rw [ht]; have := this l false; omega
  obtain ⟨W, hW⟩ : ∃ W, W = wordsR t := ⟨_, rfl⟩
  have hWw : W = wordsG t [] := by rw [hW, ht]; exact words_same l
  have hWl := words_len t []
  rw [← hWw] at hWl
  simp only [List.length_nil, Nat.zero_add] at hWl
  have hWn : ∀ w ∈ W, w ≠ [] := by rw [hWw]; exact wordsG_ne t []
  obtain ⟨wd, hwd⟩ : ∃ wd, wd = (wdD W).1 := ⟨_, rfl⟩
  obtain ⟨L, hL⟩ : ∃ L, L = (wdD W).2 := ⟨_, rfl⟩
  have hLl := wd_len (l := W) (n := 100000) (fun w hw => by have := hWl.1 w hw; omega)
  rw [← hL] at hLl
  have hLn : ∀ w ∈ L, w.length ≤ 100000 := hLl.1
  have hpD : b = false → parseD l = lstD wd L := fun h => by
    unfold parseD
    rw [← parse_shut (by rw [← hb]; exact h), ← ht, ← hW, ← hwd, ← hL]
  have hpO : b = true → parseD l = (0, 0, 110) := fun h => parse_open (by rw [← hb]; exact h)
  obtain ⟨S0, hS0⟩ : ∃ S0 : St, S0 = ⟨st.boxes, st.toks, st.loops, st.boxes.length⟩ := ⟨_, rfl⟩
  have hk0 : Kept st S0 := by rw [hS0]; exact Kept.start
  have hws := rWords_spec (st := S0) (l := t) (by omega)
  rw [← hW] at hws
  -- the words behind a day's name
  obtain ⟨V, S1, hV, y, n, S2, hn, hk2, hyn⟩ : ∃ V S1, call prog (.fn 294 []) [.str t] S0 = some (V, S1) ∧ ∃ y n S2, call prog (.fn 295 []) [V] S1 = some (.tup [y, .int .i64 n, .bool (decide (wd ≠ -2))], S2) ∧ Kept st S2 ∧
      (wd ≠ -2 → n = wd ∧ (y = .nils ∧ L = [] ∨ ∃ j, st.toks.length ≤ j ∧ y = rowV (.own j) L ∧ S2.toks[j]? = some true)) := by
    by_cases hWe : W = []
    · refine ⟨_, _, hws, .nils, -1, S0, ?_, hk0, fun h => ?_⟩
      · have h1 : newSl S0 1 (W.map .str) = .nils := by unfold newSl; rw [if_pos (by simp [hWe])]
        have h2 : newS S0 (W.map PV.str).isEmpty = S0 := by unfold newS; rw [hWe]; rfl
        have h3 : wd = -2 := by rw [hwd, hWe]; rfl
        rw [h1, h2, named_nil, h3]; rfl
      · exact absurd (by rw [hwd, hWe]; rfl) h
    · have h1 : newSl S0 1 (W.map .str) = rowV (.own S0.toks.length) W := by unfold newSl; rw [if_neg (by simpa using hWe)]; rfl
      have h2 : newS S0 (W.map PV.str).isEmpty = S0.tok1 := by
        unfold newS
        have : (W.map PV.str).isEmpty = false := by cases W with | nil => exact absurd rfl hWe | cons a b => rfl
        rw [this]; rfl
      rw [h1, h2] at hws
      obtain ⟨r, c1, y, n, c2, c3, c4⟩ := named_spec (st := S0.tok1) (i := S0.toks.length) (L := W) (by simp [St.tok1]) hWn (fun w hw => by have := hWl.1 w hw; omega) (by omega)
      obtain ⟨r1, r2⟩ := r
      simp only at c2 c3 c4
      rw [← hwd] at c2 c4
      rw [← hL] at c4
      have hkt : Kept st S0.tok1 := hk0.tok1
      refine ⟨_, _, hws, y, n, r2, by rw [c1, c2], ?_, fun h => ⟨(c4 h).1, ?_⟩⟩
      · rcases c3 with rfl | rfl
        · exact hkt
        · exact hkt.tok1
      · have h0 : S0.toks.length = st.toks.length := by rw [hS0]
        rcases (c4 h).2 with q | ⟨j, q1, q2, q3⟩
        · exact .inl q
        · have h9 : S0.tok1.toks.length = S0.toks.length + 1 := by simp [St.tok1]
          exact .inr ⟨j, by rcases q1 with q1 | q1 <;> omega, q2, q3⟩
  obtain ⟨Q0, hQ0⟩ : ∃ Q0 : Ex → Env → St → Prop, Q0 = endQ st [.tmp 2, .tmp 3, .tmp 4] (.tup [.int .i64 (parseD l).1, .int .i64 (parseD l).2.1, .int .i64 (parseD l).2.2], st) := ⟨_, rfl⟩
  rw [← hQ0, ← hS0]
  have bad : ∀ (E : Env) (S : St), Kept st S → E 2 = .int .i64 0 → E 3 = .int .i64 0 → E 4 = .int .i64 110 → parseD l = (0, 0, 110) → Q0 .ret E S := fun E S hk k2 k3 k4 h => by
    rw [hQ0, qblz, h]; exact retIII k2 k3 k4 hk rfl rfl rfl
  refine W_cut (fun E S => S = S0 ∧ E 0 = .str l) ?_ ?_
  · simp (maxSteps := 1000000) (disch := omega) only [qaaz, qabz, qacz, qadz, qaez, qafz, qagz, qahz, qaiz, qajz, qakz, qalz, qamz, qanz, evOp, qaoz, qapz, qaqz, qarz, qasz, qatz, qauz, qavz,
 ↓reduceIte, Nat.reduceEqDiff, List.nil_append, List.cons_append, List.append_nil, List.map_cons, List.map_nil, qawz, qaxz, qayz, Option.map_some, Option.map_none, qazz, qbaz, qbbz, qbcz, qbdz, qbez, qbfz, qbgz, qbhz, qbiz, qbjz, qbkz, qblz, qbmz, qbnz, qboz,
 qbpz, qbqz, qbrz, qbsz, qbtz, qbuz, qbvz, qbwz, qbxz, qbyz, qbzz, qcaz, qcbz, qccz, qcdz, qcez, qcfz, qcgz, qchz, qciz, beq_true, beq_false, Bool.not_eq_true', decide_eq_true_eq, decide_eq_false_iff_not, decide_true, decide_false,
 Int.toNat_natCast, Int.ofNat_lt, Int.ofNat_le, Int.natCast_inj, Bool.false_eq_true, Bool.true_eq_false, qcjz, List.getElem?_cons_zero, List.getElem?_cons_succ, qckz, Int.reduceToNat, Int.reduceLE, true_and, and_true, reduceCtorEq, or_false, false_or, or_true, Option.some.injEq, exists_eq_left', Bool.not_true, Bool.not_false, ne_eq, Int.reduceEq, not_true_eq_false, not_false_eq_true, Int.reduceLT, UInt8.reduceLT, UInt8.reduceLE, UInt8.reduceToNat]
  rintro E S ⟨hS, g0⟩
  rw [hS]
  refine W_cut (fun E S => S = S0 ∧ E 5 = .str t ∧ E 6 = .bool (!b)) ?_ ?_
  · simp (maxSteps := 1000000) (disch := omega) only [g0, hcl, qaaz, qabz, qacz, qadz, qaez, qafz, qagz, qahz, qaiz, qajz, qakz, qalz, qamz, qanz, evOp, qaoz, qapz, qaqz, qarz, qasz, qatz, qauz, qavz,
 ↓reduceIte, Nat.reduceEqDiff, List.nil_append, List.cons_append, List.append_nil, List.map_cons, List.map_nil, qawz, qaxz, qayz, Option.map_some, Option.map_none, qazz, qbaz, qbbz, qbcz, qbdz, qbez, qbfz, qbgz, qbhz, qbiz, qbjz, qbkz, qblz, qbmz, qbnz, qboz,
 qbpz, qbqz, qbrz, qbsz, qbtz, qbuz, qbvz, qbwz, qbxz, qbyz, qbzz, qcaz, qcbz, qccz, qcdz, qcez, qcfz, qcgz, qchz, qciz, beq_true, beq_false, Bool.not_eq_true', decide_eq_true_eq, decide_eq_false_iff_not, decide_true, decide_false,
 Int.toNat_natCast, Int.ofNat_lt, Int.ofNat_le, Int.natCast_inj, Bool.false_eq_true, Bool.true_eq_false, qcjz, List.getElem?_cons_zero, List.getElem?_cons_succ, qckz, Int.reduceToNat, Int.reduceLE, true_and, and_true, reduceCtorEq, or_false, false_or, or_true, Option.some.injEq, exists_eq_left', Bool.not_true, Bool.not_false, ne_eq, Int.reduceEq, not_true_eq_false, not_false_eq_true, Int.reduceLT, UInt8.reduceLT, UInt8.reduceLE, UInt8.reduceToNat]
  rintro E S ⟨hS, g5, g6⟩
  rw [hS]
  refine W_cut (fun E S => S = S2 ∧ E 6 = .bool (!b) ∧ E 7 = y ∧ E 8 = .int .i64 n ∧ E 9 = .bool (decide (wd ≠ -2))) ?_ ?_
  · simp (maxSteps := 1000000) (disch := omega) only [g5, hV, hn, qaaz, qabz, qacz, qadz, qaez, qafz, qagz, qahz, qaiz, qajz, qakz, qalz, qamz, qanz, evOp, qaoz, qapz, qaqz, qarz, qasz, qatz, qauz, qavz,
 ↓reduceIte, Nat.reduceEqDiff, List.nil_append, List.cons_append, List.append_nil, List.map_cons, List.map_nil, qawz, qaxz, qayz, Option.map_some, Option.map_none, qazz, qbaz, qbbz, qbcz, qbdz, qbez, qbfz, qbgz, qbhz, qbiz, qbjz, qbkz, qblz, qbmz, qbnz, qboz,
 qbpz, qbqz, qbrz, qbsz, qbtz, qbuz, qbvz, qbwz, qbxz, qbyz, qbzz, qcaz, qcbz, qccz, qcdz, qcez, qcfz, qcgz, qchz, qciz, beq_true, beq_false, Bool.not_eq_true', decide_eq_true_eq, decide_eq_false_iff_not, decide_true, decide_false,
 Int.toNat_natCast, Int.ofNat_lt, Int.ofNat_le, Int.natCast_inj, Bool.false_eq_true, Bool.true_eq_false, qcjz, List.getElem?_cons_zero, List.getElem?_cons_succ, qckz, Int.reduceToNat, Int.reduceLE, true_and, and_true, reduceCtorEq, or_false, false_or, or_true, Option.some.injEq, exists_eq_left', Bool.not_true, Bool.not_false, ne_eq, Int.reduceEq, not_true_eq_false, not_false_eq_true, Int.reduceLT, UInt8.reduceLT, UInt8.reduceLE, UInt8.reduceToNat]
    exact g6
  rintro E S ⟨hS, g6, g7, g8, g9⟩
  rw [hS]
  cases b with
  | true =>
    simp (maxSteps := 1000000) (disch := omega) only [g6, g7, g8, g9, qaaz, qabz, qacz, qadz, qaez, qafz, qagz, qahz, qaiz, qajz, qakz, qalz, qamz, qanz, evOp, qaoz, qapz, qaqz, qarz, qasz, qatz, qauz, qavz,
 ↓reduceIte, Nat.reduceEqDiff, List.nil_append, List.cons_append, List.append_nil, List.map_cons, List.map_nil, qawz, qaxz, qayz, Option.map_some, Option.map_none, qazz, qbaz, qbbz, qbcz, qbdz, qbez, qbfz, qbgz, qbhz, qbiz, qbjz, qbkz, qblz, qbmz, qbnz, qboz,
 qbpz, qbqz, qbrz, qbsz, qbtz, qbuz, qbvz, qbwz, qbxz, qbyz, qbzz, qcaz, qcbz, qccz, qcdz, qcez, qcfz, qcgz, qchz, qciz, beq_true, beq_false, Bool.not_eq_true', decide_eq_true_eq, decide_eq_false_iff_not, decide_true, decide_false,
 Int.toNat_natCast, Int.ofNat_lt, Int.ofNat_le, Int.natCast_inj, Bool.false_eq_true, Bool.true_eq_false, qcjz, List.getElem?_cons_zero, List.getElem?_cons_succ, qckz, Int.reduceToNat, Int.reduceLE, true_and, and_true, reduceCtorEq, or_false, false_or, or_true, Option.some.injEq, exists_eq_left', Bool.not_true, Bool.not_false, ne_eq, Int.reduceEq, not_true_eq_false, not_false_eq_true, Int.reduceLT, UInt8.reduceLT, UInt8.reduceLE, UInt8.reduceToNat]
    exact bad _ _ hk2 rfl rfl rfl (hpO rfl)
  | false =>
  have hpD := hpD rfl
  by_cases c1 : wd = -2
  · have hd : decide (wd ≠ -2) = false := by simp [c1]
    rw [hd] at g9
    simp (maxSteps := 1000000) (disch := omega) only [g6, g7, g8, g9, qaaz, qabz, qacz, qadz, qaez, qafz, qagz, qahz, qaiz, qajz, qakz, qalz, qamz, qanz, evOp, qaoz, qapz, qaqz, qarz, qasz, qatz, qauz, qavz,
 ↓reduceIte, Nat.reduceEqDiff, List.nil_append, List.cons_append, List.append_nil, List.map_cons, List.map_nil, qawz, qaxz, qayz, Option.map_some, Option.map_none, qazz, qbaz, qbbz, qbcz, qbdz, qbez, qbfz, qbgz, qbhz, qbiz, qbjz, qbkz, qblz, qbmz, qbnz, qboz,
 qbpz, qbqz, qbrz, qbsz, qbtz, qbuz, qbvz, qbwz, qbxz, qbyz, qbzz, qcaz, qcbz, qccz, qcdz, qcez, qcfz, qcgz, qchz, qciz, beq_true, beq_false, Bool.not_eq_true', decide_eq_true_eq, decide_eq_false_iff_not, decide_true, decide_false,
 Int.toNat_natCast, Int.ofNat_lt, Int.ofNat_le, Int.natCast_inj, Bool.false_eq_true, Bool.true_eq_false, qcjz, List.getElem?_cons_zero, List.getElem?_cons_succ, qckz, Int.reduceToNat, Int.reduceLE, true_and, and_true, reduceCtorEq, or_false, false_or, or_true, Option.some.injEq, exists_eq_left', Bool.not_true, Bool.not_false, ne_eq, Int.reduceEq, not_true_eq_false, not_false_eq_true, Int.reduceLT, UInt8.reduceLT, UInt8.reduceLE, UInt8.reduceToNat]
    exact bad _ _ hk2 rfl rfl rfl (by rw [hpD]; unfold lstD; rw [if_pos (.inl c1)])
  have hd : decide (wd ≠ -2) = true := by simp [c1]
  rw [hd] at g9
  obtain ⟨hnw, hyy⟩ := hyn c1
  subst hnw
  have hlen : lenPV false y = some (.int .i64 (L.length : Int)) := by
    rcases hyy with ⟨rfl, rfl⟩ | ⟨j, _, rfl, _⟩
    · rfl
    · exact len_row
  by_cases c2 : L.length < 4
  · have e2 : (L.length : Int) < 4 := by omega
    simp (maxSteps := 1000000) (disch := omega) only [g6, g7, g8, g9, hlen, e2, qaaz, qabz, qacz, qadz, qaez, qafz, qagz, qahz, qaiz, qajz, qakz, qalz, qamz, qanz, evOp, qaoz, qapz, qaqz, qarz, qasz, qatz, qauz, qavz,
 ↓reduceIte, Nat.reduceEqDiff, List.nil_append, List.cons_append, List.append_nil, List.map_cons, List.map_nil, qawz, qaxz, qayz, Option.map_some, Option.map_none, qazz, qbaz, qbbz, qbcz, qbdz, qbez, qbfz, qbgz, qbhz, qbiz, qbjz, qbkz, qblz, qbmz, qbnz, qboz,
 qbpz, qbqz, qbrz, qbsz, qbtz, qbuz, qbvz, qbwz, qbxz, qbyz, qbzz, qcaz, qcbz, qccz, qcdz, qcez, qcfz, qcgz, qchz, qciz, beq_true, beq_false, Bool.not_eq_true', decide_eq_true_eq, decide_eq_false_iff_not, decide_true, decide_false,
 Int.toNat_natCast, Int.ofNat_lt, Int.ofNat_le, Int.natCast_inj, Bool.false_eq_true, Bool.true_eq_false, qcjz, List.getElem?_cons_zero, List.getElem?_cons_succ, qckz, Int.reduceToNat, Int.reduceLE, true_and, and_true, reduceCtorEq, or_false, false_or, or_true, Option.some.injEq, exists_eq_left', Bool.not_true, Bool.not_false, ne_eq, Int.reduceEq, not_true_eq_false, not_false_eq_true, Int.reduceLT, UInt8.reduceLT, UInt8.reduceLE, UInt8.reduceToNat]
    exact bad _ _ hk2 rfl rfl rfl (by rw [hpD]; unfold lstD; rw [if_pos (.inr (.inl c2))])
  by_cases c3 : 5 < L.length
  · have e2 : ¬ (L.length : Int) < 4 := by omega
    have e3 : (5 : Int) < (L.length : Int) := by omega
    simp (maxSteps := 1000000) (disch := omega) only [g6, g7, g8, g9, hlen, e2, e3, qaaz, qabz, qacz, qadz, qaez, qafz, qagz, qahz, qaiz, qajz, qakz, qalz, qamz, qanz, evOp, qaoz, qapz, qaqz, qarz, qasz, qatz, qauz, qavz,
 ↓reduceIte, Nat.reduceEqDiff, List.nil_append, List.cons_append, List.append_nil, List.map_cons, List.map_nil, qawz, qaxz, qayz, Option.map_some, Option.map_none, qazz, qbaz, qbbz, qbcz, qbdz, qbez, qbfz, qbgz, qbhz, qbiz, qbjz, qbkz, qblz, qbmz, qbnz, qboz,
 qbpz, qbqz, qbrz, qbsz, qbtz, qbuz, qbvz, qbwz, qbxz, qbyz, qbzz, qcaz, qcbz, qccz, qcdz, qcez, qcfz, qcgz, qchz, qciz, beq_true, beq_false, Bool.not_eq_true', decide_eq_true_eq, decide_eq_false_iff_not, decide_true, decide_false,
 Int.toNat_natCast, Int.ofNat_lt, Int.ofNat_le, Int.natCast_inj, Bool.false_eq_true, Bool.true_eq_false, qcjz, List.getElem?_cons_zero, List.getElem?_cons_succ, qckz, Int.reduceToNat, Int.reduceLE, true_and, and_true, reduceCtorEq, or_false, false_or, or_true, Option.some.injEq, exists_eq_left', Bool.not_true, Bool.not_false, ne_eq, Int.reduceEq, not_true_eq_false, not_false_eq_true, Int.reduceLT, UInt8.reduceLT, UInt8.reduceLE, UInt8.reduceToNat]
    exact bad _ _ hk2 rfl rfl rfl (by rw [hpD]; unfold lstD; rw [if_pos (.inr (.inr c3))])
  obtain ⟨j, hj, rfl, hjt⟩ : ∃ j, st.toks.length ≤ j ∧ y = rowV (.own j) L ∧ S2.toks[j]? = some true := by
    rcases hyy with ⟨_, rfl⟩ | h
    · simp at c2
    · exact h
  have hLne : ∀ k, k < L.length → L.getD k [] ≠ [] := fun k hk => by
    have hne : ∀ w ∈ L, w ≠ [] := by
      rw [hL]
      have key : ∀ (M : List Bs), (∀ w ∈ M, w ≠ []) → ∀ w ∈ (wdD M).2, w ≠ [] := by
        intro M hM
        have hgo : ∀ (a b : Bs) (r : List Bs), (∀ w ∈ r, w ≠ []) → ∀ w ∈ (wdGo a b r).2, w ≠ [] := by
          intro a b r hr w hw
          unfold wdGo at hw
          split at hw
          · simp at hw
          · split at hw
            · exact hr w hw
            · rename_i hb
              rcases List.mem_cons.1 hw with rfl | hw
              · exact hb
              · exact hr w hw
        match M, hM with
        | [], _ => intro w hw; simp [wdD] at hw
        | x :: r, hM =>
          unfold wdD
          dsimp only
          split
          · exact hgo _ _ _ fun w hw => hM w (by simp [hw])
          · cases r with
            | nil => exact hM
            | cons v r' =>
              dsimp only
              split
              · exact hgo _ _ _ fun w hw => hM w (by simp [hw])
              · exact hM
      exact key W hWn
    have : L.getD k [] = L[k] := by simp [List.getD, hk]
    rw [this]; exact hne _ (List.getElem_mem hk)
  have hget : ∀ k, (L.getD k []).length ≤ 100000 := fun k => by
    rcases Nat.lt_or_ge k L.length with h | h
    · have : L.getD k [] = L[k] := by simp [List.getD, h]
      rw [this]; exact hLl.1 _ (List.getElem_mem h)
    · simp [List.getD, h]
  have hl0 : parseD l = finD n (daysD (yrD (L.getD 2 [])) (nmD (L.getD 1 []) 13 monT) (digD (L.getD 0 []) 1 2)) (clkD (L.getD 3 [])) (zoneD (L.getD 4 [])) := by
    rw [hpD]; unfold lstD; rw [if_neg (by omega)]
  have e2 : ¬ (L.length : Int) < 4 := by omega
  have e3 : ¬ (5 : Int) < (L.length : Int) := by omega
  refine W_cut (fun E S => S = S2 ∧ E 7 = rowV (.own j) L ∧ E 8 = .int .i64 n) ?_ ?_
  · simp (maxSteps := 1000000) (disch := omega) only [g6, g7, g8, g9, hlen, e2, e3, qaaz, qabz, qacz, qadz, qaez, qafz, qagz, qahz, qaiz, qajz, qakz, qalz, qamz, qanz, evOp, qaoz, qapz, qaqz, qarz, qasz, qatz, qauz, qavz,
 ↓reduceIte, Nat.reduceEqDiff, List.nil_append, List.cons_append, List.append_nil, List.map_cons, List.map_nil, qawz, qaxz, qayz, Option.map_some, Option.map_none, qazz, qbaz, qbbz, qbcz, qbdz, qbez, qbfz, qbgz, qbhz, qbiz, qbjz, qbkz, qblz, qbmz, qbnz, qboz,
 qbpz, qbqz, qbrz, qbsz, qbtz, qbuz, qbvz, qbwz, qbxz, qbyz, qbzz, qcaz, qcbz, qccz, qcdz, qcez, qcfz, qcgz, qchz, qciz, beq_true, beq_false, Bool.not_eq_true', decide_eq_true_eq, decide_eq_false_iff_not, decide_true, decide_false,
 Int.toNat_natCast, Int.ofNat_lt, Int.ofNat_le, Int.natCast_inj, Bool.false_eq_true, Bool.true_eq_false, qcjz, List.getElem?_cons_zero, List.getElem?_cons_succ, qckz, Int.reduceToNat, Int.reduceLE, true_and, and_true, reduceCtorEq, or_false, false_or, or_true, Option.some.injEq, exists_eq_left', Bool.not_true, Bool.not_false, ne_eq, Int.reduceEq, not_true_eq_false, not_false_eq_true, Int.reduceLT, UInt8.reduceLT, UInt8.reduceLE, UInt8.reduceToNat]
  rintro E S ⟨hS, g7, g8⟩
  rw [hS]
  refine W_cut (fun E S => Kept st S ∧ E 8 = .int .i64 n ∧ ∃ u K, E 7 = rowV u K ∧ K.length = 5 ∧ (∀ k, k < 4 → K.getD k [] = L.getD k []) ∧ zoneD (K.getD 4 []) = zoneD (L.getD 4 []) ∧ K.getD 4 [] ≠ [] ∧ (K.getD 4 []).length ≤ 100000) ?_ ?_
  · by_cases c4 : L.length = 4
    · have e4 : (L.length : Int) = 4 := by omega
      have hjl : j < S2.toks.length := (List.getElem?_eq_some_iff.1 hjt).1
      have hg : (S2.toks ++ [true])[j]? = some true := by rw [List.getElem?_append_left hjl]; exact hjt
      have hset : (S2.toks ++ [true]).set j false = S2.toks.set j false ++ [true] := by rw [List.set_append_left _ _ hjl]
      have ha : appV 1 ⟨S2.boxes, S2.toks ++ [true], S2.loops, S2.low⟩ (rowV (.own j) L) (.sl 1 (.own S2.toks.length) [.str [71, 77, 84]]) = some (rowV (.own (S2.toks.length + 1)) (L ++ [[71, 77, 84]]), ⟨S2.boxes, S2.toks.set j false ++ [true, true], S2.loops, S2.low⟩) := by
        simp [appV, srcV, rowV, appTok, freshT, hg, hset, room, c4]
      have hl1 : litFill 1 (List.replicate 1 (.str [])) [(0, .str [71, 77, 84])] = some [.str [71, 77, 84]] := rfl
      simp (maxSteps := 1000000) (disch := omega) only [g7, g8, len_row, eq_true e4, hl1, freshT, ha, qaaz, qabz, qacz, qadz, qaez, qafz, qagz, qahz, qaiz, qajz, qakz, qalz, qamz, qanz, evOp, qaoz, qapz, qaqz, qarz, qasz, qatz, qauz, qavz,
 ↓reduceIte, Nat.reduceEqDiff, List.nil_append, List.cons_append, List.append_nil, List.map_cons, List.map_nil, qawz, qaxz, qayz, Option.map_some, Option.map_none, qazz, qbaz, qbbz, qbcz, qbdz, qbez, qbfz, qbgz, qbhz, qbiz, qbjz, qbkz, qblz, qbmz, qbnz, qboz,
 qbpz, qbqz, qbrz, qbsz, qbtz, qbuz, qbvz, qbwz, qbxz, qbyz, qbzz, qcaz, qcbz, qccz, qcdz, qcez, qcfz, qcgz, qchz, qciz, beq_true, beq_false, Bool.not_eq_true', decide_eq_true_eq, decide_eq_false_iff_not, decide_true, decide_false,
 Int.toNat_natCast, Int.ofNat_lt, Int.ofNat_le, Int.natCast_inj, Bool.false_eq_true, Bool.true_eq_false, qcjz, List.getElem?_cons_zero, List.getElem?_cons_succ, qckz, Int.reduceToNat, Int.reduceLE, true_and, and_true, reduceCtorEq, or_false, false_or, or_true, Option.some.injEq, exists_eq_left', Bool.not_true, Bool.not_false, ne_eq, Int.reduceEq, not_true_eq_false, not_false_eq_true, Int.reduceLT, UInt8.reduceLT, UInt8.reduceLE, UInt8.reduceToNat]
      have q4 : (L ++ [[71, 77, 84]]).getD 4 [] = [71, 77, 84] := by simp [List.getD, List.getElem?_append_right (show L.length ≤ 4 by omega), c4]
      have q5 : L.getD 4 [] = [] := by simp [List.getD, c4]
      refine ⟨⟨hk2.bx, hk2.lp, hk2.lw, ?_⟩, _, _, rfl, by simp [c4], fun k hk => by simp only [List.getD, List.getElem?_append_left (show k < L.length by omega)], by rw [q4, q5, zone_gmt], by rw [q4]; decide, by rw [q4]; decide⟩
      have h1 := hk2.tk
      have h2 : st.toks.length ≤ S2.toks.length := by have := congrArg List.length h1; simp at this; omega
      have h3 : (S2.toks.set j false ++ [true, true]).take st.toks.length = S2.toks.take st.toks.length := by
        rw [List.take_append_of_le_length (by simp; omega)]
        rw [List.take_set, List.set_eq_of_length_le (by simp; omega)]
      exact h3.trans h1
    · have e4 : ¬ (L.length : Int) = 4 := by omega
      simp (maxSteps := 1000000) (disch := omega) only [g7, g8, len_row, e4, qaaz, qabz, qacz, qadz, qaez, qafz, qagz, qahz, qaiz, qajz, qakz, qalz, qamz, qanz, evOp, qaoz, qapz, qaqz, qarz, qasz, qatz, qauz, qavz,
 ↓reduceIte, Nat.reduceEqDiff, List.nil_append, List.cons_append, List.append_nil, List.map_cons, List.map_nil, qawz, qaxz, qayz, Option.map_some, Option.map_none, qazz, qbaz, qbbz, qbcz, qbdz, qbez, qbfz, qbgz, qbhz, qbiz, qbjz, qbkz, qblz, qbmz, qbnz, qboz,
 qbpz, qbqz, qbrz, qbsz, qbtz, qbuz, qbvz, qbwz, qbxz, qbyz, qbzz, qcaz, qcbz, qccz, qcdz, qcez, qcfz, qcgz, qchz, qciz, beq_true, beq_false, Bool.not_eq_true', decide_eq_true_eq, decide_eq_false_iff_not, decide_true, decide_false,
 Int.toNat_natCast, Int.ofNat_lt, Int.ofNat_le, Int.natCast_inj, Bool.false_eq_true, Bool.true_eq_false, qcjz, List.getElem?_cons_zero, List.getElem?_cons_succ, qckz, Int.reduceToNat, Int.reduceLE, true_and, and_true, reduceCtorEq, or_false, false_or, or_true, Option.some.injEq, exists_eq_left', Bool.not_true, Bool.not_false, ne_eq, Int.reduceEq, not_true_eq_false, not_false_eq_true, Int.reduceLT, UInt8.reduceLT, UInt8.reduceLE, UInt8.reduceToNat]
      exact ⟨hk2, _, _, rfl, by omega, fun k hk => rfl, rfl, hLne 4 (by omega), hget 4⟩
  rintro E S ⟨hk, g8, u, K, g7, hK5, hK4, hKz, hKn, hKl⟩
  have i0 : iaddrPV 1 (rowV u K) (.int .i64 0) = some (.cp [.str (L.getD 0 [])]) := by rw [← hK4 0 (by omega)]; exact iaddr_t rowV_vs (by omega) (by simp; omega)
  have i1 : iaddrPV 1 (rowV u K) (.int .i64 1) = some (.cp [.str (L.getD 1 [])]) := by rw [← hK4 1 (by omega)]; exact iaddr_t rowV_vs (by omega) (by simp; omega)
  have i2 : iaddrPV 1 (rowV u K) (.int .i64 2) = some (.cp [.str (L.getD 2 [])]) := by rw [← hK4 2 (by omega)]; exact iaddr_t rowV_vs (by omega) (by simp; omega)
  have i3 : iaddrPV 1 (rowV u K) (.int .i64 3) = some (.cp [.str (L.getD 3 [])]) := by rw [← hK4 3 (by omega)]; exact iaddr_t rowV_vs (by omega) (by simp; omega)
  have i4 : iaddrPV 1 (rowV u K) (.int .i64 4) = some (.cp [.str (K.getD 4 [])]) := iaddr_t rowV_vs (by omega) (by simp; omega)
  have hday := dayN (hLne 0 (by omega))
  have k0 := fun S : St => number_spec (st := S) (l := L.getD 0 []) (n := (L.getD 0 []).length) (by have := hget 0; omega)
  have hnr : numR (L.getD 0 []) (L.getD 0 []).length = valR (L.getD 0 []) := by unfold numR; rw [if_pos rfl]
  rw [hnr] at k0
  have k1 := fun S : St => monthOf_spec (st := S) (l := L.getD 1 []) (by have := hget 1; omega)
  have k2 := fun S : St => yearOf_spec (st := S) (l := L.getD 2 []) (by have := hget 2; omega)
  have k3 := fun S : St => clockOf_spec (st := S) (l := L.getD 3 []) (by have := hget 3; omega)
  have k4 := fun S : St => zoneOf_spec (st := S) (l := K.getD 4 []) (by omega) hKn
  have y1 := nmD_ge (L.getD 1 []) 13 monT
  have y2 := yrD_ge (L.getD 2 [])
  have k5 := fun S : St => rDays_spec (st := S) (y := yrD (L.getD 2 [])) (m := nmD (L.getD 1 []) 13 monT) (d := digD (L.getD 0 []) 1 2) (by omega) (by omega)
  have b3 := clk_bound (L.getD 3 [])
  have b4 := zone_bound (L.getD 4 [])
  have b5 := days_bound (yrD (L.getD 2 [])) (nmD (L.getD 1 []) 13 monT) (digD (L.getD 0 []) 1 2)
  have hzR : zoneR (K.getD 4 []) = if (zoneD (L.getD 4 [])).2 = true then (zoneD (L.getD 4 [])).1 else 0 := by unfold zoneR; rw [hKz]
  rw [hKz, hzR] at k4
  clear hzR hKz hK4
  refine W_cut (fun E S' => S' = S ∧ E 7 = rowV u K ∧ E 8 = .int .i64 n ∧ E 10 = .int .i64 (valR (L.getD 0 []))) ?_ ?_
  · simp (maxSteps := 1000000) (disch := omega) only [g7, g8, i0, lc1, len_s, k0, qaaz, qabz, qacz, qadz, qaez, qafz, qagz, qahz, qaiz, qajz, qakz, qalz, qamz, qanz, evOp, qaoz, qapz, qaqz, qarz, qasz, qatz, qauz, qavz,
 ↓reduceIte, Nat.reduceEqDiff, List.nil_append, List.cons_append, List.append_nil, List.map_cons, List.map_nil, qawz, qaxz, qayz, Option.map_some, Option.map_none, qazz, qbaz, qbbz, qbcz, qbdz, qbez, qbfz, qbgz, qbhz, qbiz, qbjz, qbkz, qblz, qbmz, qbnz, qboz,
 qbpz, qbqz, qbrz, qbsz, qbtz, qbuz, qbvz, qbwz, qbxz, qbyz, qbzz, qcaz, qcbz, qccz, qcdz, qcez, qcfz, qcgz, qchz, qciz, beq_true, beq_false, Bool.not_eq_true', decide_eq_true_eq, decide_eq_false_iff_not, decide_true, decide_false,
 Int.toNat_natCast, Int.ofNat_lt, Int.ofNat_le, Int.natCast_inj, Bool.false_eq_true, Bool.true_eq_false, qcjz, List.getElem?_cons_zero, List.getElem?_cons_succ, qckz, Int.reduceToNat, Int.reduceLE, true_and, and_true, reduceCtorEq, or_false, false_or, or_true, Option.some.injEq, exists_eq_left', Bool.not_true, Bool.not_false, ne_eq, Int.reduceEq, not_true_eq_false, not_false_eq_true, Int.reduceLT, UInt8.reduceLT, UInt8.reduceLE, UInt8.reduceToNat]
  rintro E S' ⟨hS', g7, g8, g10⟩
  rw [hS']
  refine W_cut (fun E S' => S' = S ∧ E 7 = rowV u K ∧ E 8 = .int .i64 n ∧ E 10 = .int .i64 (digD (L.getD 0 []) 1 2)) ?_ ?_
  · by_cases c2' : 2 < (L.getD 0 []).length
    · rw [if_pos c2'] at hday
      have q : (2 : Int) < ((L.getD 0 []).length : Int) := by omega
      simp (maxSteps := 1000000) (disch := omega) only [g7, g8, g10, i0, lc1, len_s, q, qaaz, qabz, qacz, qadz, qaez, qafz, qagz, qahz, qaiz, qajz, qakz, qalz, qamz, qanz, evOp, qaoz, qapz, qaqz, qarz, qasz, qatz, qauz, qavz,
 ↓reduceIte, Nat.reduceEqDiff, List.nil_append, List.cons_append, List.append_nil, List.map_cons, List.map_nil, qawz, qaxz, qayz, Option.map_some, Option.map_none, qazz, qbaz, qbbz, qbcz, qbdz, qbez, qbfz, qbgz, qbhz, qbiz, qbjz, qbkz, qblz, qbmz, qbnz, qboz,
 qbpz, qbqz, qbrz, qbsz, qbtz, qbuz, qbvz, qbwz, qbxz, qbyz, qbzz, qcaz, qcbz, qccz, qcdz, qcez, qcfz, qcgz, qchz, qciz, beq_true, beq_false, Bool.not_eq_true', decide_eq_true_eq, decide_eq_false_iff_not, decide_true, decide_false,
 Int.toNat_natCast, Int.ofNat_lt, Int.ofNat_le, Int.natCast_inj, Bool.false_eq_true, Bool.true_eq_false, qcjz, List.getElem?_cons_zero, List.getElem?_cons_succ, qckz, Int.reduceToNat, Int.reduceLE, true_and, and_true, reduceCtorEq, or_false, false_or, or_true, Option.some.injEq, exists_eq_left', Bool.not_true, Bool.not_false, ne_eq, Int.reduceEq, not_true_eq_false, not_false_eq_true, Int.reduceLT, UInt8.reduceLT, UInt8.reduceLE, UInt8.reduceToNat]
      exact congrArg _ hday
    · rw [if_neg c2'] at hday
      have q : ¬ (2 : Int) < ((L.getD 0 []).length : Int) := by omega
      simp (maxSteps := 1000000) (disch := omega) only [g7, g8, g10, i0, lc1, len_s, q, qaaz, qabz, qacz, qadz, qaez, qafz, qagz, qahz, qaiz, qajz, qakz, qalz, qamz, qanz, evOp, qaoz, qapz, qaqz, qarz, qasz, qatz, qauz, qavz,
 ↓reduceIte, Nat.reduceEqDiff, List.nil_append, List.cons_append, List.append_nil, List.map_cons, List.map_nil, qawz, qaxz, qayz, Option.map_some, Option.map_none, qazz, qbaz, qbbz, qbcz, qbdz, qbez, qbfz, qbgz, qbhz, qbiz, qbjz, qbkz, qblz, qbmz, qbnz, qboz,
 qbpz, qbqz, qbrz, qbsz, qbtz, qbuz, qbvz, qbwz, qbxz, qbyz, qbzz, qcaz, qcbz, qccz, qcdz, qcez, qcfz, qcgz, qchz, qciz, beq_true, beq_false, Bool.not_eq_true', decide_eq_true_eq, decide_eq_false_iff_not, decide_true, decide_false,
 Int.toNat_natCast, Int.ofNat_lt, Int.ofNat_le, Int.natCast_inj, Bool.false_eq_true, Bool.true_eq_false, qcjz, List.getElem?_cons_zero, List.getElem?_cons_succ, qckz, Int.reduceToNat, Int.reduceLE, true_and, and_true, reduceCtorEq, or_false, false_or, or_true, Option.some.injEq, exists_eq_left', Bool.not_true, Bool.not_false, ne_eq, Int.reduceEq, not_true_eq_false, not_false_eq_true, Int.reduceLT, UInt8.reduceLT, UInt8.reduceLE, UInt8.reduceToNat]
      exact congrArg _ hday
  rintro E S' ⟨hS', g7, g8, g10⟩
  rw [hS']
  obtain ⟨D5, hD5⟩ : ∃ D, D = daysD (yrD (L.getD 2 [])) (nmD (L.getD 1 []) 13 monT) (digD (L.getD 0 []) 1 2) := ⟨_, rfl⟩
  rw [← hD5] at k5 b5 hl0
  generalize digD (L.getD 0 []) 1 2 = v0 at k5 g10
  generalize nmD (L.getD 1 []) 13 monT = v1 at k1 k5
  generalize yrD (L.getD 2 []) = v2 at k2 k5
  generalize clkD (L.getD 3 []) = v3 at k3 b3 hl0
  generalize zoneD (L.getD 4 []) = v4 at k4 b4 hl0
  generalize K.getD 4 [] = w4 at i4 k4
  obtain ⟨n5, e5⟩ := D5
  obtain ⟨z0, ok⟩ := v4
  simp only at b4 b5 k4 k5
  obtain ⟨z, hz⟩ : ∃ z, z = if ok = true then z0 else 0 := ⟨_, rfl⟩
  rw [← hz] at k4
  have bz : -100000000 ≤ z ∧ z ≤ 100000000 := by rw [hz]; split <;> omega
  have m1 : binPV .mul .no (.int .i64 86400) (.int .i64 n5) = some (.int .i64 (n5 * 86400)) := by
    simp only [binPV, binI, if_true, Option.some.injEq]
    rw [wrap64 (by omega) (by omega)]; congr 1; omega
  have a1 : binPV .add .no (.int .i64 (n5 * 86400)) (.int .i64 v3) = some (.int .i64 (n5 * 86400 + v3)) := add_i (by omega) (by omega)
  have s1 : binPV .sub .no (.int .i64 (n5 * 86400 + v3)) (.int .i64 z) = some (.int .i64 (n5 * 86400 + v3 - z)) := sub_i (by omega) (by omega)
  have hR := fun S : St => Time_spec (st := S) (t := n5 * 86400 + v3 - z)
  have hWk := fun S : St => rWeekday_spec (st := S) (d := n5)
  have hfd : finD n (n5, e5) v3 (z0, ok) = (if e5 ≠ 0 ∨ v3 < 0 ∨ ok = false ∨ ¬ (0 ≤ n5 * 86400 + v3 - z0 ∧ n5 * 86400 + v3 - z0 ≤ 253402300799) then (0, 0, 110) else if 0 ≤ n ∧ n ≠ (wkOf n5).1 then (0, 0, 110) else (n5 * 86400 + v3 - z0, z0, 0)) := rfl
  have good : ∀ (E : Env), E 2 = .int .i64 (n5 * 86400 + v3 - z) → E 3 = .int .i64 z → E 4 = .int .i64 0 → parseD l = (n5 * 86400 + v3 - z, z, 0) → Q0 .ret E S := fun E h2 h3 h4 h => by
    rw [hQ0, qblz, h]; exact retIII h2 h3 h4 hk rfl rfl rfl
  have badS : ∀ (E : Env), E 2 = .int .i64 0 → E 3 = .int .i64 0 → E 4 = .int .i64 110 → parseD l = (0, 0, 110) → Q0 .ret E S := fun E h2 h3 h4 h => bad E S hk h2 h3 h4 h
  by_cases w1 : e5 = 0
  · by_cases w2 : v3 < 0
    · simp (maxSteps := 1000000) (disch := omega) only [g7, g8, g10, i1, i2, i3, i4, lc1, k1, k2, k3, k4, k5, m1, a1, s1, hR, hWk, eq_true w1, w2, qaaz, qabz, qacz, qadz, qaez, qafz, qagz, qahz, qaiz, qajz, qakz, qalz, qamz, qanz, evOp, qaoz, qapz, qaqz, qarz, qasz, qatz, qauz, qavz,
 ↓reduceIte, Nat.reduceEqDiff, List.nil_append, List.cons_append, List.append_nil, List.map_cons, List.map_nil, qawz, qaxz, qayz, Option.map_some, Option.map_none, qazz, qbaz, qbbz, qbcz, qbdz, qbez, qbfz, qbgz, qbhz, qbiz, qbjz, qbkz, qblz, qbmz, qbnz, qboz,
 qbpz, qbqz, qbrz, qbsz, qbtz, qbuz, qbvz, qbwz, qbxz, qbyz, qbzz, qcaz, qcbz, qccz, qcdz, qcez, qcfz, qcgz, qchz, qciz, beq_true, beq_false, Bool.not_eq_true', decide_eq_true_eq, decide_eq_false_iff_not, decide_true, decide_false,
 Int.toNat_natCast, Int.ofNat_lt, Int.ofNat_le, Int.natCast_inj, Bool.false_eq_true, Bool.true_eq_false, qcjz, List.getElem?_cons_zero, List.getElem?_cons_succ, qckz, Int.reduceToNat, Int.reduceLE, true_and, and_true, reduceCtorEq, or_false, false_or, or_true, Option.some.injEq, exists_eq_left', Bool.not_true, Bool.not_false, ne_eq, Int.reduceEq, not_true_eq_false, not_false_eq_true, Int.reduceLT, UInt8.reduceLT, UInt8.reduceLE, UInt8.reduceToNat]
      exact badS _ rfl rfl rfl (by rw [hl0, hfd, if_pos (.inr (.inl w2))])
    · cases ok with
      | false =>
        simp (maxSteps := 1000000) (disch := omega) only [g7, g8, g10, i1, i2, i3, i4, lc1, k1, k2, k3, k4, k5, m1, a1, s1, hR, hWk, eq_true w1, w2, qaaz, qabz, qacz, qadz, qaez, qafz, qagz, qahz, qaiz, qajz, qakz, qalz, qamz, qanz, evOp, qaoz, qapz, qaqz, qarz, qasz, qatz, qauz, qavz,
 ↓reduceIte, Nat.reduceEqDiff, List.nil_append, List.cons_append, List.append_nil, List.map_cons, List.map_nil, qawz, qaxz, qayz, Option.map_some, Option.map_none, qazz, qbaz, qbbz, qbcz, qbdz, qbez, qbfz, qbgz, qbhz, qbiz, qbjz, qbkz, qblz, qbmz, qbnz, qboz,
 qbpz, qbqz, qbrz, qbsz, qbtz, qbuz, qbvz, qbwz, qbxz, qbyz, qbzz, qcaz, qcbz, qccz, qcdz, qcez, qcfz, qcgz, qchz, qciz, beq_true, beq_false, Bool.not_eq_true', decide_eq_true_eq, decide_eq_false_iff_not, decide_true, decide_false,
 Int.toNat_natCast, Int.ofNat_lt, Int.ofNat_le, Int.natCast_inj, Bool.false_eq_true, Bool.true_eq_false, qcjz, List.getElem?_cons_zero, List.getElem?_cons_succ, qckz, Int.reduceToNat, Int.reduceLE, true_and, and_true, reduceCtorEq, or_false, false_or, or_true, Option.some.injEq, exists_eq_left', Bool.not_true, Bool.not_false, ne_eq, Int.reduceEq, not_true_eq_false, not_false_eq_true, Int.reduceLT, UInt8.reduceLT, UInt8.reduceLE, UInt8.reduceToNat]
        exact badS _ rfl rfl rfl (by rw [hl0, hfd, if_pos (.inr (.inr (.inl rfl)))])
      | true =>
        obtain rfl : z = z0 := by rw [hz, if_pos rfl]
        by_cases w4' : 0 ≤ n5 * 86400 + v3 - z ∧ n5 * 86400 + v3 - z ≤ 253402300799
        · have hno : ¬ (e5 ≠ 0 ∨ v3 < 0 ∨ true = false ∨ ¬ (0 ≤ n5 * 86400 + v3 - z ∧ n5 * 86400 + v3 - z ≤ 253402300799)) := fun h => h.elim (fun h => h w1) fun h => h.elim w2 fun h => h.elim (fun h => by cases h) fun h => h w4'
          by_cases w5 : 0 ≤ n
          · by_cases w6 : n = (wkOf n5).1
            · simp (maxSteps := 1000000) (disch := omega) only [g7, g8, g10, i1, i2, i3, i4, lc1, k1, k2, k3, k4, k5, m1, a1, s1, hR, hWk, eq_true w1, w2, decide_eq_true w4', w5, eq_true w6, qaaz, qabz, qacz, qadz, qaez, qafz, qagz, qahz, qaiz, qajz, qakz, qalz, qamz, qanz, evOp, qaoz, qapz, qaqz, qarz, qasz, qatz, qauz, qavz,
 ↓reduceIte, Nat.reduceEqDiff, List.nil_append, List.cons_append, List.append_nil, List.map_cons, List.map_nil, qawz, qaxz, qayz, Option.map_some, Option.map_none, qazz, qbaz, qbbz, qbcz, qbdz, qbez, qbfz, qbgz, qbhz, qbiz, qbjz, qbkz, qblz, qbmz, qbnz, qboz,
 qbpz, qbqz, qbrz, qbsz, qbtz, qbuz, qbvz, qbwz, qbxz, qbyz, qbzz, qcaz, qcbz, qccz, qcdz, qcez, qcfz, qcgz, qchz, qciz, beq_true, beq_false, Bool.not_eq_true', decide_eq_true_eq, decide_eq_false_iff_not, decide_true, decide_false,
 Int.toNat_natCast, Int.ofNat_lt, Int.ofNat_le, Int.natCast_inj, Bool.false_eq_true, Bool.true_eq_false, qcjz, List.getElem?_cons_zero, List.getElem?_cons_succ, qckz, Int.reduceToNat, Int.reduceLE, true_and, and_true, reduceCtorEq, or_false, false_or, or_true, Option.some.injEq, exists_eq_left', Bool.not_true, Bool.not_false, ne_eq, Int.reduceEq, not_true_eq_false, not_false_eq_true, Int.reduceLT, UInt8.reduceLT, UInt8.reduceLE, UInt8.reduceToNat]
              exact good _ rfl rfl (by rw [← w1]; rfl) (by rw [hl0, hfd, if_neg hno, if_neg (fun h => h.2 w6)])
            · simp (maxSteps := 1000000) (disch := omega) only [g7, g8, g10, i1, i2, i3, i4, lc1, k1, k2, k3, k4, k5, m1, a1, s1, hR, hWk, eq_true w1, w2, decide_eq_true w4', w5, w6, qaaz, qabz, qacz, qadz, qaez, qafz, qagz, qahz, qaiz, qajz, qakz, qalz, qamz, qanz, evOp, qaoz, qapz, qaqz, qarz, qasz, qatz, qauz, qavz,
 ↓reduceIte, Nat.reduceEqDiff, List.nil_append, List.cons_append, List.append_nil, List.map_cons, List.map_nil, qawz, qaxz, qayz, Option.map_some, Option.map_none, qazz, qbaz, qbbz, qbcz, qbdz, qbez, qbfz, qbgz, qbhz, qbiz, qbjz, qbkz, qblz, qbmz, qbnz, qboz,
 qbpz, qbqz, qbrz, qbsz, qbtz, qbuz, qbvz, qbwz, qbxz, qbyz, qbzz, qcaz, qcbz, qccz, qcdz, qcez, qcfz, qcgz, qchz, qciz, beq_true, beq_false, Bool.not_eq_true', decide_eq_true_eq, decide_eq_false_iff_not, decide_true, decide_false,
 Int.toNat_natCast, Int.ofNat_lt, Int.ofNat_le, Int.natCast_inj, Bool.false_eq_true, Bool.true_eq_false, qcjz, List.getElem?_cons_zero, List.getElem?_cons_succ, qckz, Int.reduceToNat, Int.reduceLE, true_and, and_true, reduceCtorEq, or_false, false_or, or_true, Option.some.injEq, exists_eq_left', Bool.not_true, Bool.not_false, ne_eq, Int.reduceEq, not_true_eq_false, not_false_eq_true, Int.reduceLT, UInt8.reduceLT, UInt8.reduceLE, UInt8.reduceToNat]
              exact badS _ rfl rfl rfl (by rw [hl0, hfd, if_neg hno, if_pos ⟨w5, w6⟩])
          · simp (maxSteps := 1000000) (disch := omega) only [g7, g8, g10, i1, i2, i3, i4, lc1, k1, k2, k3, k4, k5, m1, a1, s1, hR, hWk, eq_true w1, w2, decide_eq_true w4', w5, qaaz, qabz, qacz, qadz, qaez, qafz, qagz, qahz, qaiz, qajz, qakz, qalz, qamz, qanz, evOp, qaoz, qapz, qaqz, qarz, qasz, qatz, qauz, qavz,
 ↓reduceIte, Nat.reduceEqDiff, List.nil_append, List.cons_append, List.append_nil, List.map_cons, List.map_nil, qawz, qaxz, qayz, Option.map_some, Option.map_none, qazz, qbaz, qbbz, qbcz, qbdz, qbez, qbfz, qbgz, qbhz, qbiz, qbjz, qbkz, qblz, qbmz, qbnz, qboz,
 qbpz, qbqz, qbrz, qbsz, qbtz, qbuz, qbvz, qbwz, qbxz, qbyz, qbzz, qcaz, qcbz, qccz, qcdz, qcez, qcfz, qcgz, qchz, qciz, beq_true, beq_false, Bool.not_eq_true', decide_eq_true_eq, decide_eq_false_iff_not, decide_true, decide_false,
 Int.toNat_natCast, Int.ofNat_lt, Int.ofNat_le, Int.natCast_inj, Bool.false_eq_true, Bool.true_eq_false, qcjz, List.getElem?_cons_zero, List.getElem?_cons_succ, qckz, Int.reduceToNat, Int.reduceLE, true_and, and_true, reduceCtorEq, or_false, false_or, or_true, Option.some.injEq, exists_eq_left', Bool.not_true, Bool.not_false, ne_eq, Int.reduceEq, not_true_eq_false, not_false_eq_true, Int.reduceLT, UInt8.reduceLT, UInt8.reduceLE, UInt8.reduceToNat]
            exact good _ rfl rfl (by rw [← w1]; rfl) (by rw [hl0, hfd, if_neg hno, if_neg (fun h => w5 h.1)])
        · simp (maxSteps := 1000000) (disch := omega) only [g7, g8, g10, i1, i2, i3, i4, lc1, k1, k2, k3, k4, k5, m1, a1, s1, hR, hWk, eq_true w1, w2, decide_eq_false w4', qaaz, qabz, qacz, qadz, qaez, qafz, qagz, qahz, qaiz, qajz, qakz, qalz, qamz, qanz, evOp, qaoz, qapz, qaqz, qarz, qasz, qatz, qauz, qavz,
 ↓reduceIte, Nat.reduceEqDiff, List.nil_append, List.cons_append, List.append_nil, List.map_cons, List.map_nil, qawz, qaxz, qayz, Option.map_some, Option.map_none, qazz, qbaz, qbbz, qbcz, qbdz, qbez, qbfz, qbgz, qbhz, qbiz, qbjz, qbkz, qblz, qbmz, qbnz, qboz,
 qbpz, qbqz, qbrz, qbsz, qbtz, qbuz, qbvz, qbwz, qbxz, qbyz, qbzz, qcaz, qcbz, qccz, qcdz, qcez, qcfz, qcgz, qchz, qciz, beq_true, beq_false, Bool.not_eq_true', decide_eq_true_eq, decide_eq_false_iff_not, decide_true, decide_false,
 Int.toNat_natCast, Int.ofNat_lt, Int.ofNat_le, Int.natCast_inj, Bool.false_eq_true, Bool.true_eq_false, qcjz, List.getElem?_cons_zero, List.getElem?_cons_succ, qckz, Int.reduceToNat, Int.reduceLE, true_and, and_true, reduceCtorEq, or_false, false_or, or_true, Option.some.injEq, exists_eq_left', Bool.not_true, Bool.not_false, ne_eq, Int.reduceEq, not_true_eq_false, not_false_eq_true, Int.reduceLT, UInt8.reduceLT, UInt8.reduceLE, UInt8.reduceToNat]
          exact badS _ rfl rfl rfl (by rw [hl0, hfd, if_pos (.inr (.inr (.inr w4')))])
  · simp (maxSteps := 1000000) (disch := omega) only [g7, g8, g10, i1, i2, i3, i4, lc1, k1, k2, k3, k4, k5, m1, a1, s1, hR, hWk, w1, qaaz, qabz, qacz, qadz, qaez, qafz, qagz, qahz, qaiz, qajz, qakz, qalz, qamz, qanz, evOp, qaoz, qapz, qaqz, qarz, qasz, qatz, qauz, qavz,
 ↓reduceIte, Nat.reduceEqDiff, List.nil_append, List.cons_append, List.append_nil, List.map_cons, List.map_nil, qawz, qaxz, qayz, Option.map_some, Option.map_none, qazz, qbaz, qbbz, qbcz, qbdz, qbez, qbfz, qbgz, qbhz, qbiz, qbjz, qbkz, qblz, qbmz, qbnz, qboz,
 qbpz, qbqz, qbrz, qbsz, qbtz, qbuz, qbvz, qbwz, qbxz, qbyz, qbzz, qcaz, qcbz, qccz, qcdz, qcez, qcfz, qcgz, qchz, qciz, beq_true, beq_false, Bool.not_eq_true', decide_eq_true_eq, decide_eq_false_iff_not, decide_true, decide_false,
 Int.toNat_natCast, Int.ofNat_lt, Int.ofNat_le, Int.natCast_inj, Bool.false_eq_true, Bool.true_eq_false, qcjz, List.getElem?_cons_zero, List.getElem?_cons_succ, qckz, Int.reduceToNat, Int.reduceLE, true_and, and_true, reduceCtorEq, or_false, false_or, or_true, Option.some.injEq, exists_eq_left', Bool.not_true, Bool.not_false, ne_eq, Int.reduceEq, not_true_eq_false, not_false_eq_true, Int.reduceLT, UInt8.reduceLT, UInt8.reduceLE, UInt8.reduceToNat]
    exact badS _ rfl rfl rfl (by rw [hl0, hfd, if_pos (.inl w1)])

theorem law_DateParses {s : Bs} : ∃ s', call prog (.fn 264 []) [.str s] ⟨[], [], [], 0⟩ = some (.bool true, s') := by
  refine law_of_W prog_264 rfl ?_
  unfold F_posthornlaw20_DateParses; dsimp only
  have hA := call_of al20_0
  by_cases h5 : (500 : Int) < (s.length : Int)
  · simp (maxSteps := 1000000) (disch := omega) only [len_s, h5, hA, List.length_nil, qaaz, qabz, qacz, qadz, qaez, qafz, qagz, qahz, qaiz, qajz, qakz, qalz, qamz, qanz, evOp, qaoz, qapz, qaqz, qarz, qasz, qatz, qauz, qavz,
 ↓reduceIte, Nat.reduceEqDiff, List.nil_append, List.cons_append, List.append_nil, List.map_cons, List.map_nil, qawz, qaxz, qayz, Option.map_some, Option.map_none, qazz, qbaz, qbbz, qbcz, qbdz, qbez, qbfz, qbgz, qbhz, qbiz, qbjz, qbkz, qblz, qbmz, qbnz, qboz,
 qbpz, qbqz, qbrz, qbsz, qbtz, qbuz, qbvz, qbwz, qbxz, qbyz, qbzz, qcaz, qcbz, qccz, qcdz, qcez, qcfz, qcgz, qchz, qciz, beq_true, beq_false, Bool.not_eq_true', decide_eq_true_eq, decide_eq_false_iff_not, decide_true, decide_false,
 Int.toNat_natCast, Int.ofNat_lt, Int.ofNat_le, Int.natCast_inj, Bool.false_eq_true, Bool.true_eq_false, qcjz, List.getElem?_cons_zero, List.getElem?_cons_succ, qckz, Int.reduceToNat, Int.reduceLE, true_and, and_true, reduceCtorEq, or_false, false_or, or_true, Option.some.injEq, exists_eq_left', Bool.not_true, Bool.not_false, ne_eq, Int.reduceEq, not_true_eq_false, not_false_eq_true, Int.reduceLT, UInt8.reduceLT, UInt8.reduceLE, UInt8.reduceToNat]
  have p1 := fun S : St => dParse_spec (st := S) (l := s) (by omega)
  have p2 := fun S : St => rParse_spec (st := S) (l := s) (by omega)
  obtain ⟨⟨a, b, c⟩, hp⟩ : ∃ q, q = parseD s := ⟨_, rfl⟩
  rw [← hp] at p1 p2
  simp only at p1 p2
  simp (maxSteps := 1000000) (disch := omega) only [len_s, h5, p1, p2, hA, List.length_nil, qaaz, qabz, qacz, qadz, qaez, qafz, qagz, qahz, qaiz, qajz, qakz, qalz, qamz, qanz, evOp, qaoz, qapz, qaqz, qarz, qasz, qatz, qauz, qavz,
 ↓reduceIte, Nat.reduceEqDiff, List.nil_append, List.cons_append, List.append_nil, List.map_cons, List.map_nil, qawz, qaxz, qayz, Option.map_some, Option.map_none, qazz, qbaz, qbbz, qbcz, qbdz, qbez, qbfz, qbgz, qbhz, qbiz, qbjz, qbkz, qblz, qbmz, qbnz, qboz,
 qbpz, qbqz, qbrz, qbsz, qbtz, qbuz, qbvz, qbwz, qbxz, qbyz, qbzz, qcaz, qcbz, qccz, qcdz, qcez, qcfz, qcgz, qchz, qciz, beq_true, beq_false, Bool.not_eq_true', decide_eq_true_eq, decide_eq_false_iff_not, decide_true, decide_false,
 Int.toNat_natCast, Int.ofNat_lt, Int.ofNat_le, Int.natCast_inj, Bool.false_eq_true, Bool.true_eq_false, qcjz, List.getElem?_cons_zero, List.getElem?_cons_succ, qckz, Int.reduceToNat, Int.reduceLE, true_and, and_true, reduceCtorEq, or_false, false_or, or_true, Option.some.injEq, exists_eq_left', Bool.not_true, Bool.not_false, ne_eq, Int.reduceEq, not_true_eq_false, not_false_eq_true, Int.reduceLT, UInt8.reduceLT, UInt8.reduceLE, UInt8.reduceToNat]
end Go.Ab

/-
  The library's searches as primitives, out of the shelf's contracts.
-/
namespace Go.Ab
open Go.Shelf Go.Proofs
set_option linter.unusedVariables false
set_option linter.unusedSimpArgs false
variable {P : Program} {g : GMap} {ρ : Go.Shelf.Ren}

end Go.Ab

/-
  A Builder's text: the walk of the library's function, its end said whole (after the shelf's own proof).
-/
namespace Go.Proofs
open Go.Shelf Go.RowKit
set_option linter.unusedVariables false
variable {P : Program} {ρ : Ren}

set_option maxHeartbeats 2000000 in
set_option maxRecDepth 100000 in
/-- A Builder's text, and all that turns: the shelf's proof, its end turned. -/
theorem bstring_walk (L : Lays.n169 P ρ) (X : Builder.Extra P ρ) (b g cap cells : Nat) (l : List UInt8) (w : World) (h0 : l ≠ []) (hcap : l.length ≤ cap) (hcc : l.length ≤ cells) (hmax : l.length ≤ 9223372036854775807)
    (hb : w.cell? ⟨b, 1, none⟩ = some (.slice (some ⟨g, 0, none⟩) l.length cap)) (hsh : w.shape? g = some (ρ.t 5, cells)) (hcell : ∀ j x, l[j]? = some x → w.cell? ⟨g, j, none⟩ = some (.int .u8 x.toNat)) :
    Calls P (ρ.f 169) #[.pointer (some ⟨b, 0, none⟩)] w fun e w' => e = .returned (.string ⟨l.toArray⟩) ∧ w' = w.drew.freeze ⟨g, 0, none⟩ l.length := by
  have hl0 : l.length ≠ 0 := by simpa using h0
  have c1 : w.drew.cell? ⟨b, 1, none⟩ = some (.slice (some ⟨g, 0, none⟩) l.length cap) := hb
  have hSD : (Builtin.unsafeSliceData_ #[(ρ.t 37)] (ρ.t 127) #[.slice (some ⟨g, 0, none⟩) l.length cap]).run P w.drew = .ok (.pointer (some ⟨g, 0, none⟩)) w.drew :=
    Lib.run_unsafeSliceData_row _ _ _ _ _ _ (by omega)
  have hUS : (Builtin.unsafeString_ #[(ρ.t 127), (ρ.t 3)] (ρ.t 9) #[.pointer (some ⟨g, 0, none⟩), .int .i64 l.length]).run P w.drew = .ok (.string ⟨l.toArray⟩) (w.drew.freeze ⟨g, 0, none⟩ l.length) := by
    refine Lib.run_unsafeString_row w.drew (ρ.t 127) (ρ.t 3) (ρ.t 9) (ρ.t 5) L.t127 X.cellsByte g cells hsh l h0 hcc hmax ?_
    intro j x hx
    have := hcell j x hx
    simp only [Addr.add]
    split
    · rename_i h; subst h; exact this
    · simpa using this
  clear hcell hsh hb
  have mixed := L.mixed
  have t72 := L.t72; have a72 := L.a72; have z72 := L.z72; have v72 := L.v72; have u72 := run_underlying L.t72
  have t70 := L.t70; have a70 := L.a70; have z70 := L.z70; have v70 := L.v70; have u70 := run_underlying L.t70
  have t37 := L.t37; have a37 := L.a37; have z37 := L.z37; have v37 := L.v37; have u37 := run_underlying L.t37
  have t127 := L.t127; have a127 := L.a127; have z127 := L.z127; have v127 := L.v127; have u127 := run_underlying L.t127
  have t3 := L.t3; have a3 := L.a3; have z3 := L.z3; have v3 := L.v3; have u3 := run_underlying L.t3
  have t9 := L.t9; have a9 := L.a9; have z9 := L.z9; have v9 := L.v9; have u9 := run_underlying L.t9
  have t5 := X.t5; have a5 := X.a5; have z5 := X.z5; have v5 := X.v5; have u5 := run_underlying X.t5
  go_enter L.f169, Body.n169_ntmps ρ
  go_wp2
  go_region_o
  all_goals (go_wp2; go_ret; exact ⟨rfl, rfl⟩)

set_option maxHeartbeats 2000000 in
set_option maxRecDepth 100000 in
theorem bstring_nil (L : Lays.n169 P ρ) (X : Builder.Extra P ρ) (b : Nat) (w : World) (hb : w.cell? ⟨b, 1, none⟩ = some (.slice none 0 0)) :
    Calls P (ρ.f 169) #[.pointer (some ⟨b, 0, none⟩)] w fun e w' => e = .returned (.string ⟨#[]⟩) ∧ w' = w.drew := by
  have hUS := Any.unsafeString_none L X
  have hSD : (Builtin.unsafeSliceData_ #[(ρ.t 37)] (ρ.t 127) #[.slice none 0 0]).run P w.drew = .ok (.pointer none) w.drew := rfl
  have c1 : w.drew.cell? ⟨b, 1, none⟩ = some (.slice none 0 0) := hb
  have mixed := L.mixed
  have t72 := L.t72; have a72 := L.a72; have z72 := L.z72; have v72 := L.v72; have u72 := run_underlying L.t72
  have t70 := L.t70; have a70 := L.a70; have z70 := L.z70; have v70 := L.v70; have u70 := run_underlying L.t70
  have t37 := L.t37; have a37 := L.a37; have z37 := L.z37; have v37 := L.v37; have u37 := run_underlying L.t37
  have t127 := L.t127; have a127 := L.a127; have z127 := L.z127; have v127 := L.v127; have u127 := run_underlying L.t127
  have t3 := L.t3; have a3 := L.a3; have z3 := L.z3; have v3 := L.v3; have u3 := run_underlying L.t3
  have t9 := L.t9; have a9 := L.a9; have z9 := L.z9; have v9 := L.v9; have u9 := run_underlying L.t9
  have t5 := X.t5; have a5 := X.a5; have z5 := X.z5; have v5 := X.v5; have u5 := run_underlying X.t5
  go_enter L.f169, Body.n169_ntmps ρ
  go_wp2
  go_region_o
  all_goals (go_wp2; go_ret; exact ⟨rfl, rfl⟩)

/-- What copyCheck names. -/
structure CCLay (P : Program) (ρ : Ren) : Prop where
  mixed : P.follows .mixedOrders = true
  f240 : P.funcs[ρ.f 240]? = some (Body.n240 ρ)
  f276 : P.funcs[ρ.f 276]? = some (Body.n276 ρ)
  t4 : P.underlying (ρ.t 4) = some (TypeDesc.bool)
  a4 : ∀ w, (isAgg (ρ.t 4)).run P w = .ok false w
  z4 : ∀ w, (Go.sizeOf (ρ.t 4)).run P w = .ok 1 w
  v4 : ∀ w, (zeroValue (ρ.t 4)).run P w = .ok (Value.bool false) w
  t70 : P.underlying (ρ.t 70) = some (TypeDesc.pointer (ρ.t 72))
  a70 : ∀ w, (isAgg (ρ.t 70)).run P w = .ok false w
  z70 : ∀ w, (Go.sizeOf (ρ.t 70)).run P w = .ok 1 w
  v70 : ∀ w, (zeroValue (ρ.t 70)).run P w = .ok (Value.pointer none) w
  t72 : P.underlying (ρ.t 72) = some (TypeDesc.struct #[{ name := "addr", type := ρ.t 70, offset := 0, embedded := false, tag := "", pkgPath := "strings", byteOffset := 0 }, { name := "buf", type := ρ.t 37, offset := 1, embedded := false, tag := "", pkgPath := "strings", byteOffset := 8 }])
  a72 : ∀ w, (isAgg (ρ.t 72)).run P w = .ok true w
  z72 : ∀ w, (Go.sizeOf (ρ.t 72)).run P w = .ok 2 w
  v72 : ∀ w, (zeroValue (ρ.t 72)).run P w = .ok (Value.agg #[Value.pointer none, Value.slice none 0 0]) w
  t164 : P.underlying (ρ.t 164) = some (TypeDesc.unsafePointer)
  a164 : ∀ w, (isAgg (ρ.t 164)).run P w = .ok false w
  z164 : ∀ w, (Go.sizeOf (ρ.t 164)).run P w = .ok 1 w
  v164 : ∀ w, (zeroValue (ρ.t 164)).run P w = .ok (Value.pointer none) w

set_option maxHeartbeats 1000000 in
set_option maxRecDepth 100000 in
/-- copyCheck at a builder that has been used: nothing turns (after the shelf's proof). -/
theorem cc_used (L : CCLay P ρ) (X : Builder.X72 P ρ) (b : Nat) (w : World) (h0 : w.cell? ⟨b, 0, none⟩ = some (.pointer (some ⟨b, 0, none⟩))) :
    Calls P (ρ.f 240) #[.pointer (some ⟨b, 0, none⟩)] w fun e w' => e = .returned (.tuple #[]) ∧ w' = w := by
  obtain ⟨j, hj, _⟩ := Option.map_eq_some_iff.1 X.sizeBuilder
  have mixed := L.mixed
  have t72 := L.t72; have a72 := L.a72; have z72 := L.z72; have v72 := L.v72; have u72 := run_underlying L.t72
  have t70 := L.t70; have a70 := L.a70; have z70 := L.z70; have v70 := L.v70; have u70 := run_underlying L.t70
  have t4 := L.t4; have a4 := L.a4; have z4 := L.z4; have v4 := L.v4; have u4 := run_underlying L.t4
  have t164 := L.t164; have a164 := L.a164; have z164 := L.z164; have v164 := L.v164; have u164 := run_underlying L.t164
  go_enter L.f240, Body.n240_ntmps ρ
  go_wp2
  rw [Lib.run_neq_ptr_same w _ L.t70 hj]
  go_wp2
  go_end0
  exact ⟨rfl, rfl⟩

set_option maxHeartbeats 1000000 in
set_option maxRecDepth 100000 in
/-- copyCheck at a fresh builder: it stores its own address (after the shelf's proof). -/
theorem cc_fresh (L : CCLay P ρ) (X : Builder.X72 P ρ) (b : Nat) (w : World) (h0 : w.cell? ⟨b, 0, none⟩ = some (.pointer none)) (hsh : w.shape? b = some ((ρ.t 72), 2)) (hfz : w.frozen? ⟨b, 0, none⟩ = false) :
    Calls P (ρ.f 240) #[.pointer (some ⟨b, 0, none⟩)] w fun e w' => e = .returned (.tuple #[]) ∧ w' = w.setCell ⟨b, 0, none⟩ (.pointer (some ⟨b, 0, none⟩)) := by
  obtain ⟨j, hj, hjs⟩ := Option.map_eq_some_iff.1 X.sizeBuilder
  have mixed := L.mixed
  have t72 := L.t72; have a72 := L.a72; have z72 := L.z72; have v72 := L.v72; have u72 := run_underlying L.t72
  have t70 := L.t70; have a70 := L.a70; have z70 := L.z70; have v70 := L.v70; have u70 := run_underlying L.t70
  have t4 := L.t4; have a4 := L.a4; have z4 := L.z4; have v4 := L.v4; have u4 := run_underlying L.t4
  have t164 := L.t164; have a164 := L.a164; have z164 := L.z164; have v164 := L.v164; have u164 := run_underlying L.t164
  go_enter L.f240, Body.n240_ntmps ρ
  go_wp2
  rw [Lib.run_to_unsafe w ⟨b, 0, none⟩ L.t70 L.t164 hj (by rw [hjs]; decide) hsh (Nat.zero_lt_succ 1)]
  simp only [Result.andThen]
  rw [Oper.upon_value]
  go_wp2
  rw [run_callFunc_extern L.f276 (by kernel_rfl) (by kernel_rfl) (by kernel_rfl) (e := Extern.AbiNoEscape.same) (by kernel_rfl)]
  rw [Lib.run_noEscape]
  simp only [Result.andThen]
  rw [Oper.upon_value]
  go_wp2
  rw [Lib.run_from_unsafe w ⟨b, 0, none⟩ L.t164 L.t70 hj hsh X.liesBuilder]
  simp only [Result.andThen]
  rw [Oper.upon_value]
  go_wp2
  go_end0
  exact ⟨rfl, rfl⟩
end Go.Proofs

/-
  The library's functions on texts as primitives, out of the shelf's contracts.
-/
namespace Go.Ab
open Go.Shelf Go.Proofs
set_option linter.unusedVariables false
set_option linter.unusedSimpArgs false
variable {P : Program} {g : GMap} {ρ : Go.Shelf.Ren}

theorem primStrIndex (L : Lays.n219 P ρ) (hm : ∀ κ, g.inv κ → ∃ m, κ.C (ρ.g 1) 0 = some (.int .i64 m)) {pf : Func} (hpf : P.funcs[ρ.f 219]? = some pf) (hb : pf.body.isSome = true) (hn : pf.name ≠ "runtime.NumGoroutine") : PrimOK P g (ρ.f 219) pStrIndex := by
  refine prim_of_calls hpf hb hn (fun κ w args ps v hi hC hsz hargs hp => ?_)
  obtain ⟨m, hm⟩ := hm κ hi
  have hmc := hC _ _ _ hm
  unfold pStrIndex at hp
  split at hp
  · rename_i a b
    split at hp
    · rename_i hlen
      cases hp
      obtain ⟨u1, u2, rfl⟩ : ∃ u1 u2, args = #[u1, u2] := by
        obtain ⟨l⟩ := args
        match l, hsz with
        | [u1, u2], _ => exact ⟨u1, u2, rfl⟩
      have r1 := hargs 0 u1 _ rfl rfl
      have r2 := hargs 1 u2 _ rfl rfl
      cases r1 with | str sa _ ha => cases r2 with | str sb _ hb =>
      refine (Any.stringslite_Index L sa sb m w (by rw [← ha] at hlen; simpa using hlen) hmc).mono ?_
      rintro e w' ⟨rfl, rfl⟩
      exact ⟨_, rfl, fun κ' => by rw [ha, hb]; exact .int .i64 _ (by decide), rfl, rfl, rfl, rfl⟩
    · cases hp
  · cases hp

theorem primStrIndexByte (L : Lays.n137 P ρ) {pf : Func} (hpf : P.funcs[ρ.f 137]? = some pf) (hb : pf.body.isSome = true) (hn : pf.name ≠ "runtime.NumGoroutine") : PrimOK P g (ρ.f 137) pStrIndexByte := by
  refine prim_of_calls hpf hb hn (fun κ w args ps v hi hC hsz hargs hp => ?_)
  unfold pStrIndexByte at hp
  split at hp
  · rename_i a c
    cases hp
    obtain ⟨u1, u2, rfl⟩ : ∃ u1 u2, args = #[u1, u2] := by
      obtain ⟨l⟩ := args
      match l, hsz with
      | [u1, u2], _ => exact ⟨u1, u2, rfl⟩
    have r1 := hargs 0 u1 _ rfl rfl
    have r2 := hargs 1 u2 _ rfl rfl
    cases r1 with | str sa _ ha => cases r2 with | b8 _ n hn =>
    refine (Any.strings_IndexByte L sa n w).mono ?_
    rintro e w' ⟨rfl, rfl⟩
    refine ⟨_, rfl, fun κ' => ?_, rfl, rfl, rfl, rfl⟩
    have : n.toNat.toUInt8 = c := by rw [hn]; simp
    rw [ha, this]; exact .int .i64 _ (by decide)
  · cases hp

/-- A primitive that may put a cell, out of a contract. -/
theorem primS_of_calls {f' : FuncId} {p : List PV → List (List PV) → Option (PV × Upd)} {pf : Func} (hpf : P.funcs[f']? = some pf) (hb : pf.body.isSome = true) (hn : pf.name ≠ "runtime.NumGoroutine")
    (h : ∀ (base : Nat) (κ : K) (w : World) (st : St) (args : Array Value) (ps : List PV) (v : PV) (u : Upd) (st' : St), SR P g base κ w st → args.size = ps.length → (∀ (i : Nat) (u : Value) (q : PV), args[i]? = some u → ps[i]? = some q → R g κ u q) → p ps st.boxes = some (v, u) → updS st u = some st' →
      Calls P f' args w fun e w' => ∃ z, e = .returned z ∧ R g κ z v ∧ SR P g base κ w' st' ∧ Fr base κ.lam w w') : PrimSOK P g f' p := by
  intro base κ w st args ps v u st' hsr hsz hargs hp hu F hF nn o a next Q hnext
  have hrun : (callFunc f' args).run P w = .ok (.enter f' args) w := by
    have hb2 : pf.body.isNone = false := by
      cases hbb : pf.body with
      | none => rw [hbb] at hb; cases hb
      | some c => rfl
    have hn2 : (pf.name == "runtime.NumGoroutine") = false := by simpa using hn
    unfold callFunc
    simp only [Sem.run_bind, Go.program, Sem.run, Result.andThen, hpf, hn2, hb2]
    rfl
  rw [hrun]
  refine ⟨hF.deep, callsIn_of_calls hF ?_⟩
  refine (h base κ w st args ps v u st' hsr hsz hargs hp hu).mono ?_
  rintro e w' ⟨z, rfl, hz, hs, hf⟩
  exact hnext κ z w' (K.le.refl κ) rfl hs hz hf

theorem setCell_eq {w : World} {blk off : Nat} {v : Value} {rs : Array Value} {el : TypeId} {fz : Nat × Nat} (hw : w.heap[blk]? = some (.cells rs el fz)) : w.setCell ⟨blk, off, none⟩ v = setBlk w blk (setA rs off [v]) el fz := by
  have hlt := (Array.getElem?_eq_some_iff.1 hw).1
  simp only [World.setCell, setBlk]
  congr 1
  apply Array.ext_getElem?
  intro j
  rw [Array.getElem?_modify]
  by_cases hj : blk = j
  · subst hj
    rw [if_pos rfl, hw]
    simp [hlt, setA]
  · rw [if_neg hj, Array.getElem?_setIfInBounds_ne hj]

theorem primCopyCheck (L : CCLay P ρ) (X : Builder.X72 P ρ) (htB : g.tB = ρ.t 72) {pf : Func} (hpf : P.funcs[ρ.f 240]? = some pf) (hb : pf.body.isSome = true) (hn : pf.name ≠ "runtime.NumGoroutine") : PrimSOK P g (ρ.f 240) pCopyCheck := by
  refine primS_of_calls hpf hb hn (fun base κ w st args ps v u st' hsr hsz hargs hp hu => ?_)
  unfold pCopyCheck at hp
  split at hp
  · rename_i bs b
    obtain ⟨u1, rfl⟩ : ∃ u1, args = #[u1] := by
      obtain ⟨l⟩ := args
      match l, hsz with
      | [u1], _ => exact ⟨u1, rfl⟩
    have r1 := hargs 0 u1 _ rfl rfl
    cases r1 with | ptr _ _ blk hφ =>
    split at hp
    · -- fresh
      rename_i x hbx
      simp only [Option.some.injEq, Prod.mk.injEq] at hp
      obtain ⟨rfl, rfl⟩ := hp
      have hB := hsr.bx b blk _ hbx hφ
      obtain ⟨rs, ⟨el, lo, hi, hw, hf⟩, hl, hr⟩ := hB.ex
      obtain ⟨v0, h0, hr0⟩ := hr 0 .bslot rfl
      cases hr0
      have hsh := hB.sb (by simp)
      rw [htB] at hsh
      have hc0 : w.cell? ⟨blk, 0, none⟩ = some (.pointer none) := by simp [World.cell?, hw, h0]
      have hrs : rs.size = 2 := by
        simp only [World.shape?, hw, Option.some.injEq, Prod.mk.injEq] at hsh; exact hsh.2
      have hfz : w.frozen? ⟨blk, 0, none⟩ = false := by
        simp only [World.frozen?, hw, Bool.and_eq_false_iff, decide_eq_false_iff_not]
        rcases hf with h | h
        · subst h; omega
        · left; omega
      refine (cc_fresh L X blk w hc0 hsh hfz).mono ?_
      rintro e w' ⟨rfl, rfl⟩
      -- the store's own law
      have hst : storePV st 1 (.ptr b 0) (.ptr b 0) = some st' := hu
      simp only [storePV, hbx] at hst
      split at hst
      · cases hst
        refine ⟨_, rfl, .tup #[] [] rfl rfl (fun i v p a => by simp at a), ?_, ?_⟩
        · rw [setCell_eq hw]
          have := hsr.setBox (rs' := setA rs 0 [.pointer (some ⟨blk, 0, none⟩)]) (cs' := setCells [.bslot, x] 0 [.ptr b 0]) (if hasTok [PV.ptr b 0] then min st.low b else st.low) hbx hφ hw hf (setA_size _ _ _) (by rw [setCells_length]; exact hl) (fun i c hc => ?_) ?_ (fun c hc => ?_) (fun hm => ?_)
          · exact this
          · simp only [setCells, List.set_cons_zero] at hc
            match i with
            | 0 =>
              simp at hc; subst hc
              exact ⟨.pointer (some ⟨blk, 0, none⟩), by simp [setA, hrs], .ptr b 0 blk hφ⟩
            | i + 1 =>
              have hc' : [PV.bslot, x][i + 1]? = some c := by simpa using hc
              obtain ⟨v1, h1, hr1⟩ := hr (i + 1) c hc'
              refine ⟨v1, ?_, hr1⟩
              simp [setA]; exact h1
          · have := hB.lf
            simp only [setCells, List.set_cons_zero, List.all_cons, leafB] at this ⊢
            simpa using this
          · simp only [setCells, List.set_cons_zero, List.mem_cons, List.not_mem_nil, or_false] at hc
            rcases hc with rfl | rfl
            · simp [PV.inB]
            · exact hB.lw _ (by simp)
          · simp
        · rw [setCell_eq hw]
          exact Fr.setBlk hw hB.ge
      · cases hst
    · -- used
      rename_i b' x hbx
      split at hp
      · rename_i hbb
        subst hbb
        simp only [Option.some.injEq, Prod.mk.injEq] at hp
        obtain ⟨rfl, rfl⟩ := hp
        simp only [updS, Option.some.injEq] at hu
        subst hu
        have hB := hsr.bx b' blk _ hbx hφ
        obtain ⟨rs, ⟨el, lo, hi, hw, hf⟩, hl, hr⟩ := hB.ex
        obtain ⟨v0, h0, hr0⟩ := hr 0 _ rfl
        cases hr0 with | ptr _ _ blk' hφ' =>
        rw [hφ] at hφ'; cases hφ'
        have hc0 : w.cell? ⟨blk, 0, none⟩ = some (.pointer (some ⟨blk, 0, none⟩)) := by simp [World.cell?, hw, h0]
        refine (cc_used L X blk w hc0).mono ?_
        rintro e w' ⟨rfl, rfl⟩
        exact ⟨_, rfl, .tup #[] [] rfl rfl (fun i v p a => by simp at a), hsr, Fr.refl _ _⟩
      · cases hp
    · cases hp
  · cases hp


/-- A room that is nobody's more: its row may be frozen. -/
theorem SR.kill {base : Nat} {κ : K} {w w' : World} {st : St} (h : SR P g base κ w st) {i blk e ce : Nat} {rs : Array Value} {el : TypeId} {fz fz' : Nat × Nat} (hi : st.toks[i]? = some true) (hτ : κ.τ[i]? = some (blk, e, ce))
    (hw : w.heap[blk]? = some (.cells rs el fz)) (hw' : w'.heap = (setBlk w blk rs el fz').heap) : SR P g base κ w' { st with toks := st.toks.set i false } := by
  have hk := h.tk i blk e ce hi hτ
  suffices hs : SR P g base κ (setBlk w blk rs el fz') { st with toks := st.toks.set i false } from hs.heap hw'
  have hcell : ∀ b i, (setBlk w blk rs el fz').cell? ⟨b, i, none⟩ = w.cell? ⟨b, i, none⟩ := fun b i => by
    by_cases hb : b = blk
    · subst hb
      have hlt := (Array.getElem?_eq_some_iff.1 hw).1
      have h2 : (setBlk w b rs el fz').heap[b]? = some (.cells rs el fz') := by simp [setBlk, hlt]
      simp only [World.cell?]
      rw [h2, hw]
    · exact cell_setBlk_other hb
  have hobj : ∀ (k : Nat) (o : Obj), w.heap[k]? = some o → isCells o = false → (setBlk w blk rs el fz').heap[k]? = some o := fun k o ho hc => by
    rw [setBlk_other]
    · exact ho
    · rintro rfl; rw [hw] at ho; cases ho; simp [isCells] at hc
  have hset : ∀ j : Nat, (st.toks.set i false)[j]? = some true → st.toks[j]? = some true ∧ j ≠ i := fun j hj => by
    by_cases hji : j = i
    · subst hji
      rw [List.getElem?_set] at hj
      simp at hj
    · rw [List.getElem?_set_ne (fun h => hji h.symm)] at hj
      exact ⟨hj, hji⟩
  refine { cC := fun b i v hc => by rw [hcell]; exact h.cC b i v hc, sh := fun b t hb => (h.sh b t hb).imp fun n hn => (by rw [shape_setBlk hw rfl]; exact hn), bl := h.bl, bn := h.bn, bx := fun b k cs h1 h2 => ?_, tl := by simp [h.tl], tk := fun j k e ce h1 h2 => ?_,
           td := fun a b ba ea ca bb eb cb h1 h2 h3 h4 h5 => h.td a b ba ea ca bb eb cb (hset a h1).1 (hset b h2).1 h3 h4 h5, ll := h.ll, ln := h.ln, lb := h.lb, lp := fun k l D r h1 h2 => (h.lp k l D r h1 h2).mono (K.le.refl _) hobj, hb := by simpa [setBlk] using h.hb, gv := h.gv }
  · have hx := h.bx b k cs h1 h2
    have hne : k ≠ blk := by rintro rfl; exact hk.nb (List.mem_of_getElem? h2)
    obtain ⟨rs', hc, h3, h4⟩ := hx.ex
    exact ⟨hx.ge, hx.nc, ⟨rs', hc.congr (setBlk_other hne), h3, h4⟩, hx.lf, hx.lw, fun hm => by rw [← hx.sb hm]; exact shape_congr (setBlk_other hne)⟩
  · obtain ⟨q1, q2⟩ := hset j h1
    have hx := h.tk j k e ce q1 h2
    have hne : k ≠ blk := h.td j i k e ce blk _ _ q1 hi h2 hτ q2
    obtain ⟨rs', hc, h3⟩ := hx.ex
    exact ⟨hx.ge, hx.nb, hx.nc, ⟨rs', hc.congr (setBlk_other hne), h3⟩⟩

theorem primBuilderString (L : Lays.n169 P ρ) (X : Builder.Extra P ρ) (htU : g.tU = ρ.t 5) {pf : Func} (hpf : P.funcs[ρ.f 169]? = some pf) (hb : pf.body.isSome = true) (hn : pf.name ≠ "runtime.NumGoroutine") : PrimSOK P g (ρ.f 169) pBuilderString := by
  refine primS_of_calls hpf hb hn (fun base κ w st args ps v u st' hsr hsz hargs hp hu => ?_)
  unfold pBuilderString at hp
  split at hp
  · rename_i bs b
    obtain ⟨u1, rfl⟩ : ∃ u1, args = #[u1] := by
      obtain ⟨l⟩ := args
      match l, hsz with
      | [u1], _ => exact ⟨u1, rfl⟩
    have r1 := hargs 0 u1 _ rfl rfl
    cases r1 with | ptr _ _ blk hφ =>
    split at hp
    · -- nothing was written
      rename_i c0 hbx
      simp only [Option.some.injEq, Prod.mk.injEq] at hp
      obtain ⟨rfl, rfl⟩ := hp
      simp only [updS, Option.some.injEq] at hu
      subst hu
      have hB := hsr.bx b blk _ hbx hφ
      obtain ⟨rs, ⟨el, lo, hi, hw, hf⟩, hl, hr⟩ := hB.ex
      obtain ⟨v0, h0, hr0⟩ := hr 1 .nils rfl
      cases hr0
      have hc : w.cell? ⟨blk, 1, none⟩ = some (.slice none 0 0) := by simp [World.cell?, hw, h0]
      refine (bstring_nil L X blk w hc).mono ?_
      rintro e w' ⟨rfl, rfl⟩
      exact ⟨_, rfl, .str _ _ rfl, hsr.heap rfl, Fr.same rfl rfl rfl rfl⟩
    · rename_i c0 i l hbx
      split at hp
      · cases hp
      · rename_i hne0
        obtain ⟨hne, hrm⟩ : l ≠ [] ∧ l.length ≤ room := by simpa [not_or] using hne0
        simp only [Option.some.injEq, Prod.mk.injEq] at hp
        obtain ⟨rfl, rfl⟩ := hp
        simp only [updS] at hu
        split at hu
        · rename_i hti
          cases hu
          have hB := hsr.bx b blk _ hbx hφ
          obtain ⟨rs, ⟨el, lo, hi, hw, hf⟩, hl, hr⟩ := hB.ex
          obtain ⟨v0, h0, hr0⟩ := hr 1 _ rfl
          cases hr0 with
          | bys blk' off n c _ _ hn2 hc hbb ht hz =>
            obtain ⟨rfl, hS⟩ := hz i rfl
            subst hn2
            obtain ⟨n', hsh⟩ := hsr.sh blk' _ hS
            obtain ⟨e', ce, hτ, hroom⟩ := ht
            have hTK := hsr.tk i blk' e' ce hti hτ
            obtain ⟨rs', ⟨el', lo', hi', hw', hf'⟩, hce⟩ := hTK.ex
            have hn' : n' = rs'.size ∧ el' = g.tU := by
              simp only [World.shape?, hw', Option.some.injEq, Prod.mk.injEq] at hsh
              exact ⟨hsh.2.symm, hsh.1⟩
            have hcl : ∀ j x, l[j]? = some x → w.cell? ⟨blk', j, none⟩ = some (.int .u8 x.toNat) := fun j x hx => by
              have := hsr.cC _ _ _ (hbb j x hx)
              simpa using this
            have hcells : l.length ≤ n' := by
              rcases Nat.lt_or_ge n' l.length with h1 | h1
              · exfalso
                have h2 := hcl n' l[n'] (by simp [h1])
                simp only [World.cell?, hw'] at h2
                simp [hn'.1] at h2
              · exact h1
            have hmax : l.length ≤ 9223372036854775807 := by have e : room = 68719476736 := rfl; omega
            have hcell : w.cell? ⟨blk, 1, none⟩ = some (.slice (some ⟨blk', 0, none⟩) l.length c) := by simp [World.cell?, hw, h0]
            refine (bstring_walk L X blk blk' c n' l w hne hc hcells hmax hcell (by rw [hsh, htU]) hcl).mono ?_
            rintro e w1 ⟨rfl, rfl⟩
            have hlt := (Array.getElem?_eq_some_iff.1 hw').1
            have hfr : ∃ fz, (w.drew.freeze ⟨blk', 0, none⟩ l.length).heap = (setBlk w blk' rs' el' fz).heap := by
              refine ⟨if lo' == hi' then (0, 0 + l.length) else (min lo' 0, max hi' (0 + l.length)), ?_⟩
              simp only [World.freeze, setBlk, World.drew]
              rw [if_neg (by simpa using hne)]
              apply Array.ext_getElem?
              intro j
              rw [Array.getElem?_modify]
              by_cases hj : blk' = j
              · subst hj; rw [if_pos rfl, hw']; simp [hlt]
              · rw [if_neg hj, Array.getElem?_setIfInBounds_ne hj]
            obtain ⟨fz, hfr⟩ := hfr
            refine ⟨_, rfl, .str _ _ rfl, hsr.kill hti hτ hw' hfr, ?_⟩
            refine Fr.of ⟨?_, ?_, ?_, ?_, fun k hk => ?_⟩ fun k o ho hc => ?_
            · simp only [World.freeze]; split <;> rfl
            · simp only [World.freeze]; split <;> rfl
            · simp only [World.freeze]; split <;> rfl
            · rw [hfr]; simp [setBlk]
            · rw [hfr]; exact setBlk_other (by have := hTK.ge; omega)
            · rw [hfr, setBlk_other]
              · exact ho
              · rintro rfl; rw [hw'] at ho; cases ho; simp [isCells] at hc
        · cases hu
    · cases hp
  · cases hp
end Go.Ab

/-
  strings.Split as a primitive: a new row of texts.
-/
namespace Go.Ab
open Go.Shelf Go.Proofs
set_option linter.unusedVariables false
set_option linter.unusedSimpArgs false
variable {P : Program} {g : GMap} {ρ : Go.Shelf.Ren} {base : Nat}

/-- A primitive that lays one new row of values, out of a contract. -/
theorem prim_of_lays {f' : FuncId} {p : List PV → Option PV} {pf : Func} (hpf : P.funcs[f']? = some pf) (hb : pf.body.isSome = true) (hn : pf.name ≠ "runtime.NumGoroutine")
    (h : ∀ (κ : K) (w : World) (args : Array Value) (ps : List PV) (v : PV), g.inv κ → (∀ b i v, κ.C b i = some v → w.cell? ⟨b, i, none⟩ = some v) → args.size = ps.length → (∀ (i : Nat) (u : Value) (q : PV), args[i]? = some u → ps[i]? = some q → R g κ u q) → p ps = some v →
      ∃ (z : Value) (rs : Array Value) (el : TypeId), Calls P f' args w (fun e w' => e = .returned z ∧ w' = w.alloc (.cells rs el)) ∧ R g (κ.addC w.heap.size fun i => rs[i]?) z v) : PrimOK P g f' p := by
  intro base κ w st args ps v hsr hsz hargs hp F hF nn o a next Q hnext
  have hrun : (callFunc f' args).run P w = .ok (.enter f' args) w := by
    have hb2 : pf.body.isNone = false := by
      cases hbb : pf.body with
      | none => rw [hbb] at hb; cases hb
      | some c => rfl
    have hn2 : (pf.name == "runtime.NumGoroutine") = false := by simpa using hn
    unfold callFunc
    simp only [Sem.run_bind, Go.program, Sem.run, Result.andThen, hpf, hn2, hb2]
    rfl
  rw [hrun]
  refine ⟨hF.deep, callsIn_of_calls hF ?_⟩
  obtain ⟨z, rs, el, hc, hr⟩ := h κ w args ps v hsr.gv hsr.cC hsz hargs hp
  refine hc.mono ?_
  rintro e w' ⟨rfl, rfl⟩
  obtain ⟨hle, hs⟩ := hsr.addC (w' := w.alloc (.cells rs el)) rs el (0, 0) rfl
  exact hnext _ z _ hle rfl hs hr (Fr.push hsr.hb rfl rfl rfl rfl)

/-! ### The parts are the shelf's -/
theorem occ_one {c : UInt8} {s : List UInt8} {j : Nat} : Lib.occAt s [c] j = true → s[j]? = some c := fun h => Lib.occAt_head rfl h
theorem index_one_cases (c : UInt8) (s : List UInt8) : (c ∉ s ∧ Lib.index s [c] = -1) ∨ ∃ n r, s = n ++ c :: r ∧ c ∉ n ∧ Lib.index s [c] = n.length := by
  rcases Lib.index_spec s [c] with ⟨h1, h2⟩ | ⟨i, h1, h2, h3, h4⟩
  · refine .inl ⟨fun hm => ?_, h1⟩
    obtain ⟨j, hj, e⟩ := List.mem_iff_getElem.1 hm
    have := h2 j (by omega)
    rw [Lib.occAt_iff_take _ _ _ (by simp; omega)] at this
    rw [List.drop_eq_getElem_cons hj] at this
    simp [e] at this
  · have hi := occ_one h3
    have hlt := (List.getElem?_eq_some_iff.1 hi).1
    have he := (List.getElem?_eq_some_iff.1 hi).2
    refine .inr ⟨s.take i, s.drop (i + 1), ?_, fun hm => ?_, ?_⟩
    · rw [← he, ← List.drop_eq_getElem_cons hlt, List.take_append_drop]
    · obtain ⟨j, hj, e⟩ := List.mem_iff_getElem.1 hm
      simp only [List.length_take] at hj
      simp only [List.getElem_take] at e
      have := h4 j (by omega)
      rw [Lib.occAt_iff_take _ _ _ (by simp; omega)] at this
      rw [List.drop_eq_getElem_cons (show j < s.length by omega)] at this
      simp [e] at this
    · rw [h1]; simp; omega
theorem splitOn_none {c : UInt8} : ∀ (n acc : List UInt8), c ∉ n → splitOn c acc n = [acc ++ n] := by
  intro n
  induction n with
  | nil => intro acc _; simp [splitOn]
  | cons d n ih =>
    intro acc h
    simp only [List.mem_cons, not_or] at h
    rw [splitOn, if_neg (fun e => h.1 e.symm), ih _ h.2]; simp
theorem splitOn_hit {c : UInt8} {r : List UInt8} : ∀ (n acc : List UInt8), c ∉ n → splitOn c acc (n ++ c :: r) = (acc ++ n) :: splitOn c [] r := by
  intro n
  induction n with
  | nil => intro acc _; simp [splitOn]
  | cons d n ih =>
    intro acc h
    simp only [List.mem_cons, not_or] at h
    rw [List.cons_append, splitOn, if_neg (fun e => h.1 e.symm), ih _ h.2]; simp
theorem splitK_on {c : UInt8} : ∀ (f : Nat) (s : List UInt8), s.length < f → Lib.splitK [c] 0 (Lib.countFrom [c] f s) s = splitOn c [] s := by
  intro f
  induction f with
  | zero => intro s h; omega
  | succ f ih =>
    intro s h
    rcases index_one_cases c s with ⟨h1, h2⟩ | ⟨n, r, h1, h2, h3⟩
    · rw [splitOn_none s [] h1]
      simp [Lib.countFrom, h2, Lib.splitK]
    · have hne : (Lib.index s [c] == -1) = false := by rw [h3, beq_eq_false_iff_ne]; omega
      have hd : s.drop (n.length + 1) = r := by rw [h1, ← List.drop_drop, List.drop_left]; rfl
      have ht : s.take n.length = n := by rw [h1, List.take_left]
      have hc : Lib.countFrom [c] (f + 1) s = Lib.countFrom [c] f r + 1 := by
        simp only [Lib.countFrom, hne]
        rw [h3]
        simp only [Int.toNat_natCast, List.length_singleton, hd]
        simp; omega
      have hl := congrArg List.length h1
      simp only [List.length_append, List.length_cons] at hl
      rw [hc, Lib.splitK, hne, h3]
      simp only [Int.toNat_natCast, List.length_singleton, Nat.add_zero, ht, hd]
      rw [ih r (by omega), h1, splitOn_hit n [] h2]
      simp
theorem primStrSplit (L : Lays.n146 P ρ) (hi9 : (P.info? (ρ.t 9)).map (fun i => (i.zero, i.size, i.bytes)) = some (some (.string ByteArray.empty), 1, 16)) (hm : ∀ κ, g.inv κ → ∃ m, κ.C (ρ.g 1) 0 = some (.int .i64 m)) {pf : Func} (hpf : P.funcs[ρ.f 146]? = some pf) (hb : pf.body.isSome = true) (hn : pf.name ≠ "runtime.NumGoroutine") : PrimOK P g (ρ.f 146) pStrSplit := by
  refine prim_of_lays hpf hb hn (fun κ w args ps v hi hC hsz hargs hp => ?_)
  obtain ⟨m, hm⟩ := hm κ hi
  have hmc := hC _ _ _ hm
  unfold pStrSplit at hp
  split at hp
  · rename_i a c
    split at hp
    · rename_i hlen
      cases hp
      obtain ⟨u1, u2, rfl⟩ : ∃ u1 u2, args = #[u1, u2] := by
        obtain ⟨l⟩ := args
        match l, hsz with
        | [u1, u2], _ => exact ⟨u1, u2, rfl⟩
      have r1 := hargs 0 u1 _ rfl rfl
      have r2 := hargs 1 u2 _ rfl rfl
      cases r1 with | str sa _ ha => cases r2 with | str sb _ hb2 =>
      have hsa : sa.size = a.length := by rw [← ha]; simp
      have hsb : sb.size = 1 := by
        have := congrArg List.length hb2
        simpa using this
      refine ⟨_, _, _, Any.strings_Split L hi9 sa sb m w (by omega) hmc (by omega), ?_⟩
      -- the pieces
      obtain ⟨bs, hbs⟩ : ∃ bs, bs = Lib.splitB sb 0 (Lib.countB sa sb) sa := ⟨_, rfl⟩
      have hdat : bs.map (·.data.toList) = splitOn c [] a := by
        rw [hbs, Lib.splitB_data, hb2, ha]
        have hcnt : Lib.countB sa sb = Lib.countFrom [c] (a.length + 1) a := by
          show Lib.count sa.data.toList sb.data.toList = _
          rw [hb2, ha]; rfl
        rw [hcnt]
        exact splitK_on _ _ (by omega)
      have hlenb : bs.length = Lib.countB sa sb + 1 := by rw [hbs]; exact Lib.splitB_all sb (by omega) 0 _ sa rfl
      have hlen2 : (splitOn c [] a).length = bs.length := by rw [← hdat]; simp
      rw [← hbs, ← hlenb]
      have hflat : flat ((splitOn c [] a).map PV.str) = (splitOn c [] a).map PV.str := by
        generalize splitOn c [] a = xs
        induction xs with
        | nil => rfl
        | cons x xs ih => simp only [List.map_cons, flat, List.flatMap_cons, PV.cells] at ih ⊢; rw [ih]; rfl
      have hgetR : ∀ (i : Nat) (v : Value) (p : PV), (bs.map Value.string)[i]? = some v → ((splitOn c [] a).map PV.str)[i]? = some p → ∀ κ', R g κ' v p := by
        intro i v p h1 h2 κ'
        rw [← hdat] at h2
        simp only [List.getElem?_map, Option.map_eq_some_iff] at h1 h2
        obtain ⟨b, e1, rfl⟩ := h1
        obtain ⟨y, ⟨b2, e2, rfl⟩, rfl⟩ := h2
        rw [e1] at e2; cases e2
        exact .str b _ rfl
      refine .sl w.heap.size 0 bs.length bs.length 1 .no _ (bs.map Value.string) (by simp [hlen2]) (Nat.le_refl _) (fun x hx => ?_) (by rw [hflat]; simp [hlen2]) (fun i v hv => ?_) (fun i v p h1 h2 => ?_) ?_ ?_ trivial
      · obtain ⟨y, _, rfl⟩ := List.mem_map.1 hx; rfl
      · have hne : (bs.map Value.string).toArray[i]? = some v := by simpa using hv
        simp only [K.addC, Nat.zero_add, if_pos]
        rw [hne]
      · rw [hflat] at h2; exact hgetR i v p h1 h2 _
      · generalize splitOn c [] a = xs
        induction xs with
        | nil => rfl
        | cons x xs ih => simp [dataAll, PV.data, ih]
      · rw [hflat, List.all_eq_true]
        intro x hx
        obtain ⟨y, _, rfl⟩ := List.mem_map.1 hx; rfl
    · cases hp
  · cases hp
end Go.Ab

/-
  A row that lists variables: the wrap, the world's shape and what the listed variables hold kept.
-/
namespace Go.Ab
open Go
variable {H : Type} {enc : TypeId × Value → H}

theorem returns_laid_shaped {a : Assume} {C : Checked} {os : Os} {f : FuncId} {fn : Func} {s : ChangeSpec} {conds : List PathCond} {apart fresh handsOn again : Bool} (X : World → Prop) (hX : ∀ w w' : World, w.heap = w'.heap → X w → X w')
    (own : ownKnob C.prog.godebug = none) (started : os.Started) (noInit : C.prog.inits.idxOf? f = none) (hfn : C.prog.funcs[f]? = some fn)
    (witness : ∃ (w : World) (tape : Tape) (i : Input), w.os = os ∧ (w.forCall tape i).Shaped C.prog ∧ i.vars = [] ∧ Input.okWide C.prog (w.forCall tape i) .any w.heap.size f i ∧
      ((s.pre enc C.prog fn conds apart (w.forCall tape i).memory i.args ∧ X (w.forCall tape i).memory) ∧ sizedMet enc C.prog fn (OpenSpec.ofChange s) apart (w.forCall tape i).memory i.args) ∧ a.holds C.prog (lone (Frame.enter C.prog f i.args .normal) [] (w.forCall tape i)))
    (contract : ∀ (W : World) (base : Nat) (args : Array Value) (ds gs : List (DataW H)) (before : List MemPlace),
      (∀ (j : Nat) t v, fn.params[j]? = some t → args[j]? = some v → Value.okWide C.prog W .any base t v) →
      DataW.Whole enc C.prog fn.params.toList s.vars apart W args.toList ds gs before →
      X W →
      (DataW.weightsEach C.prog (fn.params.toList ++ s.plain.varTypes C.prog) (ds ++ gs)).all (· ≤ reachBytes) = true →
      W.ShapedOpen C.prog →
      a.holds C.prog (lone (Frame.enter C.prog f args .normal) [] W) →
      Calls C.prog f args W fun e W' => ∃ v, e = .returned v ∧ s.post enc C.prog fn apart fresh handsOn again W args v W') :
    ReturnsInHanded a C os f .any (fun w args => (s.pre enc C.prog fn conds apart w args ∧ X w) ∧ sizedMet enc C.prog fn (OpenSpec.ofChange s) apart w args) (s.post enc C.prog fn apart fresh handsOn again) := by
  refine returnsInHanded_of_calls own started noInit witness ?_
  intro w tape i _ hshape _ hok hpre hholds
  obtain ⟨_, _, _, fn2, hfn2, _, _, _, _, hval⟩ := hok
  obtain rfl : fn2 = fn := Option.some.inj (hfn2.symm.trans hfn)
  obtain ⟨⟨⟨ds, gs, before, hwhole, _⟩, hlaid⟩, hsized⟩ := hpre
  have hlaid2 : X (w.forCall tape i) := hX _ _ (by rfl) hlaid
  have hwhole2 := DataW.Whole.of_heap (w' := w.forCall tape i) (by rfl) hwhole
  have hrun := contract _ w.heap.size i.args ds gs before hval hwhole2 hlaid2 (hsized.weights hwhole) hshape hholds
  refine hrun.mono ?_
  rintro e W2 ⟨v, rfl, hpost⟩
  exact ChangeSpec.post_blind hpost
end Go.Ab
