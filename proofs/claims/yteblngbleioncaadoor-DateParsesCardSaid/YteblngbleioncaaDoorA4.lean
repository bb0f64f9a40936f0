/-
  Names in small letters; fields of a name; how big a header is.
-/
import Derived.Test.YteblngbleioncaaDoorA3
import Derived.KernelRfl
namespace Go.Ab
set_option linter.unusedVariables false
set_option linter.unusedSimpArgs false
variable {st : St} {e : Env}

/-! ### Bytes in a box of one's own -/
def bst (st : St) (l : List UInt8) : St := ⟨st.boxes ++ [l.map .b8], st.toks, st.loops, st.boxes.length⟩
theorem bst_eq {l : List UInt8} : (⟨st.boxes ++ [l.map .b8], st.toks, st.loops, st.boxes.length⟩ : St) = bst st l := rfl
theorem iaddr_ms {b n : Nat} {k : IntKind} {c : Int} (h1 : 0 ≤ c) (h2 : c.toNat < n) : iaddrPV 1 (.ms b 0 n) (.int k c) = some (.ptr b c.toNat) := by
  simp [iaddrPV, intOf, h1, show c < n by omega]
theorem len_ms {b n : Nat} : lenPV false (.ms b 0 n) = some (.int .i64 (n : Int)) := rfl
theorem load_bst {l : List UInt8} {i : Nat} (h : i < l.length) : loadPV (bst st l) false 1 (.ptr st.boxes.length i) = some (.b8 (l.getD i 0)) := by
  simp only [loadPV, bst, get_app0]
  rw [← List.map_drop, drop_getD h]; rfl
theorem store_bst {l : List UInt8} {i : Nat} {c : UInt8} (h : i < l.length) : storePV (bst st l) 1 (.ptr st.boxes.length i) (.b8 c) = some (bst st (l.set i c)) := by
  simp only [storePV, bst, get_app0, PV.cells]
  have h2 : i + 1 ≤ l.length := by omega
  simp [h2, PV.inB, leafOk, setCells, hasTok, tokOf, List.map_set]
theorem bytesOf_map : ∀ l : List UInt8, bytesOf (l.map .b8) = some l := by
  intro l
  induction l with
  | nil => rfl
  | cons c r ih => simp [bytesOf, ih]
theorem b2s_bst {l : List UInt8} {n : Nat} (h : n = l.length) : b2s true (bst st l) (.ms st.boxes.length 0 n) = some l := by
  subst h
  simp only [b2s, if_true, src8, bst, get_app0]
  rw [if_pos (by simp), List.drop_zero, List.take_of_length_le (by simp), bytesOf_map]
theorem leave_bst {l : List UInt8} {v : PV} (h1 : v.inB st.boxes.length = true) (h2 : ∀ n toks, keepRes n toks v = (v, [])) : leave st (bst st l) v = (v, st) := by
  simp [leave, bst, h1, h2]

theorem add_8 {ek : EK} {a b : UInt8} : binPV .add ek (.b8 a) (.b8 b) = some (.b8 (a + b)) := rfl
def lowC (c : UInt8) : UInt8 := if 65 ≤ c ∧ c ≤ 90 then c + 32 else c
def lowOf (s : List UInt8) : List UInt8 := s.map lowC

theorem lower_spec {s : List UInt8} (h : s.length ≤ 1000000) : call prog (.fn 167 []) [.str s] st = some (.str (lowOf s), st) := by
  refine call_of_W prog_167 ?_
  unfold F_fields_lower; dsimp only
  simp (maxSteps := 1000000) (disch := omega) only [bst_eq, len_ms, qaaz, qabz, qacz, qadz, qaez, qafz, qagz, qahz, qaiz, qajz, qakz, qalz, qamz, qanz, evOp, qaoz, qapz, qaqz, qarz, qasz, qatz, qauz, qavz,
 ↓reduceIte, Nat.reduceEqDiff, List.nil_append, List.cons_append, List.append_nil, List.map_cons, List.map_nil, qawz, qaxz, qayz, Option.map_some, Option.map_none, qazz, qbaz, qbbz, qbcz, qbdz, qbez, qbfz, qbgz, qbhz, qbiz, qbjz, qbkz, qblz, qbmz, qbnz, qboz,
 qbpz, qbqz, qbrz, qbsz, qbtz, qbuz, qbvz, qbwz, qbxz, qbyz, qbzz, qcaz, qcbz, qccz, qcdz, qcez, qcfz, qcgz, qchz, qciz, beq_true, beq_false, Bool.not_eq_true', decide_eq_true_eq, decide_eq_false_iff_not, decide_true, decide_false,
 Int.toNat_natCast, Int.ofNat_lt, Int.ofNat_le, Int.natCast_inj, Bool.false_eq_true, Bool.true_eq_false, qcjz, List.getElem?_cons_zero, List.getElem?_cons_succ, qckz, Int.reduceToNat, Int.reduceLE, true_and, and_true, reduceCtorEq, or_false, false_or, or_true, Option.some.injEq, exists_eq_left', Bool.not_true, Bool.not_false, ne_eq, Int.reduceEq, not_true_eq_false, not_false_eq_true, Int.reduceLT, UInt8.reduceLT, UInt8.reduceLE, UInt8.reduceToNat]
  obtain ⟨I, hI⟩ : ∃ I : Nat → Env → St → Prop, I = fun n e s' => ∃ (i : Nat) (l : List UInt8), n = s.length - i ∧ i ≤ s.length ∧ l = lowOf (s.take i) ++ s.drop i ∧ s' = bst st l ∧ e 3 = .ms st.boxes.length 0 s.length ∧ e 8 = .ms st.boxes.length 0 s.length ∧ e 9 = .int .i64 (s.length : Int) ∧ e 10 = .int .i64 (i : Int) := ⟨_, rfl⟩
  refine W_loop I ?_ (n := s.length) (by
    rw [hI]
    exact ⟨0, s, rfl, by omega, by simp [lowOf], rfl, rfl, rfl, rfl, rfl⟩)
  intro n e s' hh
  rw [hI] at hh
  obtain ⟨i, l, rfl, hi, hl, rfl, h3, h8, h9, h10⟩ := hh
  have hll : l.length = s.length := by rw [hl]; simp [lowOf]; omega
  by_cases hlt : i < s.length
  · obtain ⟨c, hc⟩ : ∃ c, c = s.getD i 0 := ⟨_, rfl⟩
    have hlc : l.getD i 0 = c := by
      rw [hl, hc]
      simp only [List.getD]
      rw [List.getElem?_append_right (by simp [lowOf]; omega)]
      simp [lowOf, Nat.min_eq_left hi]
    have hnext : ∀ (E : Env) (l' : List UInt8), l' = l.set i (lowC c) → E 3 = .ms st.boxes.length 0 s.length → E 8 = .ms st.boxes.length 0 s.length → E 9 = .int .i64 (s.length : Int) → E 10 = .int .i64 ((i + 1 : Nat) : Int) → I (s.length - (i + 1)) E (bst st l') := by
      intro E l' k0 k1 k2 k3 k4
      rw [hI]
      refine ⟨i + 1, l', rfl, by omega, ?_, rfl, k1, k2, k3, k4⟩
      rw [k0, hl, take_getD hlt, ← hc, drop_getD hlt]
      have hn : (lowOf (s.take i)).length = i := by simp [lowOf]; omega
      rw [List.set_append_right _ _ (by omega), hn]
      simp [lowOf]
    by_cases h65 : 65 ≤ c
    · by_cases h90 : c ≤ 90
      · simp (maxSteps := 1000000) (disch := omega) only [h3, h8, h9, h10, hlt, iaddr_ms, load_bst (st := st) (l := l) (i := i) (by omega), hlc, h65, h90, add_8, store_bst (st := st) (l := l) (i := i) (by omega), add_n, qaaz, qabz, qacz, qadz, qaez, qafz, qagz, qahz, qaiz, qajz, qakz, qalz, qamz, qanz, evOp, qaoz, qapz, qaqz, qarz, qasz, qatz, qauz, qavz,
 ↓reduceIte, Nat.reduceEqDiff, List.nil_append, List.cons_append, List.append_nil, List.map_cons, List.map_nil, qawz, qaxz, qayz, Option.map_some, Option.map_none, qazz, qbaz, qbbz, qbcz, qbdz, qbez, qbfz, qbgz, qbhz, qbiz, qbjz, qbkz, qblz, qbmz, qbnz, qboz,
 qbpz, qbqz, qbrz, qbsz, qbtz, qbuz, qbvz, qbwz, qbxz, qbyz, qbzz, qcaz, qcbz, qccz, qcdz, qcez, qcfz, qcgz, qchz, qciz, beq_true, beq_false, Bool.not_eq_true', decide_eq_true_eq, decide_eq_false_iff_not, decide_true, decide_false,
 Int.toNat_natCast, Int.ofNat_lt, Int.ofNat_le, Int.natCast_inj, Bool.false_eq_true, Bool.true_eq_false, qcjz, List.getElem?_cons_zero, List.getElem?_cons_succ, qckz, Int.reduceToNat, Int.reduceLE, true_and, and_true, reduceCtorEq, or_false, false_or, or_true, Option.some.injEq, exists_eq_left', Bool.not_true, Bool.not_false, ne_eq, Int.reduceEq, not_true_eq_false, not_false_eq_true, Int.reduceLT, UInt8.reduceLT, UInt8.reduceLE, UInt8.reduceToNat]
        exact loopQ_intro (m := s.length - (i + 1)) (by omega) (hnext _ (l.set i (c + 32)) (by simp [lowC, h65, h90]) h3 h8 h9 rfl)
      · simp (maxSteps := 1000000) (disch := omega) only [h3, h8, h9, h10, hlt, iaddr_ms, load_bst (st := st) (l := l) (i := i) (by omega), hlc, h65, h90, add_n, qaaz, qabz, qacz, qadz, qaez, qafz, qagz, qahz, qaiz, qajz, qakz, qalz, qamz, qanz, evOp, qaoz, qapz, qaqz, qarz, qasz, qatz, qauz, qavz,
 ↓reduceIte, Nat.reduceEqDiff, List.nil_append, List.cons_append, List.append_nil, List.map_cons, List.map_nil, qawz, qaxz, qayz, Option.map_some, Option.map_none, qazz, qbaz, qbbz, qbcz, qbdz, qbez, qbfz, qbgz, qbhz, qbiz, qbjz, qbkz, qblz, qbmz, qbnz, qboz,
 qbpz, qbqz, qbrz, qbsz, qbtz, qbuz, qbvz, qbwz, qbxz, qbyz, qbzz, qcaz, qcbz, qccz, qcdz, qcez, qcfz, qcgz, qchz, qciz, beq_true, beq_false, Bool.not_eq_true', decide_eq_true_eq, decide_eq_false_iff_not, decide_true, decide_false,
 Int.toNat_natCast, Int.ofNat_lt, Int.ofNat_le, Int.natCast_inj, Bool.false_eq_true, Bool.true_eq_false, qcjz, List.getElem?_cons_zero, List.getElem?_cons_succ, qckz, Int.reduceToNat, Int.reduceLE, true_and, and_true, reduceCtorEq, or_false, false_or, or_true, Option.some.injEq, exists_eq_left', Bool.not_true, Bool.not_false, ne_eq, Int.reduceEq, not_true_eq_false, not_false_eq_true, Int.reduceLT, UInt8.reduceLT, UInt8.reduceLE, UInt8.reduceToNat]
        exact loopQ_intro (m := s.length - (i + 1)) (by omega) (hnext _ l (by simp only [lowC, h90, and_false, if_false]; rw [← hlc, List.getD, List.getElem?_eq_getElem (by omega)]; simp) h3 h8 h9 rfl)
    · simp (maxSteps := 1000000) (disch := omega) only [h3, h8, h9, h10, hlt, iaddr_ms, load_bst (st := st) (l := l) (i := i) (by omega), hlc, h65, add_n, qaaz, qabz, qacz, qadz, qaez, qafz, qagz, qahz, qaiz, qajz, qakz, qalz, qamz, qanz, evOp, qaoz, qapz, qaqz, qarz, qasz, qatz, qauz, qavz,
 ↓reduceIte, Nat.reduceEqDiff, List.nil_append, List.cons_append, List.append_nil, List.map_cons, List.map_nil, qawz, qaxz, qayz, Option.map_some, Option.map_none, qazz, qbaz, qbbz, qbcz, qbdz, qbez, qbfz, qbgz, qbhz, qbiz, qbjz, qbkz, qblz, qbmz, qbnz, qboz,
 qbpz, qbqz, qbrz, qbsz, qbtz, qbuz, qbvz, qbwz, qbxz, qbyz, qbzz, qcaz, qcbz, qccz, qcdz, qcez, qcfz, qcgz, qchz, qciz, beq_true, beq_false, Bool.not_eq_true', decide_eq_true_eq, decide_eq_false_iff_not, decide_true, decide_false,
 Int.toNat_natCast, Int.ofNat_lt, Int.ofNat_le, Int.natCast_inj, Bool.false_eq_true, Bool.true_eq_false, qcjz, List.getElem?_cons_zero, List.getElem?_cons_succ, qckz, Int.reduceToNat, Int.reduceLE, true_and, and_true, reduceCtorEq, or_false, false_or, or_true, Option.some.injEq, exists_eq_left', Bool.not_true, Bool.not_false, ne_eq, Int.reduceEq, not_true_eq_false, not_false_eq_true, Int.reduceLT, UInt8.reduceLT, UInt8.reduceLE, UInt8.reduceToNat]
      exact loopQ_intro (m := s.length - (i + 1)) (by omega) (hnext _ l (by simp only [lowC, h65, false_and, if_false]; rw [← hlc, List.getD, List.getElem?_eq_getElem (by omega)]; simp) h3 h8 h9 rfl)
  · obtain rfl : i = s.length := by omega
    simp (maxSteps := 1000000) (disch := omega) only [h3, h8, h9, h10, hlt, b2s_bst (st := st) (l := l) hll.symm, qaaz, qabz, qacz, qadz, qaez, qafz, qagz, qahz, qaiz, qajz, qakz, qalz, qamz, qanz, evOp, qaoz, qapz, qaqz, qarz, qasz, qatz, qauz, qavz,
 ↓reduceIte, Nat.reduceEqDiff, List.nil_append, List.cons_append, List.append_nil, List.map_cons, List.map_nil, qawz, qaxz, qayz, Option.map_some, Option.map_none, qazz, qbaz, qbbz, qbcz, qbdz, qbez, qbfz, qbgz, qbhz, qbiz, qbjz, qbkz, qblz, qbmz, qbnz, qboz,
 qbpz, qbqz, qbrz, qbsz, qbtz, qbuz, qbvz, qbwz, qbxz, qbyz, qbzz, qcaz, qcbz, qccz, qcdz, qcez, qcfz, qcgz, qchz, qciz, beq_true, beq_false, Bool.not_eq_true', decide_eq_true_eq, decide_eq_false_iff_not, decide_true, decide_false,
 Int.toNat_natCast, Int.ofNat_lt, Int.ofNat_le, Int.natCast_inj, Bool.false_eq_true, Bool.true_eq_false, qcjz, List.getElem?_cons_zero, List.getElem?_cons_succ, qckz, Int.reduceToNat, Int.reduceLE, true_and, and_true, reduceCtorEq, or_false, false_or, or_true, Option.some.injEq, exists_eq_left', Bool.not_true, Bool.not_false, ne_eq, Int.reduceEq, not_true_eq_false, not_false_eq_true, Int.reduceLT, UInt8.reduceLT, UInt8.reduceLE, UInt8.reduceToNat]
    exact ⟨.str (lowOf s), by rw [hl]; simp [resOf, rvAll, rv1, qavz, notTup, packRes], leave_bst rfl (fun _ _ => rfl)⟩

end Go.Ab

/-
  Fields of a name; how big a header is.
-/
namespace Go.Ab
set_option linter.unusedVariables false
set_option linter.unusedSimpArgs false
variable {st s : St} {e : Env}

abbrev Fld := List UInt8 × List UInt8
def fV (f : Fld) : PV := .agg [.str f.1, .str f.2]
/-! ### A field in a box -/
end Go.Ab

/-
  Names and values of fields; texts without blanks at their ends.
-/
namespace Go.Ab
set_option linter.unusedVariables false
set_option linter.unusedSimpArgs false
variable {st s : St} {e : Env}

/-! ### Blanks at the ends -/
end Go.Ab

/-
  Texts without blanks at their ends; values of fields.
-/
namespace Go.Ab
set_option linter.unusedVariables false
set_option linter.unusedSimpArgs false
variable {st s : St} {e : Env}

end Go.Ab

/-
  The document's trimming; values; small letters; fields of a name, by the document.
-/
namespace Go.Ab
set_option linter.unusedVariables false
set_option linter.unusedSimpArgs false
variable {st s : St} {e : Env}

end Go.Ab

/-
  Values of fields; small letters and fields of a name, by the document.
-/
namespace Go.Ab
set_option linter.unusedVariables false
set_option linter.unusedSimpArgs false
variable {st s : St} {e : Env}

theorem lowOf_take {l : List UInt8} {i : Nat} (h : i < l.length) : lowOf (l.take (i + 1)) = lowOf (l.take i) ++ [lowC (l.getD i 0)] := by
  rw [take_getD h]; simp [lowOf]

theorem rLower_spec {l : List UInt8} (hl : l.length ≤ 100000000) : call prog (.fn 114 []) [.str l] st = some (.str (lowOf l), st) := by
  refine call_of_W prog_114 ?_
  unfold F_posthornref04_Lower; dsimp only
  simp (maxSteps := 1000000) (disch := omega) only [len_s, qaaz, qabz, qacz, qadz, qaez, qafz, qagz, qahz, qaiz, qajz, qakz, qalz, qamz, qanz, evOp, qaoz, qapz, qaqz, qarz, qasz, qatz, qauz, qavz,
 ↓reduceIte, Nat.reduceEqDiff, List.nil_append, List.cons_append, List.append_nil, List.map_cons, List.map_nil, qawz, qaxz, qayz, Option.map_some, Option.map_none, qazz, qbaz, qbbz, qbcz, qbdz, qbez, qbfz, qbgz, qbhz, qbiz, qbjz, qbkz, qblz, qbmz, qbnz, qboz,
 qbpz, qbqz, qbrz, qbsz, qbtz, qbuz, qbvz, qbwz, qbxz, qbyz, qbzz, qcaz, qcbz, qccz, qcdz, qcez, qcfz, qcgz, qchz, qciz, beq_true, beq_false, Bool.not_eq_true', decide_eq_true_eq, decide_eq_false_iff_not, decide_true, decide_false,
 Int.toNat_natCast, Int.ofNat_lt, Int.ofNat_le, Int.natCast_inj, Bool.false_eq_true, Bool.true_eq_false, qcjz, List.getElem?_cons_zero, List.getElem?_cons_succ, qckz, Int.reduceToNat, Int.reduceLE, true_and, and_true, reduceCtorEq, or_false, false_or, or_true, Option.some.injEq, exists_eq_left', Bool.not_true, Bool.not_false, ne_eq, Int.reduceEq, not_true_eq_false, not_false_eq_true, Int.reduceLT, UInt8.reduceLT, UInt8.reduceLE, UInt8.reduceToNat]
  obtain ⟨I, hI⟩ : ∃ I : Nat → Env → St → Prop, I = fun k e s' => ∃ (i : Nat) (v : PV), k = l.length - i ∧ i ≤ l.length ∧ Kept st s' ∧ Mine st s' v (lowOf (l.take i)) ∧ e 0 = .str l ∧ e 3 = v ∧ e 4 = .int .i64 (i : Int) := ⟨_, rfl⟩
  refine W_loop I ?_ (n := l.length) (by
    rw [hI]
    exact ⟨0, .nils, rfl, by omega, Kept.start, Mine.nil, rfl, rfl, rfl⟩)
  intro k e s' hh
  rw [hI] at hh
  obtain ⟨i, v, rfl, hi, hk, hm, h0, h3, h4⟩ := hh
  by_cases hlt : i < l.length
  · obtain ⟨c, hc⟩ : ∃ c, c = l.getD i 0 := ⟨_, rfl⟩
    have hlow := lowOf_take hlt
    rw [← hc] at hlow
    obtain ⟨y, s2, a1, k1, k2⟩ := hk.push (c := lowC c) hm (by simp [room, lowOf]; omega)
    have hnext : ∀ E : Env, E 0 = .str l → E 3 = y → E 4 = .int .i64 ((i + 1 : Nat) : Int) → I (l.length - (i + 1)) E s2 := fun E q0 q3 q4 => by
      rw [hI]; exact ⟨i + 1, y, rfl, by omega, k1, by rw [hlow]; exact k2, q0, q3, q4⟩
    by_cases h65 : 65 ≤ c
    · by_cases h90 : c ≤ 90
      · rw [show lowC c = c + 32 by simp [lowC, h65, h90]] at a1
        simp (maxSteps := 1000000) (disch := omega) only [h0, h3, h4, len_s, hlt, idx_s, ← hc, h65, h90, add_8, lit8_1, freshT_eq, a1, add_n, qaaz, qabz, qacz, qadz, qaez, qafz, qagz, qahz, qaiz, qajz, qakz, qalz, qamz, qanz, evOp, qaoz, qapz, qaqz, qarz, qasz, qatz, qauz, qavz,
 ↓reduceIte, Nat.reduceEqDiff, List.nil_append, List.cons_append, List.append_nil, List.map_cons, List.map_nil, qawz, qaxz, qayz, Option.map_some, Option.map_none, qazz, qbaz, qbbz, qbcz, qbdz, qbez, qbfz, qbgz, qbhz, qbiz, qbjz, qbkz, qblz, qbmz, qbnz, qboz,
 qbpz, qbqz, qbrz, qbsz, qbtz, qbuz, qbvz, qbwz, qbxz, qbyz, qbzz, qcaz, qcbz, qccz, qcdz, qcez, qcfz, qcgz, qchz, qciz, beq_true, beq_false, Bool.not_eq_true', decide_eq_true_eq, decide_eq_false_iff_not, decide_true, decide_false,
 Int.toNat_natCast, Int.ofNat_lt, Int.ofNat_le, Int.natCast_inj, Bool.false_eq_true, Bool.true_eq_false, qcjz, List.getElem?_cons_zero, List.getElem?_cons_succ, qckz, Int.reduceToNat, Int.reduceLE, true_and, and_true, reduceCtorEq, or_false, false_or, or_true, Option.some.injEq, exists_eq_left', Bool.not_true, Bool.not_false, ne_eq, Int.reduceEq, not_true_eq_false, not_false_eq_true, Int.reduceLT, UInt8.reduceLT, UInt8.reduceLE, UInt8.reduceToNat]
        exact loopQ_intro (m := l.length - (i + 1)) (by omega) (hnext _ h0 rfl rfl)
      · rw [show lowC c = c by simp [lowC, h90]] at a1
        simp (maxSteps := 1000000) (disch := omega) only [h0, h3, h4, len_s, hlt, idx_s, ← hc, h65, h90, lit8_1, freshT_eq, a1, add_n, qaaz, qabz, qacz, qadz, qaez, qafz, qagz, qahz, qaiz, qajz, qakz, qalz, qamz, qanz, evOp, qaoz, qapz, qaqz, qarz, qasz, qatz, qauz, qavz,
 ↓reduceIte, Nat.reduceEqDiff, List.nil_append, List.cons_append, List.append_nil, List.map_cons, List.map_nil, qawz, qaxz, qayz, Option.map_some, Option.map_none, qazz, qbaz, qbbz, qbcz, qbdz, qbez, qbfz, qbgz, qbhz, qbiz, qbjz, qbkz, qblz, qbmz, qbnz, qboz,
 qbpz, qbqz, qbrz, qbsz, qbtz, qbuz, qbvz, qbwz, qbxz, qbyz, qbzz, qcaz, qcbz, qccz, qcdz, qcez, qcfz, qcgz, qchz, qciz, beq_true, beq_false, Bool.not_eq_true', decide_eq_true_eq, decide_eq_false_iff_not, decide_true, decide_false,
 Int.toNat_natCast, Int.ofNat_lt, Int.ofNat_le, Int.natCast_inj, Bool.false_eq_true, Bool.true_eq_false, qcjz, List.getElem?_cons_zero, List.getElem?_cons_succ, qckz, Int.reduceToNat, Int.reduceLE, true_and, and_true, reduceCtorEq, or_false, false_or, or_true, Option.some.injEq, exists_eq_left', Bool.not_true, Bool.not_false, ne_eq, Int.reduceEq, not_true_eq_false, not_false_eq_true, Int.reduceLT, UInt8.reduceLT, UInt8.reduceLE, UInt8.reduceToNat]
        exact loopQ_intro (m := l.length - (i + 1)) (by omega) (hnext _ h0 rfl rfl)
    · rw [show lowC c = c by simp [lowC, h65]] at a1
      simp (maxSteps := 1000000) (disch := omega) only [h0, h3, h4, len_s, hlt, idx_s, ← hc, h65, lit8_1, freshT_eq, a1, add_n, qaaz, qabz, qacz, qadz, qaez, qafz, qagz, qahz, qaiz, qajz, qakz, qalz, qamz, qanz, evOp, qaoz, qapz, qaqz, qarz, qasz, qatz, qauz, qavz,
 ↓reduceIte, Nat.reduceEqDiff, List.nil_append, List.cons_append, List.append_nil, List.map_cons, List.map_nil, qawz, qaxz, qayz, Option.map_some, Option.map_none, qazz, qbaz, qbbz, qbcz, qbdz, qbez, qbfz, qbgz, qbhz, qbiz, qbjz, qbkz, qblz, qbmz, qbnz, qboz,
 qbpz, qbqz, qbrz, qbsz, qbtz, qbuz, qbvz, qbwz, qbxz, qbyz, qbzz, qcaz, qcbz, qccz, qcdz, qcez, qcfz, qcgz, qchz, qciz, beq_true, beq_false, Bool.not_eq_true', decide_eq_true_eq, decide_eq_false_iff_not, decide_true, decide_false,
 Int.toNat_natCast, Int.ofNat_lt, Int.ofNat_le, Int.natCast_inj, Bool.false_eq_true, Bool.true_eq_false, qcjz, List.getElem?_cons_zero, List.getElem?_cons_succ, qckz, Int.reduceToNat, Int.reduceLE, true_and, and_true, reduceCtorEq, or_false, false_or, or_true, Option.some.injEq, exists_eq_left', Bool.not_true, Bool.not_false, ne_eq, Int.reduceEq, not_true_eq_false, not_false_eq_true, Int.reduceLT, UInt8.reduceLT, UInt8.reduceLE, UInt8.reduceToNat]
      exact loopQ_intro (m := l.length - (i + 1)) (by omega) (hnext _ h0 rfl rfl)
  · obtain rfl : i = l.length := by omega
    rw [List.take_length] at hm
    simp (maxSteps := 1000000) (disch := omega) only [h0, h3, h4, len_s, hlt, b2s_by hm.by, qaaz, qabz, qacz, qadz, qaez, qafz, qagz, qahz, qaiz, qajz, qakz, qalz, qamz, qanz, evOp, qaoz, qapz, qaqz, qarz, qasz, qatz, qauz, qavz,
 ↓reduceIte, Nat.reduceEqDiff, List.nil_append, List.cons_append, List.append_nil, List.map_cons, List.map_nil, qawz, qaxz, qayz, Option.map_some, Option.map_none, qazz, qbaz, qbbz, qbcz, qbdz, qbez, qbfz, qbgz, qbhz, qbiz, qbjz, qbkz, qblz, qbmz, qbnz, qboz,
 qbpz, qbqz, qbrz, qbsz, qbtz, qbuz, qbvz, qbwz, qbxz, qbyz, qbzz, qcaz, qcbz, qccz, qcdz, qcez, qcfz, qcgz, qchz, qciz, beq_true, beq_false, Bool.not_eq_true', decide_eq_true_eq, decide_eq_false_iff_not, decide_true, decide_false,
 Int.toNat_natCast, Int.ofNat_lt, Int.ofNat_le, Int.natCast_inj, Bool.false_eq_true, Bool.true_eq_false, qcjz, List.getElem?_cons_zero, List.getElem?_cons_succ, qckz, Int.reduceToNat, Int.reduceLE, true_and, and_true, reduceCtorEq, or_false, false_or, or_true, Option.some.injEq, exists_eq_left', Bool.not_true, Bool.not_false, ne_eq, Int.reduceEq, not_true_eq_false, not_false_eq_true, Int.reduceLT, UInt8.reduceLT, UInt8.reduceLE, UInt8.reduceToNat]
    exact ⟨.str (lowOf l), rfl, hk.leave rfl (fun _ _ => rfl)⟩

theorem Grew.kept (h : Grew st s) : Kept st s := ⟨by rw [h.bx]; simp, h.lp, by rw [h.lw]; exact Nat.le_refl _, h.tk⟩
end Go.Ab

/-
  Addresses: plain.
-/
namespace Go.Ab
set_option linter.unusedVariables false
set_option linter.unusedSimpArgs false

abbrev Bs := List UInt8
/-- What holds of all bytes, looked at one by one. -/
theorem all8 {p : UInt8 → Bool} (h : (List.range 256).all (fun n => p (UInt8.ofNat n)) = true) (c : UInt8) : p c = true := by
  have := List.all_eq_true.1 h c.toNat (List.mem_range.2 c.toNat_lt)
  simpa using this

def alnC (c : UInt8) : Bool := (decide (97 ≤ c) && decide (c ≤ 122)) || (decide (65 ≤ c) && decide (c ≤ 90)) || (decide (48 ≤ c) && decide (c ≤ 57))
def signs : Bs := [33, 35, 36, 37, 38, 39, 42, 43, 45, 47, 61, 63, 94, 95, 123, 124, 125, 126, 96]
def atC (c : UInt8) : Bool := alnC c || signs.contains c
def labC (c : UInt8) : Bool := alnC c || decide (c = 45)
/-- Name, local part, domain. -/
abbrev Adr := Bs × Bs × Bs
/-! ### Parts -/
/-! ### Small letters -/
/-! ### Signs that stand in no address -/
theorem index_chr {k : UInt8} : ∀ (n r : Bs), (∀ c ∈ n, c ≠ k) → Lib.index (n ++ k :: r) [k] = n.length := by
  intro n
  induction n with
  | nil => intro r _; simp [Lib.index, List.isPrefixOf]
  | cons c n ih =>
    intro r h
    have hc : c ≠ k := h c (by simp)
    have := ih r (fun d hd => h d (by simp [hd]))
    rw [List.cons_append, Lib.index]
    have hp : ([k] : Bs).isPrefixOf (c :: (n ++ k :: r)) = false := by
      simp [List.isPrefixOf]; exact fun h => hc h.symm
    rw [hp, this]
    simp <;> omega
/-- The signs of an address's local part, and of its domain. -/
def locC (c : UInt8) : Prop := atC c = true ∨ c = 46
def domC (c : UInt8) : Prop := labC c = true ∨ c = 46
structure RightA (a : Adr) : Prop where
  lc : ∀ c ∈ a.2.1, locC c
  ln : a.2.1 ≠ []
  dc : ∀ c ∈ a.2.2, domC c
  dn : a.2.2 ≠ []
  nl : a.1.length ≤ 128
  ll : a.2.1.length ≤ 64
  dl : a.2.2.length ≤ 253
theorem chr_split (k : UInt8) : ∀ s : Bs, (k ∉ s ∧ Lib.index s [k] = -1) ∨ ∃ n r, s = n ++ k :: r ∧ ∀ c ∈ n, c ≠ k := by
  intro s
  by_cases h : k ∈ s
  · right
    induction s with
    | nil => cases h
    | cons c s ih =>
      by_cases hc : c = k
      · exact ⟨[], s, by simp [hc], fun c hc => (by cases hc)⟩
      · rcases List.mem_cons.1 h with h | h
        · exact absurd h.symm hc
        · obtain ⟨n, r, e1, e2⟩ := ih h
          refine ⟨c :: n, r, by simp [e1], fun d hd => ?_⟩
          rcases List.mem_cons.1 hd with rfl | hd
          · exact hc
          · exact e2 d hd
  · left
    refine ⟨h, ?_⟩
    have h1 := Lib.index_ge s [k]
    have h2 := index_one (l := s) (c := k)
    have h3 : ¬ 0 ≤ Lib.index s [k] := fun h0 => h (h2.1 h0)
    omega
end Go.Ab

/-
  Addresses are read as they were written: plain.
-/
namespace Go.Ab
set_option linter.unusedVariables false
set_option linter.unusedSimpArgs false

/-! ### Blanks at the ends -/
/-! ### Names between quotes -/
/-! ### A text of an address -/
/-! ### Lists -/
end Go.Ab

/-
  strings.Cut.
-/
namespace Go.Ab
set_option linter.unusedVariables false
set_option linter.unusedSimpArgs false
variable {st : St} {e : Env}

theorem index_room' : ∀ (a b : List UInt8), 0 ≤ Lib.index a b → Lib.index a b + b.length ≤ a.length := by
  intro a b
  induction a with
  | nil =>
    intro h
    cases b with
    | nil => simp [Lib.index]
    | cons c r => simp [Lib.index] at h
  | cons c r ih =>
    intro h
    by_cases hp : b.isPrefixOf (c :: r) = true
    · have := (List.isPrefixOf_iff_prefix.1 hp).length_le
      rw [Lib.index, if_pos hp]; omega
    · have hp2 : b.isPrefixOf (c :: r) = false := Bool.eq_false_iff.2 hp
      rw [Lib.index, hp2] at h ⊢
      by_cases hq : (Lib.index r b == -1) = true
      · rw [hq] at h; simp at h
      · have hq2 : (Lib.index r b == -1) = false := by simpa using hq
        rw [hq2] at h ⊢
        simp only [Bool.false_eq_true, if_false] at h ⊢
        have hge := Lib.index_ge r b
        have hne : Lib.index r b ≠ -1 := by simpa using hq2
        have := ih (by omega)
        simp only [List.length_cons]; omega
/-- strings.Cut. -/
def cutAt (a b : List UInt8) : PV := if 0 ≤ Lib.index a b then .tup [.str (a.take (Lib.index a b).toNat), .str (a.drop ((Lib.index a b).toNat + b.length)), .bool true] else .tup [.str a, .str [], .bool false]
theorem sCut_spec {a b : List UInt8} (h : a.length < 4294967281) (hb : b.length < 4294967281) : call prog (.fn 135 []) [.str a, .str b] st = some (cutAt a b, st) := by
  refine call_of_W prog_135 ?_
  unfold F_internal_stringslite_Cut; dsimp only
  have hroom := index_room' a b
  by_cases h0 : 0 ≤ Lib.index a b
  · have hr := hroom h0
    obtain ⟨k, hk⟩ : ∃ k : Nat, Lib.index a b = (k : Int) := ⟨(Lib.index a b).toNat, by omega⟩
    rw [hk] at hr
    have hadd : ∀ ek, binPV .add ek (.int .i64 (k : Int)) (.int .i64 (b.length : Int)) = some (.int .i64 ((k + b.length : Nat) : Int)) := fun ek => by
      rw [add_i (by omega) (by omega)]; simp
    have e1 : (0 : Int) ≤ (k : Int) := by omega
    simp (maxSteps := 1000000) (disch := omega) only [strIndex_spec h, hk, e1, len_s, hadd, slc_s_lo, slc_s_hi, qaaz, qabz, qacz, qadz, qaez, qafz, qagz, qahz, qaiz, qajz, qakz, qalz, qamz, qanz, evOp, qaoz, qapz, qaqz, qarz, qasz, qatz, qauz, qavz,
 ↓reduceIte, Nat.reduceEqDiff, List.nil_append, List.cons_append, List.append_nil, List.map_cons, List.map_nil, qawz, qaxz, qayz, Option.map_some, Option.map_none, qazz, qbaz, qbbz, qbcz, qbdz, qbez, qbfz, qbgz, qbhz, qbiz, qbjz, qbkz, qblz, qbmz, qbnz, qboz,
 qbpz, qbqz, qbrz, qbsz, qbtz, qbuz, qbvz, qbwz, qbxz, qbyz, qbzz, qcaz, qcbz, qccz, qcdz, qcez, qcfz, qcgz, qchz, qciz, beq_true, beq_false, Bool.not_eq_true', decide_eq_true_eq, decide_eq_false_iff_not, decide_true, decide_false,
 Int.toNat_natCast, Int.ofNat_lt, Int.ofNat_le, Int.natCast_inj, Bool.false_eq_true, Bool.true_eq_false, qcjz, List.getElem?_cons_zero, List.getElem?_cons_succ, qckz, Int.reduceToNat, Int.reduceLE, true_and, and_true, reduceCtorEq, or_false, false_or, or_true, Option.some.injEq, exists_eq_left', Bool.not_true, Bool.not_false, ne_eq, Int.reduceEq, not_true_eq_false, not_false_eq_true, Int.reduceLT, UInt8.reduceLT, UInt8.reduceLE, UInt8.reduceToNat]
    rw [show cutAt a b = .tup [.str (a.take k), .str (a.drop (k + b.length)), .bool true] by simp [cutAt, hk]]
    exact end3 rfl rfl rfl Kp_str Kp_str Kp_bool
  · simp (maxSteps := 1000000) (disch := omega) only [strIndex_spec h, h0, qaaz, qabz, qacz, qadz, qaez, qafz, qagz, qahz, qaiz, qajz, qakz, qalz, qamz, qanz, evOp, qaoz, qapz, qaqz, qarz, qasz, qatz, qauz, qavz,
 ↓reduceIte, Nat.reduceEqDiff, List.nil_append, List.cons_append, List.append_nil, List.map_cons, List.map_nil, qawz, qaxz, qayz, Option.map_some, Option.map_none, qazz, qbaz, qbbz, qbcz, qbdz, qbez, qbfz, qbgz, qbhz, qbiz, qbjz, qbkz, qblz, qbmz, qbnz, qboz,
 qbpz, qbqz, qbrz, qbsz, qbtz, qbuz, qbvz, qbwz, qbxz, qbyz, qbzz, qcaz, qcbz, qccz, qcdz, qcez, qcfz, qcgz, qchz, qciz, beq_true, beq_false, Bool.not_eq_true', decide_eq_true_eq, decide_eq_false_iff_not, decide_true, decide_false,
 Int.toNat_natCast, Int.ofNat_lt, Int.ofNat_le, Int.natCast_inj, Bool.false_eq_true, Bool.true_eq_false, qcjz, List.getElem?_cons_zero, List.getElem?_cons_succ, qckz, Int.reduceToNat, Int.reduceLE, true_and, and_true, reduceCtorEq, or_false, false_or, or_true, Option.some.injEq, exists_eq_left', Bool.not_true, Bool.not_false, ne_eq, Int.reduceEq, not_true_eq_false, not_false_eq_true, Int.reduceLT, UInt8.reduceLT, UInt8.reduceLE, UInt8.reduceToNat]
    rw [show cutAt a b = .tup [.str a, .str [], .bool false] by simp [cutAt, h0]]
    exact end3 rfl rfl rfl Kp_str Kp_str Kp_bool
theorem Cut_spec {a b : List UInt8} (h : a.length < 4294967281) (hb : b.length < 4294967281) : call prog (.fn 128 []) [.str a, .str b] st = some (cutAt a b, st) := by
  refine call_of_W prog_128 ?_
  unfold F_strings_Cut; dsimp only
  by_cases h0 : 0 ≤ Lib.index a b
  · have hc : cutAt a b = .tup [.str (a.take (Lib.index a b).toNat), .str (a.drop ((Lib.index a b).toNat + b.length)), .bool true] := by simp [cutAt, h0]
    simp (maxSteps := 1000000) (disch := omega) only [sCut_spec h hb, hc, qaaz, qabz, qacz, qadz, qaez, qafz, qagz, qahz, qaiz, qajz, qakz, qalz, qamz, qanz, evOp, qaoz, qapz, qaqz, qarz, qasz, qatz, qauz, qavz,
 ↓reduceIte, Nat.reduceEqDiff, List.nil_append, List.cons_append, List.append_nil, List.map_cons, List.map_nil, qawz, qaxz, qayz, Option.map_some, Option.map_none, qazz, qbaz, qbbz, qbcz, qbdz, qbez, qbfz, qbgz, qbhz, qbiz, qbjz, qbkz, qblz, qbmz, qbnz, qboz,
 qbpz, qbqz, qbrz, qbsz, qbtz, qbuz, qbvz, qbwz, qbxz, qbyz, qbzz, qcaz, qcbz, qccz, qcdz, qcez, qcfz, qcgz, qchz, qciz, beq_true, beq_false, Bool.not_eq_true', decide_eq_true_eq, decide_eq_false_iff_not, decide_true, decide_false,
 Int.toNat_natCast, Int.ofNat_lt, Int.ofNat_le, Int.natCast_inj, Bool.false_eq_true, Bool.true_eq_false, qcjz, List.getElem?_cons_zero, List.getElem?_cons_succ, qckz, Int.reduceToNat, Int.reduceLE, true_and, and_true, reduceCtorEq, or_false, false_or, or_true, Option.some.injEq, exists_eq_left', Bool.not_true, Bool.not_false, ne_eq, Int.reduceEq, not_true_eq_false, not_false_eq_true, Int.reduceLT, UInt8.reduceLT, UInt8.reduceLE, UInt8.reduceToNat]
    exact end3 rfl rfl rfl Kp_str Kp_str Kp_bool
  · have hc : cutAt a b = .tup [.str a, .str [], .bool false] := by simp [cutAt, h0]
    simp (maxSteps := 1000000) (disch := omega) only [sCut_spec h hb, hc, qaaz, qabz, qacz, qadz, qaez, qafz, qagz, qahz, qaiz, qajz, qakz, qalz, qamz, qanz, evOp, qaoz, qapz, qaqz, qarz, qasz, qatz, qauz, qavz,
 ↓reduceIte, Nat.reduceEqDiff, List.nil_append, List.cons_append, List.append_nil, List.map_cons, List.map_nil, qawz, qaxz, qayz, Option.map_some, Option.map_none, qazz, qbaz, qbbz, qbcz, qbdz, qbez, qbfz, qbgz, qbhz, qbiz, qbjz, qbkz, qblz, qbmz, qbnz, qboz,
 qbpz, qbqz, qbrz, qbsz, qbtz, qbuz, qbvz, qbwz, qbxz, qbyz, qbzz, qcaz, qcbz, qccz, qcdz, qcez, qcfz, qcgz, qchz, qciz, beq_true, beq_false, Bool.not_eq_true', decide_eq_true_eq, decide_eq_false_iff_not, decide_true, decide_false,
 Int.toNat_natCast, Int.ofNat_lt, Int.ofNat_le, Int.natCast_inj, Bool.false_eq_true, Bool.true_eq_false, qcjz, List.getElem?_cons_zero, List.getElem?_cons_succ, qckz, Int.reduceToNat, Int.reduceLE, true_and, and_true, reduceCtorEq, or_false, false_or, or_true, Option.some.injEq, exists_eq_left', Bool.not_true, Bool.not_false, ne_eq, Int.reduceEq, not_true_eq_false, not_false_eq_true, Int.reduceLT, UInt8.reduceLT, UInt8.reduceLE, UInt8.reduceToNat]
    exact end3 rfl rfl rfl Kp_str Kp_str Kp_bool

end Go.Ab

/-
  Rules that part the ways of a run: each way under what it was taken for.
-/
namespace Go.Ab
set_option linter.unusedVariables false
set_option linter.unusedSimpArgs false
variable {A : AP} {st : St} {e : Env}

end Go.Ab

/-
  Signs, atoms, labels, names; parts of a text.
-/
namespace Go.Ab
set_option linter.unusedVariables false
set_option linter.unusedSimpArgs false
variable {st s : St} {e : Env}

theorem ret1 {a : Nat} {v : PV} (ha : e a = v) (hnt : notTup v = true) (hk : Kept st s) (hf : Flat v) : ∃ rv, resOf e s [.tmp a] = some rv ∧ leave st s rv = (v, st) :=
  ⟨v, by simp [resOf, rvAll, rv1, ha, hnt, packRes], hk.leave' hf⟩
theorem retB {a : Nat} {b c : Bool} (ha : e a = .bool b) (hk : Kept st s) (hb : b = c) : ∃ rv, resOf e s [.tmp a] = some rv ∧ leave st s rv = (.bool c, st) := by
  subst hb; exact ret1 ha rfl hk ⟨fun _ => rfl, fun _ _ => rfl⟩
theorem retS {a : Nat} {b c : List UInt8} (ha : e a = .str b) (hk : Kept st s) (hb : b = c) : ∃ rv, resOf e s [.tmp a] = some rv ∧ leave st s rv = (.str c, st) := by
  subst hb; exact ret1 ha rfl hk ⟨fun _ => rfl, fun _ _ => rfl⟩
theorem retI {a : Nat} {k : IntKind} {b c : Int} (ha : e a = .int k b) (hk : Kept st s) (hb : b = c) : ∃ rv, resOf e s [.tmp a] = some rv ∧ leave st s rv = (.int k c, st) := by
  subst hb; exact ret1 ha rfl hk ⟨fun _ => rfl, fun _ _ => rfl⟩

end Go.Ab

/-
  The calendar: plain.
-/
namespace Go.Ab
set_option linter.unusedVariables false
set_option linter.unusedSimpArgs false
set_option maxRecDepth 20000

/-- Is a year a leap year? -/
def lpY (y : Nat) : Bool := (y % 4 == 0 && y % 100 != 0) || y % 400 == 0
/-- How many days a year has. -/
def ydY (y : Nat) : Nat := if lpY y then 366 else 365
/-- How many days lie ahead of a year, from 1970 on. -/
def befY (y : Nat) : Nat := 365 * (y - 1970) + (y - 1) / 4 + (y - 1) / 400 - ((y - 1) / 100 + 477)
/-- How many days a month has. -/
def mdY (y m : Nat) : Nat := if m = 2 then (if lpY y then 29 else 28) else if m = 4 ∨ m = 6 ∨ m = 9 ∨ m = 11 then 30 else 31
/-- How many days of the year lie ahead of a month. -/
def cumY (y : Nat) : Nat → Nat
  | 0 => 0
  | m + 1 => cumY y m + if m = 0 then 0 else mdY y m

theorem lp_cases (y : Nat) : (lpY y = true ∧ (y % 4 = 0 ∧ y % 100 ≠ 0 ∨ y % 400 = 0)) ∨ (lpY y = false ∧ ¬ (y % 4 = 0 ∧ y % 100 ≠ 0 ∨ y % 400 = 0)) := by
  by_cases h1 : y % 4 = 0 <;> by_cases h2 : y % 100 = 0 <;> by_cases h3 : y % 400 = 0 <;> simp [lpY, h1, h2, h3]

theorem bef_1 (k : Nat) : befY (1970 + k) = 365 * k + (1969 + k) / 4 + (1969 + k) / 400 - ((1969 + k) / 100 + 477) := by
  unfold befY
  rw [show 1970 + k - 1970 = k by omega, show 1970 + k - 1 = 1969 + k by omega]
theorem bef_2 (k : Nat) : befY (1970 + k + 1) = 365 * (k + 1) + (1970 + k) / 4 + (1970 + k) / 400 - ((1970 + k) / 100 + 477) := by
  unfold befY
  rw [show 1970 + k + 1 - 1970 = k + 1 by omega, show 1970 + k + 1 - 1 = 1970 + k by omega]
theorem bef_succ {y : Nat} (h : 1970 ≤ y) : befY (y + 1) = befY y + ydY y := by
  obtain ⟨k, rfl⟩ : ∃ k, y = 1970 + k := ⟨y - 1970, by omega⟩
  by_cases hk : k = 0
  · subst hk; decide
  rw [bef_1, bef_2]
  rcases lp_cases (1970 + k) with ⟨h1, h2⟩ | ⟨h1, h2⟩
  · rw [show ydY (1970 + k) = 366 by unfold ydY; rw [h1]; rfl]; omega
  · rw [show ydY (1970 + k) = 365 by unfold ydY; rw [h1]; rfl]; omega

theorem yd_bound (y : Nat) : 365 ≤ ydY y ∧ ydY y ≤ 366 := by
  rcases lp_cases y with ⟨h1, h2⟩ | ⟨h1, h2⟩ <;> simp [ydY, h1]

theorem bef_mono {a : Nat} (ha : 1970 ≤ a) : ∀ {b : Nat}, a ≤ b → befY a ≤ befY b := by
  intro b h
  induction b with
  | zero => omega
  | succ b ih =>
    by_cases hb : a = b + 1
    · subst hb; exact Nat.le_refl _
    · have := ih (by omega)
      have h2 := bef_succ (y := b) (by omega)
      omega

theorem md_bound (y m : Nat) : 28 ≤ mdY y m ∧ mdY y m ≤ 31 := by
  unfold mdY; split
  · split <;> omega
  · split <;> omega

theorem cum_succ (y : Nat) {m : Nat} (h : m ≠ 0) : cumY y (m + 1) = cumY y m + mdY y m := by simp [cumY, h]
theorem cum_13 (y : Nat) : cumY y 13 = ydY y := by
  rcases lp_cases y with ⟨h1, h2⟩ | ⟨h1, h2⟩ <;> simp [cumY, mdY, ydY, h1]
theorem cum_1 (y : Nat) : cumY y 1 = 0 := rfl
theorem cum_mono (y : Nat) {a : Nat} : ∀ {b : Nat}, a ≤ b → cumY y a ≤ cumY y b := by
  intro b h
  induction b with
  | zero => have : a = 0 := by omega
            subst this; exact Nat.le_refl _
  | succ b ih =>
    by_cases hb : a = b + 1
    · subst hb; exact Nat.le_refl _
    · have := ih (by omega)
      simp only [cumY]; omega

/-- The day n is the day d of the month m of the year y. -/
structure Ci (n y m d : Nat) : Prop where
  y1 : 1970 ≤ y
  y2 : y ≤ 9999
  m1 : 1 ≤ m
  m2 : m ≤ 12
  d1 : 1 ≤ d
  d2 : d ≤ mdY y m
  eq : n + 1 = befY y + cumY y m + d

theorem Ci.yr {n y m d : Nat} (h : Ci n y m d) : befY y ≤ n ∧ n < befY (y + 1) := by
  have h1 := bef_succ h.y1
  have h2 := cum_succ y (m := m) (by have := h.m1; omega)
  have h3 := cum_mono y (a := m + 1) (b := 13) (by have := h.m2; omega)
  have h4 := cum_13 y
  have := h.d1; have := h.d2; have := h.eq
  omega

theorem bef_1970 : befY 1970 = 0 := by decide
theorem bef_10000 : befY 10000 = 2932897 := by decide

theorem ci_le {n y m d : Nat} (h : Ci n y m d) : n ≤ 2932896 := by
  have := h.yr
  have := bef_mono (a := y + 1) (b := 10000) (by have := h.y1; omega) (by have := h.y2; omega)
  have := bef_10000; omega

end Go.Ab

/-
  Ids: plain.
-/
namespace Go.Ab
set_option linter.unusedVariables false
set_option linter.unusedSimpArgs false

end Go.Ab

/-
  What may be an address; its normal form; an address without a name.
-/
namespace Go.Ab
set_option linter.unusedVariables false
set_option linter.unusedSimpArgs false
variable {st s : St} {e : Env}

theorem split_len {sep : UInt8} : ∀ (l acc : Bs), ∀ x ∈ splitOn sep acc l, x.length ≤ acc.length + l.length := by
  intro l
  induction l with
  | nil => intro acc x hx; simp [splitOn] at hx; subst hx; simp
  | cons d r ih =>
    intro acc x hx
    simp only [splitOn] at hx
    split at hx
    · rcases List.mem_cons.1 hx with rfl | hx
      · simp
      · have := ih [] x hx; simp at this ⊢; omega
    · have := ih (acc ++ [d]) x hx; simp at this ⊢; omega
theorem split_num {sep : UInt8} : ∀ (l acc : Bs), (splitOn sep acc l).length ≤ l.length + 1 := by
  intro l
  induction l with
  | nil => intro acc; simp [splitOn]
  | cons d r ih =>
    intro acc
    simp only [splitOn]
    split
    · have := ih []; simp; omega
    · have := ih (acc ++ [d]); simp; omega
theorem Split_spec {l : Bs} {c : UInt8} (hl : l.length ≤ 100000000) : call prog (.fn 133 []) [.str l, .str [c]] st = some (.sl 1 .no ((splitOn c [] l).map .str), st) := by
  rw [call_prim prog_133]
  simp [pStrSplit]
  omega
theorem iaddr_t {x : PV} {xs : List Bs} {k : IntKind} {c : Int} (h : x.vs 1 = some (xs.map .str)) (h1 : 0 ≤ c) (h2 : c.toNat < xs.length) : iaddrPV 1 x (.int k c) = some (.cp [.str (xs.getD c.toNat [])]) := by
  rw [iaddr_vs h h1 (by simpa using h2)]
  simp [List.getD, h2, PV.cells]
/-! ### Three texts in a box -/
variable {B : List (List PV)} {T : List Bool} {L : List LoopS} {lo : Nat} {a b c : Bs}
structure okA (a : Adr) : Prop where
  n : a.1.length ≤ 100000000
  l : a.2.1.length ≤ 100000000
  d : a.2.2.length ≤ 100000000

end Go.Ab

/-
  Layer 20: what must come of fixed calls; weekdays.
-/
namespace Go.Ab
set_option linter.unusedVariables false
set_option linter.unusedSimpArgs false
set_option maxRecDepth 20000
variable {st s : St} {e : Env}

theorem al20_0 : evV prog 400 (.fn 260 []) [] ⟨[], [], [], 0⟩ = some (.bool true, ⟨[], [], [], 0⟩) := by kernel_rfl

theorem retV2 {a b : Nat} {v w : PV} (ha : e a = v) (hb : e b = w) (h1 : notTup v = true) (h2 : notTup w = true) (hk : Kept st s) (hf : Flat (.tup [v, w])) : ∃ rv, resOf e s [.tmp a, .tmp b] = some rv ∧ leave st s rv = (.tup [v, w], st) :=
  ⟨.tup [v, w], by simp [resOf, rvAll, rv1, ha, hb, h1, h2, packRes], hk.leave' hf⟩
theorem retII {a b : Nat} {k l : IntKind} {t u : Int} {n m : Int} (ha : e a = .int k t) (hb : e b = .int l n) (hk : Kept st s) (h1 : t = u) (h2 : n = m) : ∃ rv, resOf e s [.tmp a, .tmp b] = some rv ∧ leave st s rv = (.tup [.int k u, .int l m], st) := by
  subst h1 h2; exact retV2 ha hb rfl rfl hk ⟨fun _ => rfl, fun _ _ => rfl⟩
/-- A day's weekday. -/
def wkOf (d : Int) : Int × Int := if d < 0 ∨ 2932896 < d then (0, 110) else ((d + 3) % 7, 0)
theorem rem_i {k : IntKind} {ek : EK} {a : Int} {c : Int} (h : c ≠ 0) : binPV .rem ek (.int k a) (.int k c) = some (.int k (a.tmod c)) := by simp [binPV, binI, h]
theorem quo_i {ek : EK} {a : Int} {c : Int} (h : 0 < c) (h1 : -9223372036854775808 < a) (h2 : a < 9223372036854775808) : binPV .quo ek (.int .i64 a) (.int .i64 c) = some (.int .i64 (a.tdiv c)) := by
  have h3 : c ≠ 0 := by omega
  simp only [binPV, binI, reduceIte, h3, Option.some.injEq]
  have : (a.tdiv c).natAbs ≤ a.natAbs := by rw [Int.natAbs_tdiv]; exact Nat.div_le_self _ _
  rw [wrap64 (by omega) (by omega)]

theorem Weekday_spec {d : Int} : call prog (.fn 258 []) [.int .i64 d] st = some (.tup [.int .i64 (wkOf d).1, .int .i64 (wkOf d).2], st) := by
  refine call_of_W prog_258 ?_
  unfold F_date_Weekday; dsimp only
  by_cases h : d < 0 ∨ 2932896 < d
  · have e1 : wkOf d = (0, 110) := by simp [wkOf, h]
    rw [e1]
    by_cases h1 : d < 0
    · simp (maxSteps := 1000000) (disch := omega) only [h1, qaaz, qabz, qacz, qadz, qaez, qafz, qagz, qahz, qaiz, qajz, qakz, qalz, qamz, qanz, evOp, qaoz, qapz, qaqz, qarz, qasz, qatz, qauz, qavz,
 ↓reduceIte, Nat.reduceEqDiff, List.nil_append, List.cons_append, List.append_nil, List.map_cons, List.map_nil, qawz, qaxz, qayz, Option.map_some, Option.map_none, qazz, qbaz, qbbz, qbcz, qbdz, qbez, qbfz, qbgz, qbhz, qbiz, qbjz, qbkz, qblz, qbmz, qbnz, qboz,
 qbpz, qbqz, qbrz, qbsz, qbtz, qbuz, qbvz, qbwz, qbxz, qbyz, qbzz, qcaz, qcbz, qccz, qcdz, qcez, qcfz, qcgz, qchz, qciz, beq_true, beq_false, Bool.not_eq_true', decide_eq_true_eq, decide_eq_false_iff_not, decide_true, decide_false,
 Int.toNat_natCast, Int.ofNat_lt, Int.ofNat_le, Int.natCast_inj, Bool.false_eq_true, Bool.true_eq_false, qcjz, List.getElem?_cons_zero, List.getElem?_cons_succ, qckz, Int.reduceToNat, Int.reduceLE, true_and, and_true, reduceCtorEq, or_false, false_or, or_true, Option.some.injEq, exists_eq_left', Bool.not_true, Bool.not_false, ne_eq, Int.reduceEq, not_true_eq_false, not_false_eq_true, Int.reduceLT, UInt8.reduceLT, UInt8.reduceLE, UInt8.reduceToNat]
      exact retII rfl rfl Kept.start rfl rfl
    · have h2 : 2932896 < d := by omega
      simp (maxSteps := 1000000) (disch := omega) only [h1, h2, qaaz, qabz, qacz, qadz, qaez, qafz, qagz, qahz, qaiz, qajz, qakz, qalz, qamz, qanz, evOp, qaoz, qapz, qaqz, qarz, qasz, qatz, qauz, qavz,
 ↓reduceIte, Nat.reduceEqDiff, List.nil_append, List.cons_append, List.append_nil, List.map_cons, List.map_nil, qawz, qaxz, qayz, Option.map_some, Option.map_none, qazz, qbaz, qbbz, qbcz, qbdz, qbez, qbfz, qbgz, qbhz, qbiz, qbjz, qbkz, qblz, qbmz, qbnz, qboz,
 qbpz, qbqz, qbrz, qbsz, qbtz, qbuz, qbvz, qbwz, qbxz, qbyz, qbzz, qcaz, qcbz, qccz, qcdz, qcez, qcfz, qcgz, qchz, qciz, beq_true, beq_false, Bool.not_eq_true', decide_eq_true_eq, decide_eq_false_iff_not, decide_true, decide_false,
 Int.toNat_natCast, Int.ofNat_lt, Int.ofNat_le, Int.natCast_inj, Bool.false_eq_true, Bool.true_eq_false, qcjz, List.getElem?_cons_zero, List.getElem?_cons_succ, qckz, Int.reduceToNat, Int.reduceLE, true_and, and_true, reduceCtorEq, or_false, false_or, or_true, Option.some.injEq, exists_eq_left', Bool.not_true, Bool.not_false, ne_eq, Int.reduceEq, not_true_eq_false, not_false_eq_true, Int.reduceLT, UInt8.reduceLT, UInt8.reduceLE, UInt8.reduceToNat]
      exact retII rfl rfl Kept.start rfl rfl
  · have e1 : wkOf d = ((d + 3) % 7, 0) := by simp [wkOf, h]
    rw [e1]
    have h1 : ¬ d < 0 := by omega
    have h2 : ¬ 2932896 < d := by omega
    simp (maxSteps := 1000000) (disch := omega) only [h1, h2, add_i, rem_i, Int.tmod_eq_emod_of_nonneg (show 0 ≤ d + 3 by omega), qaaz, qabz, qacz, qadz, qaez, qafz, qagz, qahz, qaiz, qajz, qakz, qalz, qamz, qanz, evOp, qaoz, qapz, qaqz, qarz, qasz, qatz, qauz, qavz,
 ↓reduceIte, Nat.reduceEqDiff, List.nil_append, List.cons_append, List.append_nil, List.map_cons, List.map_nil, qawz, qaxz, qayz, Option.map_some, Option.map_none, qazz, qbaz, qbbz, qbcz, qbdz, qbez, qbfz, qbgz, qbhz, qbiz, qbjz, qbkz, qblz, qbmz, qbnz, qboz,
 qbpz, qbqz, qbrz, qbsz, qbtz, qbuz, qbvz, qbwz, qbxz, qbyz, qbzz, qcaz, qcbz, qccz, qcdz, qcez, qcfz, qcgz, qchz, qciz, beq_true, beq_false, Bool.not_eq_true', decide_eq_true_eq, decide_eq_false_iff_not, decide_true, decide_false,
 Int.toNat_natCast, Int.ofNat_lt, Int.ofNat_le, Int.natCast_inj, Bool.false_eq_true, Bool.true_eq_false, qcjz, List.getElem?_cons_zero, List.getElem?_cons_succ, qckz, Int.reduceToNat, Int.reduceLE, true_and, and_true, reduceCtorEq, or_false, false_or, or_true, Option.some.injEq, exists_eq_left', Bool.not_true, Bool.not_false, ne_eq, Int.reduceEq, not_true_eq_false, not_false_eq_true, Int.reduceLT, UInt8.reduceLT, UInt8.reduceLE, UInt8.reduceToNat]
    exact retII rfl rfl Kept.start rfl rfl

end Go.Ab

/-
  Ids are written.
-/
namespace Go.Ab
set_option linter.unusedVariables false
set_option linter.unusedSimpArgs false
set_option maxRecDepth 20000
variable {st s : St} {e : Env}

theorem Right_w {t : Int} : call prog (.fn 199 []) [.int .i64 t] st = some (.bool (decide (0 ≤ t ∧ t ≤ 253402300799)), st) := by
  refine call_of_W prog_199 ?_
  unfold F_when_Right; dsimp only
  by_cases h1 : 0 ≤ t
  · by_cases h2 : t ≤ 253402300799
    · simp (maxSteps := 1000000) (disch := omega) only [h1, h2, qaaz, qabz, qacz, qadz, qaez, qafz, qagz, qahz, qaiz, qajz, qakz, qalz, qamz, qanz, evOp, qaoz, qapz, qaqz, qarz, qasz, qatz, qauz, qavz,
 ↓reduceIte, Nat.reduceEqDiff, List.nil_append, List.cons_append, List.append_nil, List.map_cons, List.map_nil, qawz, qaxz, qayz, Option.map_some, Option.map_none, qazz, qbaz, qbbz, qbcz, qbdz, qbez, qbfz, qbgz, qbhz, qbiz, qbjz, qbkz, qblz, qbmz, qbnz, qboz,
 qbpz, qbqz, qbrz, qbsz, qbtz, qbuz, qbvz, qbwz, qbxz, qbyz, qbzz, qcaz, qcbz, qccz, qcdz, qcez, qcfz, qcgz, qchz, qciz, beq_true, beq_false, Bool.not_eq_true', decide_eq_true_eq, decide_eq_false_iff_not, decide_true, decide_false,
 Int.toNat_natCast, Int.ofNat_lt, Int.ofNat_le, Int.natCast_inj, Bool.false_eq_true, Bool.true_eq_false, qcjz, List.getElem?_cons_zero, List.getElem?_cons_succ, qckz, Int.reduceToNat, Int.reduceLE, true_and, and_true, reduceCtorEq, or_false, false_or, or_true, Option.some.injEq, exists_eq_left', Bool.not_true, Bool.not_false, ne_eq, Int.reduceEq, not_true_eq_false, not_false_eq_true, Int.reduceLT, UInt8.reduceLT, UInt8.reduceLE, UInt8.reduceToNat]
      exact retB rfl Kept.start (by simp [h1, h2])
    · simp (maxSteps := 1000000) (disch := omega) only [h1, h2, qaaz, qabz, qacz, qadz, qaez, qafz, qagz, qahz, qaiz, qajz, qakz, qalz, qamz, qanz, evOp, qaoz, qapz, qaqz, qarz, qasz, qatz, qauz, qavz,
 ↓reduceIte, Nat.reduceEqDiff, List.nil_append, List.cons_append, List.append_nil, List.map_cons, List.map_nil, qawz, qaxz, qayz, Option.map_some, Option.map_none, qazz, qbaz, qbbz, qbcz, qbdz, qbez, qbfz, qbgz, qbhz, qbiz, qbjz, qbkz, qblz, qbmz, qbnz, qboz,
 qbpz, qbqz, qbrz, qbsz, qbtz, qbuz, qbvz, qbwz, qbxz, qbyz, qbzz, qcaz, qcbz, qccz, qcdz, qcez, qcfz, qcgz, qchz, qciz, beq_true, beq_false, Bool.not_eq_true', decide_eq_true_eq, decide_eq_false_iff_not, decide_true, decide_false,
 Int.toNat_natCast, Int.ofNat_lt, Int.ofNat_le, Int.natCast_inj, Bool.false_eq_true, Bool.true_eq_false, qcjz, List.getElem?_cons_zero, List.getElem?_cons_succ, qckz, Int.reduceToNat, Int.reduceLE, true_and, and_true, reduceCtorEq, or_false, false_or, or_true, Option.some.injEq, exists_eq_left', Bool.not_true, Bool.not_false, ne_eq, Int.reduceEq, not_true_eq_false, not_false_eq_true, Int.reduceLT, UInt8.reduceLT, UInt8.reduceLE, UInt8.reduceToNat]
      exact retB rfl Kept.start (by simp [h1, h2])
  · simp (maxSteps := 1000000) (disch := omega) only [h1, qaaz, qabz, qacz, qadz, qaez, qafz, qagz, qahz, qaiz, qajz, qakz, qalz, qamz, qanz, evOp, qaoz, qapz, qaqz, qarz, qasz, qatz, qauz, qavz,
 ↓reduceIte, Nat.reduceEqDiff, List.nil_append, List.cons_append, List.append_nil, List.map_cons, List.map_nil, qawz, qaxz, qayz, Option.map_some, Option.map_none, qazz, qbaz, qbbz, qbcz, qbdz, qbez, qbfz, qbgz, qbhz, qbiz, qbjz, qbkz, qblz, qbmz, qbnz, qboz,
 qbpz, qbqz, qbrz, qbsz, qbtz, qbuz, qbvz, qbwz, qbxz, qbyz, qbzz, qcaz, qcbz, qccz, qcdz, qcez, qcfz, qcgz, qchz, qciz, beq_true, beq_false, Bool.not_eq_true', decide_eq_true_eq, decide_eq_false_iff_not, decide_true, decide_false,
 Int.toNat_natCast, Int.ofNat_lt, Int.ofNat_le, Int.natCast_inj, Bool.false_eq_true, Bool.true_eq_false, qcjz, List.getElem?_cons_zero, List.getElem?_cons_succ, qckz, Int.reduceToNat, Int.reduceLE, true_and, and_true, reduceCtorEq, or_false, false_or, or_true, Option.some.injEq, exists_eq_left', Bool.not_true, Bool.not_false, ne_eq, Int.reduceEq, not_true_eq_false, not_false_eq_true, Int.reduceLT, UInt8.reduceLT, UInt8.reduceLE, UInt8.reduceToNat]
    exact retB rfl Kept.start (by simp [h1])

end Go.Ab

/-
  Dates: two digits, names, the calendar's walk (the program's).
-/
namespace Go.Ab
set_option linter.unusedVariables false
set_option linter.unusedSimpArgs false
set_option maxRecDepth 20000
variable {st s : St} {e : Env}

theorem quo_n {ek : EK} {a c : Nat} (hc : 0 < c) (h : a < 9223372036854775808) : binPV .quo ek (.int .i64 (a : Int)) (.int .i64 (c : Int)) = some (.int .i64 ((a / c : Nat) : Int)) := by
  rw [quo_i (by omega) (by omega) (by omega)]; rfl
theorem rem_n {ek : EK} {a c : Nat} (hc : 0 < c) : binPV .rem ek (.int .i64 (a : Int)) (.int .i64 (c : Int)) = some (.int .i64 ((a % c : Nat) : Int)) := by
  rw [rem_i (by omega)]; rfl
theorem mul_n {ek : EK} {a c : Nat} (h : c * a < 9223372036854775808) : binPV .mul ek (.int .i64 (c : Int)) (.int .i64 (a : Int)) = some (.int .i64 ((c * a : Nat) : Int)) := by
  have e : (c : Int) * (a : Int) = ((c * a : Nat) : Int) := by rw [Int.natCast_mul]
  simp only [binPV, binI, reduceIte, Option.some.injEq]
  rw [e, wrap64 (by omega) (by omega)]
def dayNames : List Bs := [[77, 111, 110], [84, 117, 101], [87, 101, 100], [84, 104, 117], [70, 114, 105], [83, 97, 116], [83, 117, 110]]
def dayT (n : Nat) : Bs := dayNames.getD n []
def monNames : List Bs := [[], [74, 97, 110], [70, 101, 98], [77, 97, 114], [65, 112, 114], [77, 97, 121], [74, 117, 110], [74, 117, 108], [65, 117, 103], [83, 101, 112], [79, 99, 116], [78, 111, 118], [68, 101, 99]]
def monT (n : Nat) : Bs := monNames.getD n []

/-- A value that leads nowhere. -/
def plainP : PV → Bool
  | .int _ _ | .str _ | .b8 _ | .bool _ => true
  | _ => false
theorem plainP_inB {n : Nat} : ∀ cs : List PV, cs.all plainP = true → PV.inB.inBAll n cs = true ∧ cs.all leafOk = true ∧ hasTok cs = false
  | [], _ => ⟨rfl, rfl, rfl⟩
  | c :: cs, h => by
    simp only [List.all_cons, Bool.and_eq_true] at h
    obtain ⟨a, b, d⟩ := plainP_inB (n := n) cs h.2
    simp only [hasTok] at d
    cases c <;> simp_all [plainP, PV.inB.inBAll, PV.inB, leafOk, hasTok, tokOf]
theorem setRow_all : ∀ (vs pre z : List PV), z.length = vs.length → setCells (pre ++ z) pre.length vs = pre ++ vs
  | [], pre, z, h => by
    have : z = [] := List.length_eq_zero_iff.1 h
    subst this; rfl
  | v :: vs, pre, z, h => by
    cases z with
    | nil => simp at h
    | cons y z =>
      rw [setCells, List.set_append_right _ _ (Nat.le_refl _), Nat.sub_self, List.set_cons_zero]
      have := setRow_all vs (pre ++ [v]) z (by simpa using h)
      simpa using this
/-- A row of plain values is put into a new box. -/
theorem st_all {B : List (List PV)} {T : List Bool} {L : List LoopS} {lo n : Nat} {cs z : List PV} (hn : n = cs.length) (hl : z.length = cs.length) (hf : cs.all plainP = true) :
    storePV ⟨B ++ [z], T, L, lo⟩ n (.ptr B.length 0) (.agg cs) = some ⟨B ++ [cs], T, L, lo⟩ := by
  subst hn
  obtain ⟨a, b, d⟩ := plainP_inB (n := B.length + 1) cs hf
  have hs := setRow_all cs [] z hl
  simp only [List.nil_append, List.length_nil] at hs
  simp [storePV, PV.cells, PV.inB, a, b, d, hs, hl]
theorem ld_at {B : List (List PV)} {T : List Bool} {L : List LoopS} {lo : Nat} {cs : List PV} {i : Nat} {v : PV} (h : cs[i]? = some v) : loadPV ⟨B ++ [cs], T, L, lo⟩ false 1 (.ptr B.length (0 + i * 1)) = some v := by
  have hi := (List.getElem?_eq_some_iff.1 h)
  simp only [loadPV]
  rw [List.getElem?_append_right (Nat.le_refl _), Nat.sub_self]
  simp only [List.getElem?_cons_zero, readCells, Bool.false_eq_true, if_false]
  obtain ⟨h1, h2⟩ := hi
  rw [show 0 + i * 1 = i by omega, List.drop_eq_getElem_cons h1]
  simp only [h2]
theorem iaA {len b : Nat} {n : Int} (h0 : 0 ≤ n) (h1 : n < (len : Int)) : iaddrAPV len 1 (.ptr b 0) (.int .i64 n) = some (.ptr b (0 + n.toNat * 1)) := by
  simp [iaddrAPV, intOf, h0, h1, faddrPV]

theorem dayName_spec {n : Nat} (h : n < 7) : call prog (.fn 277 []) [.int .i64 (n : Int)] st = some (.str (dayT n), st) := by
  refine call_of_W prog_277 ?_
  unfold F_date_dayName; dsimp only
  have hb : buildCells [.str [], .str [], .str [], .str [], .str [], .str [], .str []] [(0, 1, .str [77, 111, 110]), (1, 1, .str [84, 117, 101]), (2, 1, .str [87, 101, 100]), (3, 1, .str [84, 104, 117]), (4, 1, .str [70, 114, 105]), (5, 1, .str [83, 97, 116]), (6, 1, .str [83, 117, 110])] = some (dayNames.map .str) := by rfl
  have hst : storePV ⟨st.boxes ++ [[.str [], .str [], .str [], .str [], .str [], .str [], .str []]], st.toks, st.loops, st.boxes.length⟩ 7 (.ptr st.boxes.length 0) (.agg (dayNames.map .str)) = some ⟨st.boxes ++ [dayNames.map .str], st.toks, st.loops, st.boxes.length⟩ := st_all rfl rfl rfl
  have hld : loadPV ⟨st.boxes ++ [dayNames.map .str], st.toks, st.loops, st.boxes.length⟩ false 1 (.ptr st.boxes.length (0 + ((n : Int)).toNat * 1)) = some (.str (dayT n)) := ld_at (by
    simp only [Int.toNat_natCast, List.getElem?_map]
    have h7 : n < dayNames.length := h
    simp [dayT, List.getD, h7])
  have hia : iaddrAPV 7 1 (.ptr st.boxes.length 0) (.int .i64 (n : Int)) = some (.ptr st.boxes.length (0 + ((n : Int)).toNat * 1)) := iaA (by omega) (by omega)
  simp only [Int.toNat_natCast] at hld hia
  simp (maxSteps := 1000000) (disch := omega) only [hb, allocPV, hst, hia, hld, qaaz, qabz, qacz, qadz, qaez, qafz, qagz, qahz, qaiz, qajz, qakz, qalz, qamz, qanz, evOp, qaoz, qapz, qaqz, qarz, qasz, qatz, qauz, qavz,
 ↓reduceIte, Nat.reduceEqDiff, List.nil_append, List.cons_append, List.append_nil, List.map_cons, List.map_nil, qawz, qaxz, qayz, Option.map_some, Option.map_none, qazz, qbaz, qbbz, qbcz, qbdz, qbez, qbfz, qbgz, qbhz, qbiz, qbjz, qbkz, qblz, qbmz, qbnz, qboz,
 qbpz, qbqz, qbrz, qbsz, qbtz, qbuz, qbvz, qbwz, qbxz, qbyz, qbzz, qcaz, qcbz, qccz, qcdz, qcez, qcfz, qcgz, qchz, qciz, beq_true, beq_false, Bool.not_eq_true', decide_eq_true_eq, decide_eq_false_iff_not, decide_true, decide_false,
 Int.toNat_natCast, Int.ofNat_lt, Int.ofNat_le, Int.natCast_inj, Bool.false_eq_true, Bool.true_eq_false, qcjz, List.getElem?_cons_zero, List.getElem?_cons_succ, qckz, Int.reduceToNat, Int.reduceLE, true_and, and_true, reduceCtorEq, or_false, false_or, or_true, Option.some.injEq, exists_eq_left', Bool.not_true, Bool.not_false, ne_eq, Int.reduceEq, not_true_eq_false, not_false_eq_true, Int.reduceLT, UInt8.reduceLT, UInt8.reduceLE, UInt8.reduceToNat]
  exact retS rfl Kept.start.alloc rfl
theorem monthName_spec {n : Nat} (h : n < 13) : call prog (.fn 278 []) [.int .i64 (n : Int)] st = some (.str (monT n), st) := by
  refine call_of_W prog_278 ?_
  unfold F_date_monthName; dsimp only
  have hb : buildCells [.str [], .str [], .str [], .str [], .str [], .str [], .str [], .str [], .str [], .str [], .str [], .str [], .str []] [(0, 1, .str []), (1, 1, .str [74, 97, 110]), (2, 1, .str [70, 101, 98]), (3, 1, .str [77, 97, 114]), (4, 1, .str [65, 112, 114]), (5, 1, .str [77, 97, 121]), (6, 1, .str [74, 117, 110]), (7, 1, .str [74, 117, 108]), (8, 1, .str [65, 117, 103]), (9, 1, .str [83, 101, 112]), (10, 1, .str [79, 99, 116]), (11, 1, .str [78, 111, 118]), (12, 1, .str [68, 101, 99])] = some (monNames.map .str) := by rfl
  have hst : storePV ⟨st.boxes ++ [[.str [], .str [], .str [], .str [], .str [], .str [], .str [], .str [], .str [], .str [], .str [], .str [], .str []]], st.toks, st.loops, st.boxes.length⟩ 13 (.ptr st.boxes.length 0) (.agg (monNames.map .str)) = some ⟨st.boxes ++ [monNames.map .str], st.toks, st.loops, st.boxes.length⟩ := st_all rfl rfl rfl
  have hld : loadPV ⟨st.boxes ++ [monNames.map .str], st.toks, st.loops, st.boxes.length⟩ false 1 (.ptr st.boxes.length (0 + ((n : Int)).toNat * 1)) = some (.str (monT n)) := ld_at (by
    simp only [Int.toNat_natCast, List.getElem?_map]
    have h7 : n < monNames.length := h
    simp [monT, List.getD, h7])
  have hia : iaddrAPV 13 1 (.ptr st.boxes.length 0) (.int .i64 (n : Int)) = some (.ptr st.boxes.length (0 + ((n : Int)).toNat * 1)) := iaA (by omega) (by omega)
  simp only [Int.toNat_natCast] at hld hia
  simp (maxSteps := 1000000) (disch := omega) only [hb, allocPV, hst, hia, hld, qaaz, qabz, qacz, qadz, qaez, qafz, qagz, qahz, qaiz, qajz, qakz, qalz, qamz, qanz, evOp, qaoz, qapz, qaqz, qarz, qasz, qatz, qauz, qavz,
 ↓reduceIte, Nat.reduceEqDiff, List.nil_append, List.cons_append, List.append_nil, List.map_cons, List.map_nil, qawz, qaxz, qayz, Option.map_some, Option.map_none, qazz, qbaz, qbbz, qbcz, qbdz, qbez, qbfz, qbgz, qbhz, qbiz, qbjz, qbkz, qblz, qbmz, qbnz, qboz,
 qbpz, qbqz, qbrz, qbsz, qbtz, qbuz, qbvz, qbwz, qbxz, qbyz, qbzz, qcaz, qcbz, qccz, qcdz, qcez, qcfz, qcgz, qchz, qciz, beq_true, beq_false, Bool.not_eq_true', decide_eq_true_eq, decide_eq_false_iff_not, decide_true, decide_false,
 Int.toNat_natCast, Int.ofNat_lt, Int.ofNat_le, Int.natCast_inj, Bool.false_eq_true, Bool.true_eq_false, qcjz, List.getElem?_cons_zero, List.getElem?_cons_succ, qckz, Int.reduceToNat, Int.reduceLE, true_and, and_true, reduceCtorEq, or_false, false_or, or_true, Option.some.injEq, exists_eq_left', Bool.not_true, Bool.not_false, ne_eq, Int.reduceEq, not_true_eq_false, not_false_eq_true, Int.reduceLT, UInt8.reduceLT, UInt8.reduceLE, UInt8.reduceToNat]
  exact retS rfl Kept.start.alloc rfl

set_option maxHeartbeats 2000000 in
theorem leap_spec {y : Nat} : call prog (.fn 315 []) [.int .i64 (y : Int)] st = some (.bool (lpY y), st) := by
  refine call_of_W prog_315 ?_
  unfold F_when_leap; dsimp only
  have r4 : binPV .rem .no (.int .i64 (y : Int)) (.int .i64 4) = some (.int .i64 ((y % 4 : Nat) : Int)) := rem_n (c := 4) (by omega)
  have r100 : binPV .rem .no (.int .i64 (y : Int)) (.int .i64 100) = some (.int .i64 ((y % 100 : Nat) : Int)) := rem_n (c := 100) (by omega)
  have r400 : binPV .rem .no (.int .i64 (y : Int)) (.int .i64 400) = some (.int .i64 ((y % 400 : Nat) : Int)) := rem_n (c := 400) (by omega)
  have hl : lpY y = ((y % 4 == 0 && y % 100 != 0) || y % 400 == 0) := rfl
  generalize y % 4 = a at r4 hl
  generalize y % 100 = b at r100 hl
  generalize y % 400 = c at r400 hl
  rw [hl]
  clear hl
  have c4 : ((a : Int) = 0) = (a = 0) := by apply propext; omega
  have c100 : ((b : Int) = 0) = (b = 0) := by apply propext; omega
  have c400 : ((c : Int) = 0) = (c = 0) := by apply propext; omega
  have em : ∀ n : Nat, (n = 0) = True ∨ (n = 0) = False := fun n => by by_cases h : n = 0 <;> simp [h]
  rcases em a with h1 | h1 <;> rcases em b with h2 | h2 <;> rcases em c with h3 | h3 <;> simp (maxSteps := 1000000) (disch := omega) only [r4, r100, r400, c4, c100, c400, h1, h2, h3, qaaz, qabz, qacz, qadz, qaez, qafz, qagz, qahz, qaiz, qajz, qakz, qalz, qamz, qanz, evOp, qaoz, qapz, qaqz, qarz, qasz, qatz, qauz, qavz,
 ↓reduceIte, Nat.reduceEqDiff, List.nil_append, List.cons_append, List.append_nil, List.map_cons, List.map_nil, qawz, qaxz, qayz, Option.map_some, Option.map_none, qazz, qbaz, qbbz, qbcz, qbdz, qbez, qbfz, qbgz, qbhz, qbiz, qbjz, qbkz, qblz, qbmz, qbnz, qboz,
 qbpz, qbqz, qbrz, qbsz, qbtz, qbuz, qbvz, qbwz, qbxz, qbyz, qbzz, qcaz, qcbz, qccz, qcdz, qcez, qcfz, qcgz, qchz, qciz, beq_true, beq_false, Bool.not_eq_true', decide_eq_true_eq, decide_eq_false_iff_not, decide_true, decide_false,
 Int.toNat_natCast, Int.ofNat_lt, Int.ofNat_le, Int.natCast_inj, Bool.false_eq_true, Bool.true_eq_false, qcjz, List.getElem?_cons_zero, List.getElem?_cons_succ, qckz, Int.reduceToNat, Int.reduceLE, true_and, and_true, reduceCtorEq, or_false, false_or, or_true, Option.some.injEq, exists_eq_left', Bool.not_true, Bool.not_false, ne_eq, Int.reduceEq, not_true_eq_false, not_false_eq_true, Int.reduceLT, UInt8.reduceLT, UInt8.reduceLE, UInt8.reduceToNat]
  all_goals first | exact retB (b := true) rfl Kept.start (by show _ = ((decide (a = 0) && !decide (b = 0)) || decide (c = 0)); simp [h1, h2, h3]) | exact retB (b := false) rfl Kept.start (by show _ = ((decide (a = 0) && !decide (b = 0)) || decide (c = 0)); simp [h1, h2, h3])

theorem before_spec {y : Nat} (h1 : 1970 ≤ y) (h2 : y ≤ 10000) : call prog (.fn 306 []) [.int .i64 (y : Int)] st = some (.int .i64 (befY y : Int), st) := by
  refine call_of_W prog_306 ?_
  unfold F_when_before; dsimp only
  have q4 : ∀ a : Nat, a < 20000 → binPV .quo .no (.int .i64 (a : Int)) (.int .i64 4) = some (.int .i64 ((a / 4 : Nat) : Int)) := fun a ha => quo_n (c := 4) (by omega) (by omega)
  have q100 : ∀ a : Nat, a < 20000 → binPV .quo .no (.int .i64 (a : Int)) (.int .i64 100) = some (.int .i64 ((a / 100 : Nat) : Int)) := fun a ha => quo_n (c := 100) (by omega) (by omega)
  have q400 : ∀ a : Nat, a < 20000 → binPV .quo .no (.int .i64 (a : Int)) (.int .i64 400) = some (.int .i64 ((a / 400 : Nat) : Int)) := fun a ha => quo_n (c := 400) (by omega) (by omega)
  have m365 : ∀ a : Nat, a < 20000 → binPV .mul .no (.int .i64 365) (.int .i64 (a : Int)) = some (.int .i64 ((365 * a : Nat) : Int)) := fun a ha => mul_n (c := 365) (by omega)
  obtain ⟨k, rfl⟩ : ∃ k, y = 1970 + k := ⟨y - 1970, by omega⟩
  have e1 : (1970 + k - 1 : Nat) = 1969 + k := by omega
  have e2 : (1969 + k - 1969 : Nat) = k := by omega
  have hge : 477 ≤ 365 * k + (1969 + k) / 4 - (1969 + k) / 100 + (1969 + k) / 400 := by
    by_cases hk : k = 0
    · subst hk; decide
    · omega
  simp (maxSteps := 1000000) (disch := omega) only [sub_n, e1, e2, q4, q100, q400, m365, add_n, qaaz, qabz, qacz, qadz, qaez, qafz, qagz, qahz, qaiz, qajz, qakz, qalz, qamz, qanz, evOp, qaoz, qapz, qaqz, qarz, qasz, qatz, qauz, qavz,
 ↓reduceIte, Nat.reduceEqDiff, List.nil_append, List.cons_append, List.append_nil, List.map_cons, List.map_nil, qawz, qaxz, qayz, Option.map_some, Option.map_none, qazz, qbaz, qbbz, qbcz, qbdz, qbez, qbfz, qbgz, qbhz, qbiz, qbjz, qbkz, qblz, qbmz, qbnz, qboz,
 qbpz, qbqz, qbrz, qbsz, qbtz, qbuz, qbvz, qbwz, qbxz, qbyz, qbzz, qcaz, qcbz, qccz, qcdz, qcez, qcfz, qcgz, qchz, qciz, beq_true, beq_false, Bool.not_eq_true', decide_eq_true_eq, decide_eq_false_iff_not, decide_true, decide_false,
 Int.toNat_natCast, Int.ofNat_lt, Int.ofNat_le, Int.natCast_inj, Bool.false_eq_true, Bool.true_eq_false, qcjz, List.getElem?_cons_zero, List.getElem?_cons_succ, qckz, Int.reduceToNat, Int.reduceLE, true_and, and_true, reduceCtorEq, or_false, false_or, or_true, Option.some.injEq, exists_eq_left', Bool.not_true, Bool.not_false, ne_eq, Int.reduceEq, not_true_eq_false, not_false_eq_true, Int.reduceLT, UInt8.reduceLT, UInt8.reduceLE, UInt8.reduceToNat]
  refine retI rfl Kept.start ?_
  rw [bef_1]
  by_cases hk : k = 0
  · subst hk; decide
  · omega

def md1 (m : Nat) : Nat := [0, 31, 28, 31, 30, 31, 30, 31, 31, 30, 31, 30, 31].getD m 0
theorem md_1 {y m : Nat} (h1 : 1 ≤ m) (h2 : m ≤ 12) : mdY y m = if m = 2 ∧ lpY y = true then 29 else md1 m := by
  have : m = 1 ∨ m = 2 ∨ m = 3 ∨ m = 4 ∨ m = 5 ∨ m = 6 ∨ m = 7 ∨ m = 8 ∨ m = 9 ∨ m = 10 ∨ m = 11 ∨ m = 12 := by omega
  rcases this with rfl | rfl | rfl | rfl | rfl | rfl | rfl | rfl | rfl | rfl | rfl | rfl <;> simp [mdY, md1]
def mdL : List PV := [.int .i64 0, .int .i64 31, .int .i64 28, .int .i64 31, .int .i64 30, .int .i64 31, .int .i64 30, .int .i64 31, .int .i64 31, .int .i64 30, .int .i64 31, .int .i64 30, .int .i64 31]
theorem mdL_at {m : Nat} (h : m < 13) : mdL[m]? = some (.int .i64 (md1 m : Int)) := by
  have : m = 0 ∨ m = 1 ∨ m = 2 ∨ m = 3 ∨ m = 4 ∨ m = 5 ∨ m = 6 ∨ m = 7 ∨ m = 8 ∨ m = 9 ∨ m = 10 ∨ m = 11 ∨ m = 12 := by omega
  rcases this with rfl | rfl | rfl | rfl | rfl | rfl | rfl | rfl | rfl | rfl | rfl | rfl | rfl <;> rfl
theorem month_spec {y m : Nat} (h1 : 1 ≤ m) (h2 : m ≤ 12) : call prog (.fn 307 []) [.int .i64 (y : Int), .int .i64 (m : Int)] st = some (.int .i64 (mdY y m : Int), st) := by
  refine call_of_W prog_307 ?_
  unfold F_when_month; dsimp only
  have hb : buildCells [.int .i64 0, .int .i64 0, .int .i64 0, .int .i64 0, .int .i64 0, .int .i64 0, .int .i64 0, .int .i64 0, .int .i64 0, .int .i64 0, .int .i64 0, .int .i64 0, .int .i64 0] [(0, 1, .int .i64 0), (1, 1, .int .i64 31), (2, 1, .int .i64 28), (3, 1, .int .i64 31), (4, 1, .int .i64 30), (5, 1, .int .i64 31), (6, 1, .int .i64 30), (7, 1, .int .i64 31), (8, 1, .int .i64 31), (9, 1, .int .i64 30), (10, 1, .int .i64 31), (11, 1, .int .i64 30), (12, 1, .int .i64 31)] = some mdL := by rfl
  have hst : storePV ⟨st.boxes ++ [[.int .i64 0, .int .i64 0, .int .i64 0, .int .i64 0, .int .i64 0, .int .i64 0, .int .i64 0, .int .i64 0, .int .i64 0, .int .i64 0, .int .i64 0, .int .i64 0, .int .i64 0]], st.toks, st.loops, st.boxes.length⟩ 13 (.ptr st.boxes.length 0) (.agg mdL) = some ⟨st.boxes ++ [mdL], st.toks, st.loops, st.boxes.length⟩ := st_all rfl rfl rfl
  have hld : loadPV ⟨st.boxes ++ [mdL], st.toks, st.loops, st.boxes.length⟩ false 1 (.ptr st.boxes.length (0 + ((m : Int)).toNat * 1)) = some (.int .i64 (md1 m : Int)) := ld_at (by
    simp only [Int.toNat_natCast]; exact mdL_at (by omega))
  have hia : iaddrAPV 13 1 (.ptr st.boxes.length 0) (.int .i64 (m : Int)) = some (.ptr st.boxes.length (0 + ((m : Int)).toNat * 1)) := iaA (by omega) (by omega)
  simp only [Int.toNat_natCast] at hld hia
  have c2 : ((m : Int) = 2) = (m = 2) := by apply propext; omega
  have hlp := fun S : St => leap_spec (st := S) (y := y)
  rw [md_1 h1 h2]
  by_cases hm : m = 2
  · cases hl : lpY y with
    | true =>
      rw [hl] at hlp
      simp (maxSteps := 1000000) (disch := omega) only [hb, allocPV, hst, hia, hld, c2, eq_true hm, hlp, qaaz, qabz, qacz, qadz, qaez, qafz, qagz, qahz, qaiz, qajz, qakz, qalz, qamz, qanz, evOp, qaoz, qapz, qaqz, qarz, qasz, qatz, qauz, qavz,
 ↓reduceIte, Nat.reduceEqDiff, List.nil_append, List.cons_append, List.append_nil, List.map_cons, List.map_nil, qawz, qaxz, qayz, Option.map_some, Option.map_none, qazz, qbaz, qbbz, qbcz, qbdz, qbez, qbfz, qbgz, qbhz, qbiz, qbjz, qbkz, qblz, qbmz, qbnz, qboz,
 qbpz, qbqz, qbrz, qbsz, qbtz, qbuz, qbvz, qbwz, qbxz, qbyz, qbzz, qcaz, qcbz, qccz, qcdz, qcez, qcfz, qcgz, qchz, qciz, beq_true, beq_false, Bool.not_eq_true', decide_eq_true_eq, decide_eq_false_iff_not, decide_true, decide_false,
 Int.toNat_natCast, Int.ofNat_lt, Int.ofNat_le, Int.natCast_inj, Bool.false_eq_true, Bool.true_eq_false, qcjz, List.getElem?_cons_zero, List.getElem?_cons_succ, qckz, Int.reduceToNat, Int.reduceLE, true_and, and_true, reduceCtorEq, or_false, false_or, or_true, Option.some.injEq, exists_eq_left', Bool.not_true, Bool.not_false, ne_eq, Int.reduceEq, not_true_eq_false, not_false_eq_true, Int.reduceLT, UInt8.reduceLT, UInt8.reduceLE, UInt8.reduceToNat]
      exact retI rfl Kept.start.alloc (by simp [hm])
    | false =>
      rw [hl] at hlp
      simp (maxSteps := 1000000) (disch := omega) only [hb, allocPV, hst, hia, hld, c2, eq_true hm, hlp, qaaz, qabz, qacz, qadz, qaez, qafz, qagz, qahz, qaiz, qajz, qakz, qalz, qamz, qanz, evOp, qaoz, qapz, qaqz, qarz, qasz, qatz, qauz, qavz,
 ↓reduceIte, Nat.reduceEqDiff, List.nil_append, List.cons_append, List.append_nil, List.map_cons, List.map_nil, qawz, qaxz, qayz, Option.map_some, Option.map_none, qazz, qbaz, qbbz, qbcz, qbdz, qbez, qbfz, qbgz, qbhz, qbiz, qbjz, qbkz, qblz, qbmz, qbnz, qboz,
 qbpz, qbqz, qbrz, qbsz, qbtz, qbuz, qbvz, qbwz, qbxz, qbyz, qbzz, qcaz, qcbz, qccz, qcdz, qcez, qcfz, qcgz, qchz, qciz, beq_true, beq_false, Bool.not_eq_true', decide_eq_true_eq, decide_eq_false_iff_not, decide_true, decide_false,
 Int.toNat_natCast, Int.ofNat_lt, Int.ofNat_le, Int.natCast_inj, Bool.false_eq_true, Bool.true_eq_false, qcjz, List.getElem?_cons_zero, List.getElem?_cons_succ, qckz, Int.reduceToNat, Int.reduceLE, true_and, and_true, reduceCtorEq, or_false, false_or, or_true, Option.some.injEq, exists_eq_left', Bool.not_true, Bool.not_false, ne_eq, Int.reduceEq, not_true_eq_false, not_false_eq_true, Int.reduceLT, UInt8.reduceLT, UInt8.reduceLE, UInt8.reduceToNat]
      exact retI rfl Kept.start.alloc (by simp [hm])
  · simp (maxSteps := 1000000) (disch := omega) only [hb, allocPV, hst, hia, hld, c2, hm, qaaz, qabz, qacz, qadz, qaez, qafz, qagz, qahz, qaiz, qajz, qakz, qalz, qamz, qanz, evOp, qaoz, qapz, qaqz, qarz, qasz, qatz, qauz, qavz,
 ↓reduceIte, Nat.reduceEqDiff, List.nil_append, List.cons_append, List.append_nil, List.map_cons, List.map_nil, qawz, qaxz, qayz, Option.map_some, Option.map_none, qazz, qbaz, qbbz, qbcz, qbdz, qbez, qbfz, qbgz, qbhz, qbiz, qbjz, qbkz, qblz, qbmz, qbnz, qboz,
 qbpz, qbqz, qbrz, qbsz, qbtz, qbuz, qbvz, qbwz, qbxz, qbyz, qbzz, qcaz, qcbz, qccz, qcdz, qcez, qcfz, qcgz, qchz, qciz, beq_true, beq_false, Bool.not_eq_true', decide_eq_true_eq, decide_eq_false_iff_not, decide_true, decide_false,
 Int.toNat_natCast, Int.ofNat_lt, Int.ofNat_le, Int.natCast_inj, Bool.false_eq_true, Bool.true_eq_false, qcjz, List.getElem?_cons_zero, List.getElem?_cons_succ, qckz, Int.reduceToNat, Int.reduceLE, true_and, and_true, reduceCtorEq, or_false, false_or, or_true, Option.some.injEq, exists_eq_left', Bool.not_true, Bool.not_false, ne_eq, Int.reduceEq, not_true_eq_false, not_false_eq_true, Int.reduceLT, UInt8.reduceLT, UInt8.reduceLE, UInt8.reduceToNat]
    exact retI rfl Kept.start.alloc (by simp [hm])
end Go.Ab

/-
  A day's year, month and day: both walks.
-/
namespace Go.Ab
set_option linter.unusedVariables false
set_option linter.unusedSimpArgs false
set_option maxRecDepth 20000
variable {st s : St} {e : Env}

/-! ### The document's -/
theorem Year_spec {y : Nat} : call prog (.fn 308 []) [.int .i64 (y : Int)] st = some (.int .i64 (ydY y : Int), st) := by
  refine call_of_W prog_308 ?_
  unfold F_posthornref12_Year; dsimp only
  have r4 : binPV .rem .no (.int .i64 (y : Int)) (.int .i64 4) = some (.int .i64 ((y % 4 : Nat) : Int)) := rem_n (c := 4) (by omega)
  have r100 : binPV .rem .no (.int .i64 (y : Int)) (.int .i64 100) = some (.int .i64 ((y % 100 : Nat) : Int)) := rem_n (c := 100) (by omega)
  have r400 : binPV .rem .no (.int .i64 (y : Int)) (.int .i64 400) = some (.int .i64 ((y % 400 : Nat) : Int)) := rem_n (c := 400) (by omega)
  have hl : ydY y = if ((y % 4 == 0 && y % 100 != 0) || y % 400 == 0) = true then 366 else 365 := rfl
  generalize y % 4 = a at r4 hl
  generalize y % 100 = b at r100 hl
  generalize y % 400 = c at r400 hl
  rw [hl]
  clear hl
  have c4 : ((a : Int) = 0) = (a = 0) := by apply propext; omega
  have c100 : ((b : Int) = 0) = (b = 0) := by apply propext; omega
  have c400 : ((c : Int) = 0) = (c = 0) := by apply propext; omega
  have em : ∀ n : Nat, (n = 0) = True ∨ (n = 0) = False := fun n => by by_cases h : n = 0 <;> simp [h]
  have hv : ((a == 0 && b != 0) || c == 0) = ((decide (a = 0) && !decide (b = 0)) || decide (c = 0)) := rfl
  rw [hv]
  rcases em a with h1 | h1 <;> rcases em b with h2 | h2 <;> rcases em c with h3 | h3 <;> simp (maxSteps := 1000000) (disch := omega) only [r4, r100, r400, c4, c100, c400, h1, h2, h3, qaaz, qabz, qacz, qadz, qaez, qafz, qagz, qahz, qaiz, qajz, qakz, qalz, qamz, qanz, evOp, qaoz, qapz, qaqz, qarz, qasz, qatz, qauz, qavz,
 ↓reduceIte, Nat.reduceEqDiff, List.nil_append, List.cons_append, List.append_nil, List.map_cons, List.map_nil, qawz, qaxz, qayz, Option.map_some, Option.map_none, qazz, qbaz, qbbz, qbcz, qbdz, qbez, qbfz, qbgz, qbhz, qbiz, qbjz, qbkz, qblz, qbmz, qbnz, qboz,
 qbpz, qbqz, qbrz, qbsz, qbtz, qbuz, qbvz, qbwz, qbxz, qbyz, qbzz, qcaz, qcbz, qccz, qcdz, qcez, qcfz, qcgz, qchz, qciz, beq_true, beq_false, Bool.not_eq_true', decide_eq_true_eq, decide_eq_false_iff_not, decide_true, decide_false,
 Int.toNat_natCast, Int.ofNat_lt, Int.ofNat_le, Int.natCast_inj, Bool.false_eq_true, Bool.true_eq_false, qcjz, List.getElem?_cons_zero, List.getElem?_cons_succ, qckz, Int.reduceToNat, Int.reduceLE, true_and, and_true, reduceCtorEq, or_false, false_or, or_true, Option.some.injEq, exists_eq_left', Bool.not_true, Bool.not_false, ne_eq, Int.reduceEq, not_true_eq_false, not_false_eq_true, Int.reduceLT, UInt8.reduceLT, UInt8.reduceLE, UInt8.reduceToNat]
  all_goals first | exact retI (b := 366) rfl Kept.start rfl | exact retI (b := 365) rfl Kept.start rfl

theorem rMonth_spec {y m : Nat} : call prog (.fn 309 []) [.int .i64 (y : Int), .int .i64 (m : Int)] st = some (.int .i64 (mdY y m : Int), st) := by
  refine call_of_W prog_309 ?_
  unfold F_posthornref12_Month; dsimp only
  have hY := fun S : St => Year_spec (st := S) (y := y)
  have e2 : ((m : Int) = 2) = (m = 2) := by apply propext; omega
  have e4 : ((m : Int) = 4) = (m = 4) := by apply propext; omega
  have e6 : ((m : Int) = 6) = (m = 6) := by apply propext; omega
  have e9 : ((m : Int) = 9) = (m = 9) := by apply propext; omega
  have e11 : ((m : Int) = 11) = (m = 11) := by apply propext; omega
  have hb := yd_bound y
  by_cases h4 : m = 4
  · simp (maxSteps := 1000000) (disch := omega) only [e2, e4, e6, e9, e11, eq_true h4, qaaz, qabz, qacz, qadz, qaez, qafz, qagz, qahz, qaiz, qajz, qakz, qalz, qamz, qanz, evOp, qaoz, qapz, qaqz, qarz, qasz, qatz, qauz, qavz,
 ↓reduceIte, Nat.reduceEqDiff, List.nil_append, List.cons_append, List.append_nil, List.map_cons, List.map_nil, qawz, qaxz, qayz, Option.map_some, Option.map_none, qazz, qbaz, qbbz, qbcz, qbdz, qbez, qbfz, qbgz, qbhz, qbiz, qbjz, qbkz, qblz, qbmz, qbnz, qboz,
 qbpz, qbqz, qbrz, qbsz, qbtz, qbuz, qbvz, qbwz, qbxz, qbyz, qbzz, qcaz, qcbz, qccz, qcdz, qcez, qcfz, qcgz, qchz, qciz, beq_true, beq_false, Bool.not_eq_true', decide_eq_true_eq, decide_eq_false_iff_not, decide_true, decide_false,
 Int.toNat_natCast, Int.ofNat_lt, Int.ofNat_le, Int.natCast_inj, Bool.false_eq_true, Bool.true_eq_false, qcjz, List.getElem?_cons_zero, List.getElem?_cons_succ, qckz, Int.reduceToNat, Int.reduceLE, true_and, and_true, reduceCtorEq, or_false, false_or, or_true, Option.some.injEq, exists_eq_left', Bool.not_true, Bool.not_false, ne_eq, Int.reduceEq, not_true_eq_false, not_false_eq_true, Int.reduceLT, UInt8.reduceLT, UInt8.reduceLE, UInt8.reduceToNat]
    exact retI rfl Kept.start (by simp [mdY, h4])
  by_cases h6 : m = 6
  · simp (maxSteps := 1000000) (disch := omega) only [e2, e4, e6, e9, e11, h4, eq_true h6, qaaz, qabz, qacz, qadz, qaez, qafz, qagz, qahz, qaiz, qajz, qakz, qalz, qamz, qanz, evOp, qaoz, qapz, qaqz, qarz, qasz, qatz, qauz, qavz,
 ↓reduceIte, Nat.reduceEqDiff, List.nil_append, List.cons_append, List.append_nil, List.map_cons, List.map_nil, qawz, qaxz, qayz, Option.map_some, Option.map_none, qazz, qbaz, qbbz, qbcz, qbdz, qbez, qbfz, qbgz, qbhz, qbiz, qbjz, qbkz, qblz, qbmz, qbnz, qboz,
 qbpz, qbqz, qbrz, qbsz, qbtz, qbuz, qbvz, qbwz, qbxz, qbyz, qbzz, qcaz, qcbz, qccz, qcdz, qcez, qcfz, qcgz, qchz, qciz, beq_true, beq_false, Bool.not_eq_true', decide_eq_true_eq, decide_eq_false_iff_not, decide_true, decide_false,
 Int.toNat_natCast, Int.ofNat_lt, Int.ofNat_le, Int.natCast_inj, Bool.false_eq_true, Bool.true_eq_false, qcjz, List.getElem?_cons_zero, List.getElem?_cons_succ, qckz, Int.reduceToNat, Int.reduceLE, true_and, and_true, reduceCtorEq, or_false, false_or, or_true, Option.some.injEq, exists_eq_left', Bool.not_true, Bool.not_false, ne_eq, Int.reduceEq, not_true_eq_false, not_false_eq_true, Int.reduceLT, UInt8.reduceLT, UInt8.reduceLE, UInt8.reduceToNat]
    exact retI rfl Kept.start (by simp [mdY, h6])
  by_cases h9 : m = 9
  · simp (maxSteps := 1000000) (disch := omega) only [e2, e4, e6, e9, e11, h4, h6, eq_true h9, qaaz, qabz, qacz, qadz, qaez, qafz, qagz, qahz, qaiz, qajz, qakz, qalz, qamz, qanz, evOp, qaoz, qapz, qaqz, qarz, qasz, qatz, qauz, qavz,
 ↓reduceIte, Nat.reduceEqDiff, List.nil_append, List.cons_append, List.append_nil, List.map_cons, List.map_nil, qawz, qaxz, qayz, Option.map_some, Option.map_none, qazz, qbaz, qbbz, qbcz, qbdz, qbez, qbfz, qbgz, qbhz, qbiz, qbjz, qbkz, qblz, qbmz, qbnz, qboz,
 qbpz, qbqz, qbrz, qbsz, qbtz, qbuz, qbvz, qbwz, qbxz, qbyz, qbzz, qcaz, qcbz, qccz, qcdz, qcez, qcfz, qcgz, qchz, qciz, beq_true, beq_false, Bool.not_eq_true', decide_eq_true_eq, decide_eq_false_iff_not, decide_true, decide_false,
 Int.toNat_natCast, Int.ofNat_lt, Int.ofNat_le, Int.natCast_inj, Bool.false_eq_true, Bool.true_eq_false, qcjz, List.getElem?_cons_zero, List.getElem?_cons_succ, qckz, Int.reduceToNat, Int.reduceLE, true_and, and_true, reduceCtorEq, or_false, false_or, or_true, Option.some.injEq, exists_eq_left', Bool.not_true, Bool.not_false, ne_eq, Int.reduceEq, not_true_eq_false, not_false_eq_true, Int.reduceLT, UInt8.reduceLT, UInt8.reduceLE, UInt8.reduceToNat]
    exact retI rfl Kept.start (by simp [mdY, h9])
  by_cases h11 : m = 11
  · simp (maxSteps := 1000000) (disch := omega) only [e2, e4, e6, e9, e11, h4, h6, h9, eq_true h11, qaaz, qabz, qacz, qadz, qaez, qafz, qagz, qahz, qaiz, qajz, qakz, qalz, qamz, qanz, evOp, qaoz, qapz, qaqz, qarz, qasz, qatz, qauz, qavz,
 ↓reduceIte, Nat.reduceEqDiff, List.nil_append, List.cons_append, List.append_nil, List.map_cons, List.map_nil, qawz, qaxz, qayz, Option.map_some, Option.map_none, qazz, qbaz, qbbz, qbcz, qbdz, qbez, qbfz, qbgz, qbhz, qbiz, qbjz, qbkz, qblz, qbmz, qbnz, qboz,
 qbpz, qbqz, qbrz, qbsz, qbtz, qbuz, qbvz, qbwz, qbxz, qbyz, qbzz, qcaz, qcbz, qccz, qcdz, qcez, qcfz, qcgz, qchz, qciz, beq_true, beq_false, Bool.not_eq_true', decide_eq_true_eq, decide_eq_false_iff_not, decide_true, decide_false,
 Int.toNat_natCast, Int.ofNat_lt, Int.ofNat_le, Int.natCast_inj, Bool.false_eq_true, Bool.true_eq_false, qcjz, List.getElem?_cons_zero, List.getElem?_cons_succ, qckz, Int.reduceToNat, Int.reduceLE, true_and, and_true, reduceCtorEq, or_false, false_or, or_true, Option.some.injEq, exists_eq_left', Bool.not_true, Bool.not_false, ne_eq, Int.reduceEq, not_true_eq_false, not_false_eq_true, Int.reduceLT, UInt8.reduceLT, UInt8.reduceLE, UInt8.reduceToNat]
    exact retI rfl Kept.start (by simp [mdY, h11])
  by_cases h2 : m = 2
  · simp (maxSteps := 1000000) (disch := omega) only [e2, e4, e6, e9, e11, h4, h6, h9, h11, eq_true h2, hY, sub_n, qaaz, qabz, qacz, qadz, qaez, qafz, qagz, qahz, qaiz, qajz, qakz, qalz, qamz, qanz, evOp, qaoz, qapz, qaqz, qarz, qasz, qatz, qauz, qavz,
 ↓reduceIte, Nat.reduceEqDiff, List.nil_append, List.cons_append, List.append_nil, List.map_cons, List.map_nil, qawz, qaxz, qayz, Option.map_some, Option.map_none, qazz, qbaz, qbbz, qbcz, qbdz, qbez, qbfz, qbgz, qbhz, qbiz, qbjz, qbkz, qblz, qbmz, qbnz, qboz,
 qbpz, qbqz, qbrz, qbsz, qbtz, qbuz, qbvz, qbwz, qbxz, qbyz, qbzz, qcaz, qcbz, qccz, qcdz, qcez, qcfz, qcgz, qchz, qciz, beq_true, beq_false, Bool.not_eq_true', decide_eq_true_eq, decide_eq_false_iff_not, decide_true, decide_false,
 Int.toNat_natCast, Int.ofNat_lt, Int.ofNat_le, Int.natCast_inj, Bool.false_eq_true, Bool.true_eq_false, qcjz, List.getElem?_cons_zero, List.getElem?_cons_succ, qckz, Int.reduceToNat, Int.reduceLE, true_and, and_true, reduceCtorEq, or_false, false_or, or_true, Option.some.injEq, exists_eq_left', Bool.not_true, Bool.not_false, ne_eq, Int.reduceEq, not_true_eq_false, not_false_eq_true, Int.reduceLT, UInt8.reduceLT, UInt8.reduceLE, UInt8.reduceToNat]
    refine retI rfl Kept.start ?_
    unfold mdY
    rw [if_pos h2]
    unfold ydY
    split <;> rfl
  · simp (maxSteps := 1000000) (disch := omega) only [e2, e4, e6, e9, e11, h4, h6, h9, h11, h2, qaaz, qabz, qacz, qadz, qaez, qafz, qagz, qahz, qaiz, qajz, qakz, qalz, qamz, qanz, evOp, qaoz, qapz, qaqz, qarz, qasz, qatz, qauz, qavz,
 ↓reduceIte, Nat.reduceEqDiff, List.nil_append, List.cons_append, List.append_nil, List.map_cons, List.map_nil, qawz, qaxz, qayz, Option.map_some, Option.map_none, qazz, qbaz, qbbz, qbcz, qbdz, qbez, qbfz, qbgz, qbhz, qbiz, qbjz, qbkz, qblz, qbmz, qbnz, qboz,
 qbpz, qbqz, qbrz, qbsz, qbtz, qbuz, qbvz, qbwz, qbxz, qbyz, qbzz, qcaz, qcbz, qccz, qcdz, qcez, qcfz, qcgz, qchz, qciz, beq_true, beq_false, Bool.not_eq_true', decide_eq_true_eq, decide_eq_false_iff_not, decide_true, decide_false,
 Int.toNat_natCast, Int.ofNat_lt, Int.ofNat_le, Int.natCast_inj, Bool.false_eq_true, Bool.true_eq_false, qcjz, List.getElem?_cons_zero, List.getElem?_cons_succ, qckz, Int.reduceToNat, Int.reduceLE, true_and, and_true, reduceCtorEq, or_false, false_or, or_true, Option.some.injEq, exists_eq_left', Bool.not_true, Bool.not_false, ne_eq, Int.reduceEq, not_true_eq_false, not_false_eq_true, Int.reduceLT, UInt8.reduceLT, UInt8.reduceLE, UInt8.reduceToNat]
    exact retI rfl Kept.start (by simp [mdY, h2, h4, h6, h9, h11])

end Go.Ab

/-
  Dates are written, both ways; the law DatePrints.
-/
namespace Go.Ab
set_option linter.unusedVariables false
set_option linter.unusedSimpArgs false
set_option maxRecDepth 20000
variable {st s : St} {e : Env}

theorem rWeekday_spec {d : Int} : call prog (.fn 259 []) [.int .i64 d] st = some (.tup [.int .i64 (wkOf d).1, .int .i64 (wkOf d).2], st) := by
  refine call_of_W prog_259 ?_
  unfold F_posthornref20_Weekday; dsimp only
  by_cases h : d < 0 ∨ 2932896 < d
  · have e1 : wkOf d = (0, 110) := by simp [wkOf, h]
    rw [e1]
    by_cases h1 : d < 0
    · simp (maxSteps := 1000000) (disch := omega) only [h1, qaaz, qabz, qacz, qadz, qaez, qafz, qagz, qahz, qaiz, qajz, qakz, qalz, qamz, qanz, evOp, qaoz, qapz, qaqz, qarz, qasz, qatz, qauz, qavz,
 ↓reduceIte, Nat.reduceEqDiff, List.nil_append, List.cons_append, List.append_nil, List.map_cons, List.map_nil, qawz, qaxz, qayz, Option.map_some, Option.map_none, qazz, qbaz, qbbz, qbcz, qbdz, qbez, qbfz, qbgz, qbhz, qbiz, qbjz, qbkz, qblz, qbmz, qbnz, qboz,
 qbpz, qbqz, qbrz, qbsz, qbtz, qbuz, qbvz, qbwz, qbxz, qbyz, qbzz, qcaz, qcbz, qccz, qcdz, qcez, qcfz, qcgz, qchz, qciz, beq_true, beq_false, Bool.not_eq_true', decide_eq_true_eq, decide_eq_false_iff_not, decide_true, decide_false,
 Int.toNat_natCast, Int.ofNat_lt, Int.ofNat_le, Int.natCast_inj, Bool.false_eq_true, Bool.true_eq_false, qcjz, List.getElem?_cons_zero, List.getElem?_cons_succ, qckz, Int.reduceToNat, Int.reduceLE, true_and, and_true, reduceCtorEq, or_false, false_or, or_true, Option.some.injEq, exists_eq_left', Bool.not_true, Bool.not_false, ne_eq, Int.reduceEq, not_true_eq_false, not_false_eq_true, Int.reduceLT, UInt8.reduceLT, UInt8.reduceLE, UInt8.reduceToNat]
      exact retII rfl rfl Kept.start rfl rfl
    · have h2 : 2932896 < d := by omega
      simp (maxSteps := 1000000) (disch := omega) only [h1, h2, qaaz, qabz, qacz, qadz, qaez, qafz, qagz, qahz, qaiz, qajz, qakz, qalz, qamz, qanz, evOp, qaoz, qapz, qaqz, qarz, qasz, qatz, qauz, qavz,
 ↓reduceIte, Nat.reduceEqDiff, List.nil_append, List.cons_append, List.append_nil, List.map_cons, List.map_nil, qawz, qaxz, qayz, Option.map_some, Option.map_none, qazz, qbaz, qbbz, qbcz, qbdz, qbez, qbfz, qbgz, qbhz, qbiz, qbjz, qbkz, qblz, qbmz, qbnz, qboz,
 qbpz, qbqz, qbrz, qbsz, qbtz, qbuz, qbvz, qbwz, qbxz, qbyz, qbzz, qcaz, qcbz, qccz, qcdz, qcez, qcfz, qcgz, qchz, qciz, beq_true, beq_false, Bool.not_eq_true', decide_eq_true_eq, decide_eq_false_iff_not, decide_true, decide_false,
 Int.toNat_natCast, Int.ofNat_lt, Int.ofNat_le, Int.natCast_inj, Bool.false_eq_true, Bool.true_eq_false, qcjz, List.getElem?_cons_zero, List.getElem?_cons_succ, qckz, Int.reduceToNat, Int.reduceLE, true_and, and_true, reduceCtorEq, or_false, false_or, or_true, Option.some.injEq, exists_eq_left', Bool.not_true, Bool.not_false, ne_eq, Int.reduceEq, not_true_eq_false, not_false_eq_true, Int.reduceLT, UInt8.reduceLT, UInt8.reduceLE, UInt8.reduceToNat]
      exact retII rfl rfl Kept.start rfl rfl
  · have e1 : wkOf d = ((d + 3) % 7, 0) := by simp [wkOf, h]
    rw [e1]
    have h1 : ¬ d < 0 := by omega
    have h2 : ¬ 2932896 < d := by omega
    obtain ⟨n, rfl⟩ : ∃ n : Nat, d = (n : Int) := ⟨d.toNat, by omega⟩
    have r7 : binPV .rem .no (.int .i64 (n : Int)) (.int .i64 7) = some (.int .i64 ((n % 7 : Nat) : Int)) := rem_n (c := 7) (by omega)
    by_cases h4 : n % 7 < 4
    · have h4' : ((n % 7 : Nat) : Int) < 4 := by omega
      simp (maxSteps := 1000000) (disch := omega) only [h1, h2, r7, h4', add_n, qaaz, qabz, qacz, qadz, qaez, qafz, qagz, qahz, qaiz, qajz, qakz, qalz, qamz, qanz, evOp, qaoz, qapz, qaqz, qarz, qasz, qatz, qauz, qavz,
 ↓reduceIte, Nat.reduceEqDiff, List.nil_append, List.cons_append, List.append_nil, List.map_cons, List.map_nil, qawz, qaxz, qayz, Option.map_some, Option.map_none, qazz, qbaz, qbbz, qbcz, qbdz, qbez, qbfz, qbgz, qbhz, qbiz, qbjz, qbkz, qblz, qbmz, qbnz, qboz,
 qbpz, qbqz, qbrz, qbsz, qbtz, qbuz, qbvz, qbwz, qbxz, qbyz, qbzz, qcaz, qcbz, qccz, qcdz, qcez, qcfz, qcgz, qchz, qciz, beq_true, beq_false, Bool.not_eq_true', decide_eq_true_eq, decide_eq_false_iff_not, decide_true, decide_false,
 Int.toNat_natCast, Int.ofNat_lt, Int.ofNat_le, Int.natCast_inj, Bool.false_eq_true, Bool.true_eq_false, qcjz, List.getElem?_cons_zero, List.getElem?_cons_succ, qckz, Int.reduceToNat, Int.reduceLE, true_and, and_true, reduceCtorEq, or_false, false_or, or_true, Option.some.injEq, exists_eq_left', Bool.not_true, Bool.not_false, ne_eq, Int.reduceEq, not_true_eq_false, not_false_eq_true, Int.reduceLT, UInt8.reduceLT, UInt8.reduceLE, UInt8.reduceToNat]
      exact retII rfl rfl Kept.start (by omega) rfl
    · have h4' : ¬ ((n % 7 : Nat) : Int) < 4 := by omega
      simp (maxSteps := 1000000) (disch := omega) only [h1, h2, r7, h4', sub_n, qaaz, qabz, qacz, qadz, qaez, qafz, qagz, qahz, qaiz, qajz, qakz, qalz, qamz, qanz, evOp, qaoz, qapz, qaqz, qarz, qasz, qatz, qauz, qavz,
 ↓reduceIte, Nat.reduceEqDiff, List.nil_append, List.cons_append, List.append_nil, List.map_cons, List.map_nil, qawz, qaxz, qayz, Option.map_some, Option.map_none, qazz, qbaz, qbbz, qbcz, qbdz, qbez, qbfz, qbgz, qbhz, qbiz, qbjz, qbkz, qblz, qbmz, qbnz, qboz,
 qbpz, qbqz, qbrz, qbsz, qbtz, qbuz, qbvz, qbwz, qbxz, qbyz, qbzz, qcaz, qcbz, qccz, qcdz, qcez, qcfz, qcgz, qchz, qciz, beq_true, beq_false, Bool.not_eq_true', decide_eq_true_eq, decide_eq_false_iff_not, decide_true, decide_false,
 Int.toNat_natCast, Int.ofNat_lt, Int.ofNat_le, Int.natCast_inj, Bool.false_eq_true, Bool.true_eq_false, qcjz, List.getElem?_cons_zero, List.getElem?_cons_succ, qckz, Int.reduceToNat, Int.reduceLE, true_and, and_true, reduceCtorEq, or_false, false_or, or_true, Option.some.injEq, exists_eq_left', Bool.not_true, Bool.not_false, ne_eq, Int.reduceEq, not_true_eq_false, not_false_eq_true, Int.reduceLT, UInt8.reduceLT, UInt8.reduceLE, UInt8.reduceToNat]
      exact retII rfl rfl Kept.start (by omega) rfl

theorem Time_spec {t : Int} : call prog (.fn 209 []) [.int .i64 t] st = some (.bool (decide (0 ≤ t ∧ t ≤ 253402300799)), st) := by
  refine call_of_W prog_209 ?_
  unfold F_posthornref12_Time; dsimp only
  by_cases h1 : 0 ≤ t
  · by_cases h2 : t < 253402300800
    · simp (maxSteps := 1000000) (disch := omega) only [h1, h2, qaaz, qabz, qacz, qadz, qaez, qafz, qagz, qahz, qaiz, qajz, qakz, qalz, qamz, qanz, evOp, qaoz, qapz, qaqz, qarz, qasz, qatz, qauz, qavz,
 ↓reduceIte, Nat.reduceEqDiff, List.nil_append, List.cons_append, List.append_nil, List.map_cons, List.map_nil, qawz, qaxz, qayz, Option.map_some, Option.map_none, qazz, qbaz, qbbz, qbcz, qbdz, qbez, qbfz, qbgz, qbhz, qbiz, qbjz, qbkz, qblz, qbmz, qbnz, qboz,
 qbpz, qbqz, qbrz, qbsz, qbtz, qbuz, qbvz, qbwz, qbxz, qbyz, qbzz, qcaz, qcbz, qccz, qcdz, qcez, qcfz, qcgz, qchz, qciz, beq_true, beq_false, Bool.not_eq_true', decide_eq_true_eq, decide_eq_false_iff_not, decide_true, decide_false,
 Int.toNat_natCast, Int.ofNat_lt, Int.ofNat_le, Int.natCast_inj, Bool.false_eq_true, Bool.true_eq_false, qcjz, List.getElem?_cons_zero, List.getElem?_cons_succ, qckz, Int.reduceToNat, Int.reduceLE, true_and, and_true, reduceCtorEq, or_false, false_or, or_true, Option.some.injEq, exists_eq_left', Bool.not_true, Bool.not_false, ne_eq, Int.reduceEq, not_true_eq_false, not_false_eq_true, Int.reduceLT, UInt8.reduceLT, UInt8.reduceLE, UInt8.reduceToNat]
      exact retB rfl Kept.start (by have : t ≤ 253402300799 := by omega
                                    simp [h1, this])
    · simp (maxSteps := 1000000) (disch := omega) only [h1, h2, qaaz, qabz, qacz, qadz, qaez, qafz, qagz, qahz, qaiz, qajz, qakz, qalz, qamz, qanz, evOp, qaoz, qapz, qaqz, qarz, qasz, qatz, qauz, qavz,
 ↓reduceIte, Nat.reduceEqDiff, List.nil_append, List.cons_append, List.append_nil, List.map_cons, List.map_nil, qawz, qaxz, qayz, Option.map_some, Option.map_none, qazz, qbaz, qbbz, qbcz, qbdz, qbez, qbfz, qbgz, qbhz, qbiz, qbjz, qbkz, qblz, qbmz, qbnz, qboz,
 qbpz, qbqz, qbrz, qbsz, qbtz, qbuz, qbvz, qbwz, qbxz, qbyz, qbzz, qcaz, qcbz, qccz, qcdz, qcez, qcfz, qcgz, qchz, qciz, beq_true, beq_false, Bool.not_eq_true', decide_eq_true_eq, decide_eq_false_iff_not, decide_true, decide_false,
 Int.toNat_natCast, Int.ofNat_lt, Int.ofNat_le, Int.natCast_inj, Bool.false_eq_true, Bool.true_eq_false, qcjz, List.getElem?_cons_zero, List.getElem?_cons_succ, qckz, Int.reduceToNat, Int.reduceLE, true_and, and_true, reduceCtorEq, or_false, false_or, or_true, Option.some.injEq, exists_eq_left', Bool.not_true, Bool.not_false, ne_eq, Int.reduceEq, not_true_eq_false, not_false_eq_true, Int.reduceLT, UInt8.reduceLT, UInt8.reduceLE, UInt8.reduceToNat]
      exact retB rfl Kept.start (by have : ¬ t ≤ 253402300799 := by omega
                                    simp [h1, this])
  · simp (maxSteps := 1000000) (disch := omega) only [h1, qaaz, qabz, qacz, qadz, qaez, qafz, qagz, qahz, qaiz, qajz, qakz, qalz, qamz, qanz, evOp, qaoz, qapz, qaqz, qarz, qasz, qatz, qauz, qavz,
 ↓reduceIte, Nat.reduceEqDiff, List.nil_append, List.cons_append, List.append_nil, List.map_cons, List.map_nil, qawz, qaxz, qayz, Option.map_some, Option.map_none, qazz, qbaz, qbbz, qbcz, qbdz, qbez, qbfz, qbgz, qbhz, qbiz, qbjz, qbkz, qblz, qbmz, qbnz, qboz,
 qbpz, qbqz, qbrz, qbsz, qbtz, qbuz, qbvz, qbwz, qbxz, qbyz, qbzz, qcaz, qcbz, qccz, qcdz, qcez, qcfz, qcgz, qchz, qciz, beq_true, beq_false, Bool.not_eq_true', decide_eq_true_eq, decide_eq_false_iff_not, decide_true, decide_false,
 Int.toNat_natCast, Int.ofNat_lt, Int.ofNat_le, Int.natCast_inj, Bool.false_eq_true, Bool.true_eq_false, qcjz, List.getElem?_cons_zero, List.getElem?_cons_succ, qckz, Int.reduceToNat, Int.reduceLE, true_and, and_true, reduceCtorEq, or_false, false_or, or_true, Option.some.injEq, exists_eq_left', Bool.not_true, Bool.not_false, ne_eq, Int.reduceEq, not_true_eq_false, not_false_eq_true, Int.reduceLT, UInt8.reduceLT, UInt8.reduceLE, UInt8.reduceToNat]
    exact retB rfl Kept.start (by simp [h1])

def dayStr : Bs := [77, 111, 110, 84, 117, 101, 87, 101, 100, 84, 104, 117, 70, 114, 105, 83, 97, 116, 83, 117, 110]
def monStr : Bs := [74, 97, 110, 70, 101, 98, 77, 97, 114, 65, 112, 114, 77, 97, 121, 74, 117, 110, 74, 117, 108, 65, 117, 103, 83, 101, 112, 79, 99, 116, 78, 111, 118, 68, 101, 99]
theorem dayStr_at {n : Nat} (h : n < 7) : (dayStr.take (3 * n + 3)).drop (3 * n) = dayT n := by
  have := List.all_eq_true.1 (show (List.range 7).all (fun n => (dayStr.take (3 * n + 3)).drop (3 * n) == dayT n) = true by kernel_rfl) n (List.mem_range.2 h)
  simpa only [beq_iff_eq] using this
theorem monStr_at {n : Nat} (h0 : 1 ≤ n) (h : n ≤ 12) : (monStr.take (3 * n)).drop (3 * n - 3) = monT n := by
  have := List.all_eq_true.1 (show (List.range 13).all (fun n => n == 0 || (monStr.take (3 * n)).drop (3 * n - 3) == monT n) = true by kernel_rfl) n (List.mem_range.2 (by omega))
  simp only [Bool.or_eq_true, beq_iff_eq] at this
  rcases this with h1 | h1
  · omega
  · exact h1
theorem rDay_spec {n : Nat} (h : n < 7) : call prog (.fn 281 []) [.int .i64 (n : Int)] st = some (.str (dayT n), st) := by
  refine call_of_W prog_281 ?_
  unfold F_posthornref20_Day; dsimp only
  have m3 : binPV .mul .no (.int .i64 3) (.int .i64 (n : Int)) = some (.int .i64 ((3 * n : Nat) : Int)) := mul_n (c := 3) (by omega)
  have hs : slcPV 0 (.str dayStr) (some (.int .i64 ((3 * n : Nat) : Int))) (some (.int .i64 ((3 * n + 3 : Nat) : Int))) none = some (.str (dayT n)) := by
    have h21 : dayStr.length = 21 := rfl
    rw [slc_s (by omega) (by omega) (by rw [h21]; omega), Int.toNat_natCast, Int.toNat_natCast, dayStr_at h]
  simp only [dayStr] at hs
  simp (maxSteps := 1000000) (disch := omega) only [m3, add_n, hs, qaaz, qabz, qacz, qadz, qaez, qafz, qagz, qahz, qaiz, qajz, qakz, qalz, qamz, qanz, evOp, qaoz, qapz, qaqz, qarz, qasz, qatz, qauz, qavz,
 ↓reduceIte, Nat.reduceEqDiff, List.nil_append, List.cons_append, List.append_nil, List.map_cons, List.map_nil, qawz, qaxz, qayz, Option.map_some, Option.map_none, qazz, qbaz, qbbz, qbcz, qbdz, qbez, qbfz, qbgz, qbhz, qbiz, qbjz, qbkz, qblz, qbmz, qbnz, qboz,
 qbpz, qbqz, qbrz, qbsz, qbtz, qbuz, qbvz, qbwz, qbxz, qbyz, qbzz, qcaz, qcbz, qccz, qcdz, qcez, qcfz, qcgz, qchz, qciz, beq_true, beq_false, Bool.not_eq_true', decide_eq_true_eq, decide_eq_false_iff_not, decide_true, decide_false,
 Int.toNat_natCast, Int.ofNat_lt, Int.ofNat_le, Int.natCast_inj, Bool.false_eq_true, Bool.true_eq_false, qcjz, List.getElem?_cons_zero, List.getElem?_cons_succ, qckz, Int.reduceToNat, Int.reduceLE, true_and, and_true, reduceCtorEq, or_false, false_or, or_true, Option.some.injEq, exists_eq_left', Bool.not_true, Bool.not_false, ne_eq, Int.reduceEq, not_true_eq_false, not_false_eq_true, Int.reduceLT, UInt8.reduceLT, UInt8.reduceLE, UInt8.reduceToNat]
  exact retS rfl Kept.start rfl
theorem rMonthN_spec {n : Nat} (h0 : 1 ≤ n) (h : n ≤ 12) : call prog (.fn 283 []) [.int .i64 (n : Int)] st = some (.str (monT n), st) := by
  refine call_of_W prog_283 ?_
  unfold F_posthornref20_Month; dsimp only
  have m3 : binPV .mul .no (.int .i64 3) (.int .i64 (n : Int)) = some (.int .i64 ((3 * n : Nat) : Int)) := mul_n (c := 3) (by omega)
  have hs : slcPV 0 (.str monStr) (some (.int .i64 ((3 * n - 3 : Nat) : Int))) (some (.int .i64 ((3 * n : Nat) : Int))) none = some (.str (monT n)) := by
    have h36 : monStr.length = 36 := rfl
    rw [slc_s (by omega) (by omega) (by rw [h36]; omega), Int.toNat_natCast, Int.toNat_natCast, monStr_at h0 h]
  simp only [monStr] at hs
  simp (maxSteps := 1000000) (disch := omega) only [m3, sub_n, hs, qaaz, qabz, qacz, qadz, qaez, qafz, qagz, qahz, qaiz, qajz, qakz, qalz, qamz, qanz, evOp, qaoz, qapz, qaqz, qarz, qasz, qatz, qauz, qavz,
 ↓reduceIte, Nat.reduceEqDiff, List.nil_append, List.cons_append, List.append_nil, List.map_cons, List.map_nil, qawz, qaxz, qayz, Option.map_some, Option.map_none, qazz, qbaz, qbbz, qbcz, qbdz, qbez, qbfz, qbgz, qbhz, qbiz, qbjz, qbkz, qblz, qbmz, qbnz, qboz,
 qbpz, qbqz, qbrz, qbsz, qbtz, qbuz, qbvz, qbwz, qbxz, qbyz, qbzz, qcaz, qcbz, qccz, qcdz, qcez, qcfz, qcgz, qchz, qciz, beq_true, beq_false, Bool.not_eq_true', decide_eq_true_eq, decide_eq_false_iff_not, decide_true, decide_false,
 Int.toNat_natCast, Int.ofNat_lt, Int.ofNat_le, Int.natCast_inj, Bool.false_eq_true, Bool.true_eq_false, qcjz, List.getElem?_cons_zero, List.getElem?_cons_succ, qckz, Int.reduceToNat, Int.reduceLE, true_and, and_true, reduceCtorEq, or_false, false_or, or_true, Option.some.injEq, exists_eq_left', Bool.not_true, Bool.not_false, ne_eq, Int.reduceEq, not_true_eq_false, not_false_eq_true, Int.reduceLT, UInt8.reduceLT, UInt8.reduceLE, UInt8.reduceToNat]
  exact retS rfl Kept.start rfl
end Go.Ab

/-
  Dates are written; the law DatePrints.
-/
namespace Go.Ab
set_option linter.unusedVariables false
set_option linter.unusedSimpArgs false
set_option maxRecDepth 20000
variable {st s : St} {e : Env}

theorem dayT_len {w : Nat} (h : w < 7) : (dayT w).length = 3 := by
  have := List.all_eq_true.1 (show (List.range 7).all (fun n => (dayT n).length == 3) = true by kernel_rfl) w (List.mem_range.2 h)
  simpa only [beq_iff_eq] using this
theorem monT_len {m : Nat} (h0 : 1 ≤ m) (h : m ≤ 12) : (monT m).length = 3 := by
  have := List.all_eq_true.1 (show (List.range 13).all (fun n => n == 0 || (monT n).length == 3) = true by kernel_rfl) m (List.mem_range.2 (by omega))
  simp only [Bool.or_eq_true, beq_iff_eq] at this
  omega
theorem neg_i {z : Int} (h1 : -9223372036854775808 < z) (h2 : z < 9223372036854775808) : unPV .neg (.int .i64 z) = some (.int .i64 (-z)) := by
  simp only [unPV, Option.some.injEq]
  rw [wrap64 (by omega) (by omega)]; congr 1; omega

end Go.Ab

/-
  Dates are read: small letters, digits.
-/
namespace Go.Ab
set_option linter.unusedVariables false
set_option linter.unusedSimpArgs false
set_option maxRecDepth 20000
variable {st s : St} {e : Env}

theorem dlower_spec {s : List UInt8} (h : s.length ≤ 1000000) : call prog (.fn 311 []) [.str s] st = some (.str (lowOf s), st) := by
  rw [← lower_spec (st := st) h, call_fn prog_311, call_fn prog_167]
  rfl

def isDg (c : UInt8) : Bool := !decide (c < 48) && !decide (57 < c)
def valD (s : Bs) : Nat := s.foldl (fun n c => 10 * n + (c - 48).toNat) 0
/-- A number of so many digits. -/
def digD (s : Bs) (least most : Nat) : Int := if s.all isDg = true ∧ least ≤ s.length ∧ s.length ≤ most then (valD s : Int) else -1

theorem valD_snoc (a : Bs) (c : UInt8) : valD (a ++ [c]) = 10 * valD a + (c - 48).toNat := by simp [valD]
theorem dg_lt {c : UInt8} (h : isDg c = true) : (c - 48).toNat ≤ 9 := by
  have := all8 (p := fun c => !isDg c || decide ((c - 48).toNat ≤ 9)) (by kernel_rfl) c
  rw [h] at this
  simpa only [Bool.not_true, Bool.false_or, decide_eq_true_eq] using this
theorem valD_lt (n : Nat) : ∀ a : Bs, a.length = n → a.all isDg = true → valD a < 10 ^ n := by
  induction n with
  | zero => intro a h _; rw [List.length_eq_zero_iff.1 h]; decide
  | succ n ih =>
    intro a h hd
    have hne : a ≠ [] := fun q => by rw [q] at h; simp at h
    have e1 := List.dropLast_concat_getLast hne
    have hl : a.dropLast.length = n := by simp [h]
    rw [← e1, List.all_append] at hd
    simp only [Bool.and_eq_true, List.all_cons, List.all_nil, Bool.and_true] at hd
    have h1 := ih _ hl hd.1
    have h2 := dg_lt hd.2
    rw [← e1, valD_snoc, Nat.pow_succ]; omega

theorem cI8t {c : UInt8} : cIntPV .i64 (.b8 c) = some (.int .i64 ((c.toNat : Nat) : Int)) := rfl
theorem sub_8 {ek : EK} {a c : UInt8} : binPV .sub ek (.b8 a) (.b8 c) = some (.b8 (a - c)) := rfl

set_option maxHeartbeats 1000000 in
theorem digits_spec {l : Bs} {least most : Nat} (hl : l.length ≤ 100000000) (hm : most ≤ 16) (hle : least ≤ 16) : call prog (.fn 287 []) [.str l, .int .i64 (least : Int), .int .i64 (most : Int)] st = some (.int .i64 (digD l least most), st) := by
  refine call_of_W prog_287 ?_
  unfold F_date_digits; dsimp only
  simp (maxSteps := 1000000) (disch := omega) only [len_s, qaaz, qabz, qacz, qadz, qaez, qafz, qagz, qahz, qaiz, qajz, qakz, qalz, qamz, qanz, evOp, qaoz, qapz, qaqz, qarz, qasz, qatz, qauz, qavz,
 ↓reduceIte, Nat.reduceEqDiff, List.nil_append, List.cons_append, List.append_nil, List.map_cons, List.map_nil, qawz, qaxz, qayz, Option.map_some, Option.map_none, qazz, qbaz, qbbz, qbcz, qbdz, qbez, qbfz, qbgz, qbhz, qbiz, qbjz, qbkz, qblz, qbmz, qbnz, qboz,
 qbpz, qbqz, qbrz, qbsz, qbtz, qbuz, qbvz, qbwz, qbxz, qbyz, qbzz, qcaz, qcbz, qccz, qcdz, qcez, qcfz, qcgz, qchz, qciz, beq_true, beq_false, Bool.not_eq_true', decide_eq_true_eq, decide_eq_false_iff_not, decide_true, decide_false,
 Int.toNat_natCast, Int.ofNat_lt, Int.ofNat_le, Int.natCast_inj, Bool.false_eq_true, Bool.true_eq_false, qcjz, List.getElem?_cons_zero, List.getElem?_cons_succ, qckz, Int.reduceToNat, Int.reduceLE, true_and, and_true, reduceCtorEq, or_false, false_or, or_true, Option.some.injEq, exists_eq_left', Bool.not_true, Bool.not_false, ne_eq, Int.reduceEq, not_true_eq_false, not_false_eq_true, Int.reduceLT, UInt8.reduceLT, UInt8.reduceLE, UInt8.reduceToNat]
  obtain ⟨Q0, hQ0⟩ : ∃ Q0 : Ex → Env → St → Prop, Q0 = endQ st [.tmp 6] (.int .i64 (digD l least most), st) := ⟨_, rfl⟩
  rw [← hQ0]
  obtain ⟨I, hI⟩ : ∃ I : Nat → Env → St → Prop, I = fun k E S => ∃ (i : Nat), k = l.length - i ∧ i ≤ l.length ∧ i ≤ most ∧ Kept st S ∧ (l.take i).all isDg = true ∧ E 0 = .str l ∧ E 1 = .int .i64 (least : Int) ∧ E 2 = .int .i64 (most : Int) ∧ E 7 = .int .i64 ((valD (l.take i) : Nat) : Int) ∧ E 10 = .int .i64 (l.length : Int) ∧ E 11 = .int .i64 (i : Int) := ⟨_, rfl⟩
  refine W_loop I ?_ (n := l.length) (by
    rw [hI]
    exact ⟨0, rfl, by omega, by omega, Kept.start, rfl, rfl, rfl, rfl, rfl, rfl, rfl⟩)
  intro k E S hh
  rw [hI] at hh
  obtain ⟨i, rfl, hi, him, hk, hall, h0, h1, h2, h7, h10, h11⟩ := hh
  have bad : digD l least most = -1 → ∀ E : Env, E 6 = .int .i64 (-1) → Q0 .ret E S := fun h E k6 => by
    rw [hQ0, qblz, h]
    exact retI k6 hk rfl
  by_cases hlt : i < l.length
  · obtain ⟨c, hc⟩ : ∃ c, c = l.getD i 0 := ⟨_, rfl⟩
    have htk : l.take (i + 1) = l.take i ++ [c] := by rw [List.take_add_one, hc]; simp [List.getD, hlt]
    have hbad1 : isDg c = false → digD l least most = -1 := fun h => by
      unfold digD
      rw [if_neg]
      rintro ⟨q, _⟩
      rw [List.all_eq_true] at q
      have : c ∈ l := by rw [hc]; simp [List.getD, hlt]
      rw [q c this] at h; cases h
    by_cases c1 : c < 48
    · simp (maxSteps := 1000000) (disch := omega) only [h0, h1, h2, h7, h10, h11, hlt, idx_s, ← hc, c1, qaaz, qabz, qacz, qadz, qaez, qafz, qagz, qahz, qaiz, qajz, qakz, qalz, qamz, qanz, evOp, qaoz, qapz, qaqz, qarz, qasz, qatz, qauz, qavz,
 ↓reduceIte, Nat.reduceEqDiff, List.nil_append, List.cons_append, List.append_nil, List.map_cons, List.map_nil, qawz, qaxz, qayz, Option.map_some, Option.map_none, qazz, qbaz, qbbz, qbcz, qbdz, qbez, qbfz, qbgz, qbhz, qbiz, qbjz, qbkz, qblz, qbmz, qbnz, qboz,
 qbpz, qbqz, qbrz, qbsz, qbtz, qbuz, qbvz, qbwz, qbxz, qbyz, qbzz, qcaz, qcbz, qccz, qcdz, qcez, qcfz, qcgz, qchz, qciz, beq_true, beq_false, Bool.not_eq_true', decide_eq_true_eq, decide_eq_false_iff_not, decide_true, decide_false,
 Int.toNat_natCast, Int.ofNat_lt, Int.ofNat_le, Int.natCast_inj, Bool.false_eq_true, Bool.true_eq_false, qcjz, List.getElem?_cons_zero, List.getElem?_cons_succ, qckz, Int.reduceToNat, Int.reduceLE, true_and, and_true, reduceCtorEq, or_false, false_or, or_true, Option.some.injEq, exists_eq_left', Bool.not_true, Bool.not_false, ne_eq, Int.reduceEq, not_true_eq_false, not_false_eq_true, Int.reduceLT, UInt8.reduceLT, UInt8.reduceLE, UInt8.reduceToNat]
      exact bad (hbad1 (by simp only [isDg, c1, decide_true, decide_false, Bool.and_true, Bool.true_and, Bool.and_false, Bool.false_and, Bool.or_true, Bool.true_or, Bool.or_false, Bool.false_or, Bool.not_true, Bool.not_false, not_true_eq_false, not_false_eq_true])) _ rfl
    · by_cases c2 : 57 < c
      · simp (maxSteps := 1000000) (disch := omega) only [h0, h1, h2, h7, h10, h11, hlt, idx_s, ← hc, c1, c2, qaaz, qabz, qacz, qadz, qaez, qafz, qagz, qahz, qaiz, qajz, qakz, qalz, qamz, qanz, evOp, qaoz, qapz, qaqz, qarz, qasz, qatz, qauz, qavz,
 ↓reduceIte, Nat.reduceEqDiff, List.nil_append, List.cons_append, List.append_nil, List.map_cons, List.map_nil, qawz, qaxz, qayz, Option.map_some, Option.map_none, qazz, qbaz, qbbz, qbcz, qbdz, qbez, qbfz, qbgz, qbhz, qbiz, qbjz, qbkz, qblz, qbmz, qbnz, qboz,
 qbpz, qbqz, qbrz, qbsz, qbtz, qbuz, qbvz, qbwz, qbxz, qbyz, qbzz, qcaz, qcbz, qccz, qcdz, qcez, qcfz, qcgz, qchz, qciz, beq_true, beq_false, Bool.not_eq_true', decide_eq_true_eq, decide_eq_false_iff_not, decide_true, decide_false,
 Int.toNat_natCast, Int.ofNat_lt, Int.ofNat_le, Int.natCast_inj, Bool.false_eq_true, Bool.true_eq_false, qcjz, List.getElem?_cons_zero, List.getElem?_cons_succ, qckz, Int.reduceToNat, Int.reduceLE, true_and, and_true, reduceCtorEq, or_false, false_or, or_true, Option.some.injEq, exists_eq_left', Bool.not_true, Bool.not_false, ne_eq, Int.reduceEq, not_true_eq_false, not_false_eq_true, Int.reduceLT, UInt8.reduceLT, UInt8.reduceLE, UInt8.reduceToNat]
        exact bad (hbad1 (by simp only [isDg, c1, c2, decide_true, decide_false, Bool.and_true, Bool.true_and, Bool.and_false, Bool.false_and, Bool.or_true, Bool.true_or, Bool.or_false, Bool.false_or, Bool.not_true, Bool.not_false, not_true_eq_false, not_false_eq_true])) _ rfl
      · have hdg : isDg c = true := by simp only [isDg, c1, c2, decide_true, decide_false, Bool.and_true, Bool.true_and, Bool.and_false, Bool.false_and, Bool.or_true, Bool.true_or, Bool.or_false, Bool.false_or, Bool.not_true, Bool.not_false, not_true_eq_false, not_false_eq_true]
        have hv := valD_lt i (l.take i) (by simp; omega) hall
        have hp : (10 : Nat) ^ i ≤ 10 ^ 16 := Nat.pow_le_pow_right (by decide) (by omega)
        have hp2 : (10 : Nat) ^ 16 = 10000000000000000 := by decide
        have h9 := dg_lt hdg
        have m10 : binPV .mul .no (.int .i64 10) (.int .i64 ((valD (l.take i) : Nat) : Int)) = some (.int .i64 ((10 * valD (l.take i) : Nat) : Int)) := mul_n (c := 10) (by omega)
        by_cases c3 : most ≤ i
        · simp (maxSteps := 1000000) (disch := omega) only [h0, h1, h2, h7, h10, h11, hlt, idx_s, ← hc, c1, c2, m10, sub_8, cI8t, add_n, c3, qaaz, qabz, qacz, qadz, qaez, qafz, qagz, qahz, qaiz, qajz, qakz, qalz, qamz, qanz, evOp, qaoz, qapz, qaqz, qarz, qasz, qatz, qauz, qavz,
 ↓reduceIte, Nat.reduceEqDiff, List.nil_append, List.cons_append, List.append_nil, List.map_cons, List.map_nil, qawz, qaxz, qayz, Option.map_some, Option.map_none, qazz, qbaz, qbbz, qbcz, qbdz, qbez, qbfz, qbgz, qbhz, qbiz, qbjz, qbkz, qblz, qbmz, qbnz, qboz,
 qbpz, qbqz, qbrz, qbsz, qbtz, qbuz, qbvz, qbwz, qbxz, qbyz, qbzz, qcaz, qcbz, qccz, qcdz, qcez, qcfz, qcgz, qchz, qciz, beq_true, beq_false, Bool.not_eq_true', decide_eq_true_eq, decide_eq_false_iff_not, decide_true, decide_false,
 Int.toNat_natCast, Int.ofNat_lt, Int.ofNat_le, Int.natCast_inj, Bool.false_eq_true, Bool.true_eq_false, qcjz, List.getElem?_cons_zero, List.getElem?_cons_succ, qckz, Int.reduceToNat, Int.reduceLE, true_and, and_true, reduceCtorEq, or_false, false_or, or_true, Option.some.injEq, exists_eq_left', Bool.not_true, Bool.not_false, ne_eq, Int.reduceEq, not_true_eq_false, not_false_eq_true, Int.reduceLT, UInt8.reduceLT, UInt8.reduceLE, UInt8.reduceToNat]
          refine bad ?_ _ rfl
          unfold digD
          rw [if_neg]
          rintro ⟨_, _, q⟩
          omega
        · simp (maxSteps := 1000000) (disch := omega) only [h0, h1, h2, h7, h10, h11, hlt, idx_s, ← hc, c1, c2, m10, sub_8, cI8t, add_n, c3, loopQ_normal, qaaz, qabz, qacz, qadz, qaez, qafz, qagz, qahz, qaiz, qajz, qakz, qalz, qamz, qanz, evOp, qaoz, qapz, qaqz, qarz, qasz, qatz, qauz, qavz,
 ↓reduceIte, Nat.reduceEqDiff, List.nil_append, List.cons_append, List.append_nil, List.map_cons, List.map_nil, qawz, qaxz, qayz, Option.map_some, Option.map_none, qazz, qbaz, qbbz, qbcz, qbdz, qbez, qbfz, qbgz, qbhz, qbiz, qbjz, qbkz, qblz, qbmz, qbnz, qboz,
 qbpz, qbqz, qbrz, qbsz, qbtz, qbuz, qbvz, qbwz, qbxz, qbyz, qbzz, qcaz, qcbz, qccz, qcdz, qcez, qcfz, qcgz, qchz, qciz, beq_true, beq_false, Bool.not_eq_true', decide_eq_true_eq, decide_eq_false_iff_not, decide_true, decide_false,
 Int.toNat_natCast, Int.ofNat_lt, Int.ofNat_le, Int.natCast_inj, Bool.false_eq_true, Bool.true_eq_false, qcjz, List.getElem?_cons_zero, List.getElem?_cons_succ, qckz, Int.reduceToNat, Int.reduceLE, true_and, and_true, reduceCtorEq, or_false, false_or, or_true, Option.some.injEq, exists_eq_left', Bool.not_true, Bool.not_false, ne_eq, Int.reduceEq, not_true_eq_false, not_false_eq_true, Int.reduceLT, UInt8.reduceLT, UInt8.reduceLE, UInt8.reduceToNat]
          refine ⟨l.length - (i + 1), by omega, ?_⟩
          rw [hI]
          exact ⟨i + 1, rfl, by omega, by omega, hk, by rw [htk, List.all_append, hall]; simp [hdg], h0, h1, h2, by rw [htk, valD_snoc]; rfl, h10, rfl⟩
  · obtain rfl : i = l.length := by omega
    rw [List.take_length] at hall h7
    by_cases c4 : l.length < least
    · simp (maxSteps := 1000000) (disch := omega) only [h0, h1, h2, h7, h10, h11, hlt, len_s, c4, qaaz, qabz, qacz, qadz, qaez, qafz, qagz, qahz, qaiz, qajz, qakz, qalz, qamz, qanz, evOp, qaoz, qapz, qaqz, qarz, qasz, qatz, qauz, qavz,
 ↓reduceIte, Nat.reduceEqDiff, List.nil_append, List.cons_append, List.append_nil, List.map_cons, List.map_nil, qawz, qaxz, qayz, Option.map_some, Option.map_none, qazz, qbaz, qbbz, qbcz, qbdz, qbez, qbfz, qbgz, qbhz, qbiz, qbjz, qbkz, qblz, qbmz, qbnz, qboz,
 qbpz, qbqz, qbrz, qbsz, qbtz, qbuz, qbvz, qbwz, qbxz, qbyz, qbzz, qcaz, qcbz, qccz, qcdz, qcez, qcfz, qcgz, qchz, qciz, beq_true, beq_false, Bool.not_eq_true', decide_eq_true_eq, decide_eq_false_iff_not, decide_true, decide_false,
 Int.toNat_natCast, Int.ofNat_lt, Int.ofNat_le, Int.natCast_inj, Bool.false_eq_true, Bool.true_eq_false, qcjz, List.getElem?_cons_zero, List.getElem?_cons_succ, qckz, Int.reduceToNat, Int.reduceLE, true_and, and_true, reduceCtorEq, or_false, false_or, or_true, Option.some.injEq, exists_eq_left', Bool.not_true, Bool.not_false, ne_eq, Int.reduceEq, not_true_eq_false, not_false_eq_true, Int.reduceLT, UInt8.reduceLT, UInt8.reduceLE, UInt8.reduceToNat]
      refine bad ?_ _ rfl
      unfold digD
      rw [if_neg]
      rintro ⟨_, q, _⟩
      omega
    · simp (maxSteps := 1000000) (disch := omega) only [h0, h1, h2, h7, h10, h11, hlt, len_s, c4, qaaz, qabz, qacz, qadz, qaez, qafz, qagz, qahz, qaiz, qajz, qakz, qalz, qamz, qanz, evOp, qaoz, qapz, qaqz, qarz, qasz, qatz, qauz, qavz,
 ↓reduceIte, Nat.reduceEqDiff, List.nil_append, List.cons_append, List.append_nil, List.map_cons, List.map_nil, qawz, qaxz, qayz, Option.map_some, Option.map_none, qazz, qbaz, qbbz, qbcz, qbdz, qbez, qbfz, qbgz, qbhz, qbiz, qbjz, qbkz, qblz, qbmz, qbnz, qboz,
 qbpz, qbqz, qbrz, qbsz, qbtz, qbuz, qbvz, qbwz, qbxz, qbyz, qbzz, qcaz, qcbz, qccz, qcdz, qcez, qcfz, qcgz, qchz, qciz, beq_true, beq_false, Bool.not_eq_true', decide_eq_true_eq, decide_eq_false_iff_not, decide_true, decide_false,
 Int.toNat_natCast, Int.ofNat_lt, Int.ofNat_le, Int.natCast_inj, Bool.false_eq_true, Bool.true_eq_false, qcjz, List.getElem?_cons_zero, List.getElem?_cons_succ, qckz, Int.reduceToNat, Int.reduceLE, true_and, and_true, reduceCtorEq, or_false, false_or, or_true, Option.some.injEq, exists_eq_left', Bool.not_true, Bool.not_false, ne_eq, Int.reduceEq, not_true_eq_false, not_false_eq_true, Int.reduceLT, UInt8.reduceLT, UInt8.reduceLE, UInt8.reduceToNat]
      rw [hQ0, qblz]
      refine retI rfl hk ?_
      unfold digD
      rw [if_pos ⟨hall, by omega, him⟩]
end Go.Ab

/-
  Dates are read: names, years.
-/
namespace Go.Ab
set_option linter.unusedVariables false
set_option linter.unusedSimpArgs false
set_option maxRecDepth 20000
variable {st s : St} {e : Env}

theorem find_at {n i : Nat} {m : Nat → Bool} (hi : i < n) (h : ∀ j, j < i → m j = false) (hm : m i = true) : (List.range n).find? m = some i := by
  induction n with
  | zero => omega
  | succ n ih =>
    rw [List.range_succ, List.find?_append]
    by_cases hn : i < n
    · rw [ih hn]; rfl
    · obtain rfl : i = n := by omega
      have : (List.range i).find? m = none := List.find?_eq_none.2 fun x hx => by rw [h x (List.mem_range.1 hx)]; simp
      rw [this]; simp [hm]
theorem find_no {n : Nat} {m : Nat → Bool} (h : ∀ j, j < n → m j = false) : (List.range n).find? m = none :=
  List.find?_eq_none.2 fun x hx => by rw [h x (List.mem_range.1 hx)]; simp

def nmM (s : Bs) (tab : Nat → Bs) (i : Nat) : Bool := decide (lowOf (tab i) = lowOf s) && !decide (s = [])
/-- A name's number among names. -/
def nmD (s : Bs) (n : Nat) (tab : Nat → Bs) : Int := match (List.range n).find? (nmM s tab) with
  | some i => i
  | none => -1

set_option maxHeartbeats 1000000 in
theorem name_spec {l : Bs} {n f : Nat} {tab : Nat → Bs} (hl : l.length ≤ 1000000) (hn : n ≤ 100) (hf : ∀ (S : St) (i : Nat), i < n → call prog (.fn f []) [.int .i64 (i : Int)] S = some (.str (tab i), S)) (ht : ∀ i, i < n → (tab i).length ≤ 1000000) :
    call prog (.fn 288 []) [.str l, .int .i64 (n : Int), .fn f []] st = some (.int .i64 (nmD l n tab), st) := by
  refine call_of_W prog_288 ?_
  unfold F_date_name; dsimp only
  simp (maxSteps := 1000000) (disch := omega) only [qaaz, qabz, qacz, qadz, qaez, qafz, qagz, qahz, qaiz, qajz, qakz, qalz, qamz, qanz, evOp, qaoz, qapz, qaqz, qarz, qasz, qatz, qauz, qavz,
 ↓reduceIte, Nat.reduceEqDiff, List.nil_append, List.cons_append, List.append_nil, List.map_cons, List.map_nil, qawz, qaxz, qayz, Option.map_some, Option.map_none, qazz, qbaz, qbbz, qbcz, qbdz, qbez, qbfz, qbgz, qbhz, qbiz, qbjz, qbkz, qblz, qbmz, qbnz, qboz,
 qbpz, qbqz, qbrz, qbsz, qbtz, qbuz, qbvz, qbwz, qbxz, qbyz, qbzz, qcaz, qcbz, qccz, qcdz, qcez, qcfz, qcgz, qchz, qciz, beq_true, beq_false, Bool.not_eq_true', decide_eq_true_eq, decide_eq_false_iff_not, decide_true, decide_false,
 Int.toNat_natCast, Int.ofNat_lt, Int.ofNat_le, Int.natCast_inj, Bool.false_eq_true, Bool.true_eq_false, qcjz, List.getElem?_cons_zero, List.getElem?_cons_succ, qckz, Int.reduceToNat, Int.reduceLE, true_and, and_true, reduceCtorEq, or_false, false_or, or_true, Option.some.injEq, exists_eq_left', Bool.not_true, Bool.not_false, ne_eq, Int.reduceEq, not_true_eq_false, not_false_eq_true, Int.reduceLT, UInt8.reduceLT, UInt8.reduceLE, UInt8.reduceToNat]
  obtain ⟨Q0, hQ0⟩ : ∃ Q0 : Ex → Env → St → Prop, Q0 = endQ st [.tmp 6] (.int .i64 (nmD l n tab), st) := ⟨_, rfl⟩
  rw [← hQ0]
  have hll := fun S : St => dlower_spec (st := S) hl
  obtain ⟨I, hI⟩ : ∃ I : Nat → Env → St → Prop, I = fun k E S => ∃ (i : Nat), k = n - i ∧ i ≤ n ∧ Kept st S ∧ (∀ j, j < i → nmM l tab j = false) ∧ E 0 = .str l ∧ E 2 = .fn f [] ∧ E 8 = .int .i64 (n : Int) ∧ E 9 = .int .i64 (i : Int) := ⟨_, rfl⟩
  refine W_loop I ?_ (n := n) (by
    rw [hI]
    exact ⟨0, rfl, by omega, Kept.start, fun j h => by omega, rfl, rfl, rfl, rfl⟩)
  intro k E S hh
  rw [hI] at hh
  obtain ⟨i, rfl, hi, hk, hall, h0, h2, h8, h9⟩ := hh
  by_cases hlt : i < n
  · have hfi := fun S : St => hf S i hlt
    have htl := fun S : St => dlower_spec (st := S) (ht i hlt)
    have next : nmM l tab i = false → ∀ E : Env, E 0 = .str l → E 2 = .fn f [] → E 8 = .int .i64 (n : Int) → E 9 = .int .i64 ((i + 1 : Nat) : Int) → ∃ m, m < n - i ∧ I m E S := fun h E k0 k2 k8 k9 =>
      ⟨n - (i + 1), by omega, by
        rw [hI]
        refine ⟨i + 1, rfl, by omega, hk, fun j hj => ?_, k0, k2, k8, k9⟩
        by_cases hji : j = i
        · subst hji; exact h
        · exact hall j (by omega)⟩
    by_cases c1 : lowOf (tab i) = lowOf l
    · by_cases c2 : l = []
      · simp (maxSteps := 1000000) (disch := omega) only [h0, h2, h8, h9, hlt, hfi, htl, hll, eq_true c1, eq_true c2, add_n, loopQ_normal, qaaz, qabz, qacz, qadz, qaez, qafz, qagz, qahz, qaiz, qajz, qakz, qalz, qamz, qanz, evOp, qaoz, qapz, qaqz, qarz, qasz, qatz, qauz, qavz,
 ↓reduceIte, Nat.reduceEqDiff, List.nil_append, List.cons_append, List.append_nil, List.map_cons, List.map_nil, qawz, qaxz, qayz, Option.map_some, Option.map_none, qazz, qbaz, qbbz, qbcz, qbdz, qbez, qbfz, qbgz, qbhz, qbiz, qbjz, qbkz, qblz, qbmz, qbnz, qboz,
 qbpz, qbqz, qbrz, qbsz, qbtz, qbuz, qbvz, qbwz, qbxz, qbyz, qbzz, qcaz, qcbz, qccz, qcdz, qcez, qcfz, qcgz, qchz, qciz, beq_true, beq_false, Bool.not_eq_true', decide_eq_true_eq, decide_eq_false_iff_not, decide_true, decide_false,
 Int.toNat_natCast, Int.ofNat_lt, Int.ofNat_le, Int.natCast_inj, Bool.false_eq_true, Bool.true_eq_false, qcjz, List.getElem?_cons_zero, List.getElem?_cons_succ, qckz, Int.reduceToNat, Int.reduceLE, true_and, and_true, reduceCtorEq, or_false, false_or, or_true, Option.some.injEq, exists_eq_left', Bool.not_true, Bool.not_false, ne_eq, Int.reduceEq, not_true_eq_false, not_false_eq_true, Int.reduceLT, UInt8.reduceLT, UInt8.reduceLE, UInt8.reduceToNat]
        exact next (by simp [nmM, c2]) _ h0 h2 h8 rfl
      · simp (maxSteps := 1000000) (disch := omega) only [h0, h2, h8, h9, hlt, hfi, htl, hll, eq_true c1, c2, qaaz, qabz, qacz, qadz, qaez, qafz, qagz, qahz, qaiz, qajz, qakz, qalz, qamz, qanz, evOp, qaoz, qapz, qaqz, qarz, qasz, qatz, qauz, qavz,
 ↓reduceIte, Nat.reduceEqDiff, List.nil_append, List.cons_append, List.append_nil, List.map_cons, List.map_nil, qawz, qaxz, qayz, Option.map_some, Option.map_none, qazz, qbaz, qbbz, qbcz, qbdz, qbez, qbfz, qbgz, qbhz, qbiz, qbjz, qbkz, qblz, qbmz, qbnz, qboz,
 qbpz, qbqz, qbrz, qbsz, qbtz, qbuz, qbvz, qbwz, qbxz, qbyz, qbzz, qcaz, qcbz, qccz, qcdz, qcez, qcfz, qcgz, qchz, qciz, beq_true, beq_false, Bool.not_eq_true', decide_eq_true_eq, decide_eq_false_iff_not, decide_true, decide_false,
 Int.toNat_natCast, Int.ofNat_lt, Int.ofNat_le, Int.natCast_inj, Bool.false_eq_true, Bool.true_eq_false, qcjz, List.getElem?_cons_zero, List.getElem?_cons_succ, qckz, Int.reduceToNat, Int.reduceLE, true_and, and_true, reduceCtorEq, or_false, false_or, or_true, Option.some.injEq, exists_eq_left', Bool.not_true, Bool.not_false, ne_eq, Int.reduceEq, not_true_eq_false, not_false_eq_true, Int.reduceLT, UInt8.reduceLT, UInt8.reduceLE, UInt8.reduceToNat]
        rw [hQ0, qblz]
        refine retI rfl hk ?_
        unfold nmD
        rw [find_at hlt hall (by simp [nmM, c1, c2])]
    · simp (maxSteps := 1000000) (disch := omega) only [h0, h2, h8, h9, hlt, hfi, htl, hll, c1, add_n, loopQ_normal, qaaz, qabz, qacz, qadz, qaez, qafz, qagz, qahz, qaiz, qajz, qakz, qalz, qamz, qanz, evOp, qaoz, qapz, qaqz, qarz, qasz, qatz, qauz, qavz,
 ↓reduceIte, Nat.reduceEqDiff, List.nil_append, List.cons_append, List.append_nil, List.map_cons, List.map_nil, qawz, qaxz, qayz, Option.map_some, Option.map_none, qazz, qbaz, qbbz, qbcz, qbdz, qbez, qbfz, qbgz, qbhz, qbiz, qbjz, qbkz, qblz, qbmz, qbnz, qboz,
 qbpz, qbqz, qbrz, qbsz, qbtz, qbuz, qbvz, qbwz, qbxz, qbyz, qbzz, qcaz, qcbz, qccz, qcdz, qcez, qcfz, qcgz, qchz, qciz, beq_true, beq_false, Bool.not_eq_true', decide_eq_true_eq, decide_eq_false_iff_not, decide_true, decide_false,
 Int.toNat_natCast, Int.ofNat_lt, Int.ofNat_le, Int.natCast_inj, Bool.false_eq_true, Bool.true_eq_false, qcjz, List.getElem?_cons_zero, List.getElem?_cons_succ, qckz, Int.reduceToNat, Int.reduceLE, true_and, and_true, reduceCtorEq, or_false, false_or, or_true, Option.some.injEq, exists_eq_left', Bool.not_true, Bool.not_false, ne_eq, Int.reduceEq, not_true_eq_false, not_false_eq_true, Int.reduceLT, UInt8.reduceLT, UInt8.reduceLE, UInt8.reduceToNat]
      exact next (by simp [nmM, c1]) _ h0 h2 h8 rfl
  · obtain rfl : i = n := by omega
    simp (maxSteps := 1000000) (disch := omega) only [h0, h2, h8, h9, hlt, qaaz, qabz, qacz, qadz, qaez, qafz, qagz, qahz, qaiz, qajz, qakz, qalz, qamz, qanz, evOp, qaoz, qapz, qaqz, qarz, qasz, qatz, qauz, qavz,
 ↓reduceIte, Nat.reduceEqDiff, List.nil_append, List.cons_append, List.append_nil, List.map_cons, List.map_nil, qawz, qaxz, qayz, Option.map_some, Option.map_none, qazz, qbaz, qbbz, qbcz, qbdz, qbez, qbfz, qbgz, qbhz, qbiz, qbjz, qbkz, qblz, qbmz, qbnz, qboz,
 qbpz, qbqz, qbrz, qbsz, qbtz, qbuz, qbvz, qbwz, qbxz, qbyz, qbzz, qcaz, qcbz, qccz, qcdz, qcez, qcfz, qcgz, qchz, qciz, beq_true, beq_false, Bool.not_eq_true', decide_eq_true_eq, decide_eq_false_iff_not, decide_true, decide_false,
 Int.toNat_natCast, Int.ofNat_lt, Int.ofNat_le, Int.natCast_inj, Bool.false_eq_true, Bool.true_eq_false, qcjz, List.getElem?_cons_zero, List.getElem?_cons_succ, qckz, Int.reduceToNat, Int.reduceLE, true_and, and_true, reduceCtorEq, or_false, false_or, or_true, Option.some.injEq, exists_eq_left', Bool.not_true, Bool.not_false, ne_eq, Int.reduceEq, not_true_eq_false, not_false_eq_true, Int.reduceLT, UInt8.reduceLT, UInt8.reduceLE, UInt8.reduceToNat]
    rw [hQ0, qblz]
    refine retI rfl hk ?_
    unfold nmD
    rw [find_no hall]

theorem day_spec {l : Bs} (hl : l.length ≤ 1000000) : call prog (.fn 288 []) [.str l, .int .i64 7, .fn 277 []] st = some (.int .i64 (nmD l 7 dayT), st) :=
  name_spec (n := 7) hl (by omega) (fun S i hi => dayName_spec hi) (fun i hi => by rw [dayT_len hi]; omega)
theorem mon_len {i : Nat} (h : i < 13) : (monT i).length ≤ 3 := by
  by_cases h0 : i = 0
  · subst h0; decide
  · rw [monT_len (by omega) (by omega)]; omega
theorem mon_spec {l : Bs} (hl : l.length ≤ 1000000) : call prog (.fn 288 []) [.str l, .int .i64 13, .fn 278 []] st = some (.int .i64 (nmD l 13 monT), st) :=
  name_spec (n := 13) hl (by omega) (fun S i hi => monthName_spec hi) (fun i hi => by have := mon_len hi; omega)

def yrD (s : Bs) : Int := if s.length = 4 then digD s 4 4 else if digD s 2 2 < 0 then -1 else if digD s 2 2 < 50 then 2000 + digD s 2 2 else 1900 + digD s 2 2
theorem digD_bound {s : Bs} {a b : Nat} (hb : b ≤ 4) : -1 ≤ digD s a b ∧ digD s a b < 10000 := by
  unfold digD
  split
  · rename_i h
    have h1 := valD_lt s.length s rfl h.1
    have h2 : (10 : Nat) ^ s.length ≤ 10 ^ 4 := Nat.pow_le_pow_right (by decide) (by omega)
    have h3 : (10 : Nat) ^ 4 = 10000 := by decide
    omega
  · omega
theorem year_spec {l : Bs} (hl : l.length ≤ 1000000) : call prog (.fn 289 []) [.str l] st = some (.int .i64 (yrD l), st) := by
  refine call_of_W prog_289 ?_
  unfold F_date_year; dsimp only
  have d4 := fun S : St => digits_spec (st := S) (l := l) (least := 4) (most := 4) (by omega) (by omega) (by omega)
  have d2 := fun S : St => digits_spec (st := S) (l := l) (least := 2) (most := 2) (by omega) (by omega) (by omega)
  rw [show (((4 : Nat) : Int)) = 4 from rfl] at d4
  rw [show (((2 : Nat) : Int)) = 2 from rfl] at d2
  have hb := digD_bound (s := l) (a := 2) (b := 2) (by omega)
  by_cases h4 : l.length = 4
  · have e4 : ((l.length : Int) = 4) := by omega
    simp (maxSteps := 1000000) (disch := omega) only [len_s, eq_true e4, d4, qaaz, qabz, qacz, qadz, qaez, qafz, qagz, qahz, qaiz, qajz, qakz, qalz, qamz, qanz, evOp, qaoz, qapz, qaqz, qarz, qasz, qatz, qauz, qavz,
 ↓reduceIte, Nat.reduceEqDiff, List.nil_append, List.cons_append, List.append_nil, List.map_cons, List.map_nil, qawz, qaxz, qayz, Option.map_some, Option.map_none, qazz, qbaz, qbbz, qbcz, qbdz, qbez, qbfz, qbgz, qbhz, qbiz, qbjz, qbkz, qblz, qbmz, qbnz, qboz,
 qbpz, qbqz, qbrz, qbsz, qbtz, qbuz, qbvz, qbwz, qbxz, qbyz, qbzz, qcaz, qcbz, qccz, qcdz, qcez, qcfz, qcgz, qchz, qciz, beq_true, beq_false, Bool.not_eq_true', decide_eq_true_eq, decide_eq_false_iff_not, decide_true, decide_false,
 Int.toNat_natCast, Int.ofNat_lt, Int.ofNat_le, Int.natCast_inj, Bool.false_eq_true, Bool.true_eq_false, qcjz, List.getElem?_cons_zero, List.getElem?_cons_succ, qckz, Int.reduceToNat, Int.reduceLE, true_and, and_true, reduceCtorEq, or_false, false_or, or_true, Option.some.injEq, exists_eq_left', Bool.not_true, Bool.not_false, ne_eq, Int.reduceEq, not_true_eq_false, not_false_eq_true, Int.reduceLT, UInt8.reduceLT, UInt8.reduceLE, UInt8.reduceToNat]
    exact retI rfl Kept.start (by simp [yrD, h4])
  · have e4 : ¬ ((l.length : Int) = 4) := by omega
    obtain ⟨n, hn⟩ : ∃ n, n = digD l 2 2 := ⟨_, rfl⟩
    rw [← hn] at d2 hb
    by_cases c1 : n < 0
    · simp (maxSteps := 1000000) (disch := omega) only [len_s, e4, d2, c1, qaaz, qabz, qacz, qadz, qaez, qafz, qagz, qahz, qaiz, qajz, qakz, qalz, qamz, qanz, evOp, qaoz, qapz, qaqz, qarz, qasz, qatz, qauz, qavz,
 ↓reduceIte, Nat.reduceEqDiff, List.nil_append, List.cons_append, List.append_nil, List.map_cons, List.map_nil, qawz, qaxz, qayz, Option.map_some, Option.map_none, qazz, qbaz, qbbz, qbcz, qbdz, qbez, qbfz, qbgz, qbhz, qbiz, qbjz, qbkz, qblz, qbmz, qbnz, qboz,
 qbpz, qbqz, qbrz, qbsz, qbtz, qbuz, qbvz, qbwz, qbxz, qbyz, qbzz, qcaz, qcbz, qccz, qcdz, qcez, qcfz, qcgz, qchz, qciz, beq_true, beq_false, Bool.not_eq_true', decide_eq_true_eq, decide_eq_false_iff_not, decide_true, decide_false,
 Int.toNat_natCast, Int.ofNat_lt, Int.ofNat_le, Int.natCast_inj, Bool.false_eq_true, Bool.true_eq_false, qcjz, List.getElem?_cons_zero, List.getElem?_cons_succ, qckz, Int.reduceToNat, Int.reduceLE, true_and, and_true, reduceCtorEq, or_false, false_or, or_true, Option.some.injEq, exists_eq_left', Bool.not_true, Bool.not_false, ne_eq, Int.reduceEq, not_true_eq_false, not_false_eq_true, Int.reduceLT, UInt8.reduceLT, UInt8.reduceLE, UInt8.reduceToNat]
      exact retI rfl Kept.start (by simp [yrD, h4, ← hn, c1])
    · by_cases c2 : n < 50
      · simp (maxSteps := 1000000) (disch := omega) only [len_s, e4, d2, c1, c2, add_i, qaaz, qabz, qacz, qadz, qaez, qafz, qagz, qahz, qaiz, qajz, qakz, qalz, qamz, qanz, evOp, qaoz, qapz, qaqz, qarz, qasz, qatz, qauz, qavz,
 ↓reduceIte, Nat.reduceEqDiff, List.nil_append, List.cons_append, List.append_nil, List.map_cons, List.map_nil, qawz, qaxz, qayz, Option.map_some, Option.map_none, qazz, qbaz, qbbz, qbcz, qbdz, qbez, qbfz, qbgz, qbhz, qbiz, qbjz, qbkz, qblz, qbmz, qbnz, qboz,
 qbpz, qbqz, qbrz, qbsz, qbtz, qbuz, qbvz, qbwz, qbxz, qbyz, qbzz, qcaz, qcbz, qccz, qcdz, qcez, qcfz, qcgz, qchz, qciz, beq_true, beq_false, Bool.not_eq_true', decide_eq_true_eq, decide_eq_false_iff_not, decide_true, decide_false,
 Int.toNat_natCast, Int.ofNat_lt, Int.ofNat_le, Int.natCast_inj, Bool.false_eq_true, Bool.true_eq_false, qcjz, List.getElem?_cons_zero, List.getElem?_cons_succ, qckz, Int.reduceToNat, Int.reduceLE, true_and, and_true, reduceCtorEq, or_false, false_or, or_true, Option.some.injEq, exists_eq_left', Bool.not_true, Bool.not_false, ne_eq, Int.reduceEq, not_true_eq_false, not_false_eq_true, Int.reduceLT, UInt8.reduceLT, UInt8.reduceLE, UInt8.reduceToNat]
        exact retI rfl Kept.start (by simp [yrD, h4, ← hn, c1, c2])
      · simp (maxSteps := 1000000) (disch := omega) only [len_s, e4, d2, c1, c2, add_i, qaaz, qabz, qacz, qadz, qaez, qafz, qagz, qahz, qaiz, qajz, qakz, qalz, qamz, qanz, evOp, qaoz, qapz, qaqz, qarz, qasz, qatz, qauz, qavz,
 ↓reduceIte, Nat.reduceEqDiff, List.nil_append, List.cons_append, List.append_nil, List.map_cons, List.map_nil, qawz, qaxz, qayz, Option.map_some, Option.map_none, qazz, qbaz, qbbz, qbcz, qbdz, qbez, qbfz, qbgz, qbhz, qbiz, qbjz, qbkz, qblz, qbmz, qbnz, qboz,
 qbpz, qbqz, qbrz, qbsz, qbtz, qbuz, qbvz, qbwz, qbxz, qbyz, qbzz, qcaz, qcbz, qccz, qcdz, qcez, qcfz, qcgz, qchz, qciz, beq_true, beq_false, Bool.not_eq_true', decide_eq_true_eq, decide_eq_false_iff_not, decide_true, decide_false,
 Int.toNat_natCast, Int.ofNat_lt, Int.ofNat_le, Int.natCast_inj, Bool.false_eq_true, Bool.true_eq_false, qcjz, List.getElem?_cons_zero, List.getElem?_cons_succ, qckz, Int.reduceToNat, Int.reduceLE, true_and, and_true, reduceCtorEq, or_false, false_or, or_true, Option.some.injEq, exists_eq_left', Bool.not_true, Bool.not_false, ne_eq, Int.reduceEq, not_true_eq_false, not_false_eq_true, Int.reduceLT, UInt8.reduceLT, UInt8.reduceLE, UInt8.reduceToNat]
        exact retI rfl Kept.start (by simp [yrD, h4, ← hn, c1, c2])
end Go.Ab

/-
  Dates are read: days, clocks, zones.
-/
namespace Go.Ab
set_option linter.unusedVariables false
set_option linter.unusedSimpArgs false
set_option maxRecDepth 20000
variable {st s : St} {e : Env}

def daysD (y m d : Int) : Int × Int := if 1970 ≤ y ∧ y ≤ 9999 ∧ 1 ≤ m ∧ m ≤ 12 ∧ 1 ≤ d ∧ d ≤ (mdY y.toNat m.toNat : Int) then ((befY y.toNat + cumY y.toNat m.toNat : Nat) + d - 1, 0) else (0, 110)

set_option maxHeartbeats 1000000 in
theorem Days_spec {y m d : Int} : call prog (.fn 292 []) [.int .i64 y, .int .i64 m, .int .i64 d] st = some (.tup [.int .i64 (daysD y m d).1, .int .i64 (daysD y m d).2], st) := by
  refine call_of_W prog_292 ?_
  unfold F_when_Days; dsimp only
  have bad : (¬ (1970 ≤ y ∧ y ≤ 9999 ∧ 1 ≤ m ∧ m ≤ 12 ∧ 1 ≤ d ∧ d ≤ (mdY y.toNat m.toNat : Int))) → ∀ E : Env, E 6 = .int .i64 0 → E 7 = .int .i64 110 → ∃ rv, resOf E { boxes := st.boxes, toks := st.toks, loops := st.loops, low := st.boxes.length } [.tmp 6, .tmp 7] = some rv ∧ leave st { boxes := st.boxes, toks := st.toks, loops := st.loops, low := st.boxes.length } rv = (.tup [.int .i64 (daysD y m d).1, .int .i64 (daysD y m d).2], st) := fun h E k6 k7 => by
    unfold daysD
    rw [if_neg h]
    exact retII k6 k7 Kept.start rfl rfl
  by_cases a1 : y < 1970
  · simp (maxSteps := 1000000) (disch := omega) only [a1, qaaz, qabz, qacz, qadz, qaez, qafz, qagz, qahz, qaiz, qajz, qakz, qalz, qamz, qanz, evOp, qaoz, qapz, qaqz, qarz, qasz, qatz, qauz, qavz,
 ↓reduceIte, Nat.reduceEqDiff, List.nil_append, List.cons_append, List.append_nil, List.map_cons, List.map_nil, qawz, qaxz, qayz, Option.map_some, Option.map_none, qazz, qbaz, qbbz, qbcz, qbdz, qbez, qbfz, qbgz, qbhz, qbiz, qbjz, qbkz, qblz, qbmz, qbnz, qboz,
 qbpz, qbqz, qbrz, qbsz, qbtz, qbuz, qbvz, qbwz, qbxz, qbyz, qbzz, qcaz, qcbz, qccz, qcdz, qcez, qcfz, qcgz, qchz, qciz, beq_true, beq_false, Bool.not_eq_true', decide_eq_true_eq, decide_eq_false_iff_not, decide_true, decide_false,
 Int.toNat_natCast, Int.ofNat_lt, Int.ofNat_le, Int.natCast_inj, Bool.false_eq_true, Bool.true_eq_false, qcjz, List.getElem?_cons_zero, List.getElem?_cons_succ, qckz, Int.reduceToNat, Int.reduceLE, true_and, and_true, reduceCtorEq, or_false, false_or, or_true, Option.some.injEq, exists_eq_left', Bool.not_true, Bool.not_false, ne_eq, Int.reduceEq, not_true_eq_false, not_false_eq_true, Int.reduceLT, UInt8.reduceLT, UInt8.reduceLE, UInt8.reduceToNat]
    exact bad (by omega) _ rfl rfl
  by_cases a2 : 9999 < y
  · simp (maxSteps := 1000000) (disch := omega) only [a1, a2, qaaz, qabz, qacz, qadz, qaez, qafz, qagz, qahz, qaiz, qajz, qakz, qalz, qamz, qanz, evOp, qaoz, qapz, qaqz, qarz, qasz, qatz, qauz, qavz,
 ↓reduceIte, Nat.reduceEqDiff, List.nil_append, List.cons_append, List.append_nil, List.map_cons, List.map_nil, qawz, qaxz, qayz, Option.map_some, Option.map_none, qazz, qbaz, qbbz, qbcz, qbdz, qbez, qbfz, qbgz, qbhz, qbiz, qbjz, qbkz, qblz, qbmz, qbnz, qboz,
 qbpz, qbqz, qbrz, qbsz, qbtz, qbuz, qbvz, qbwz, qbxz, qbyz, qbzz, qcaz, qcbz, qccz, qcdz, qcez, qcfz, qcgz, qchz, qciz, beq_true, beq_false, Bool.not_eq_true', decide_eq_true_eq, decide_eq_false_iff_not, decide_true, decide_false,
 Int.toNat_natCast, Int.ofNat_lt, Int.ofNat_le, Int.natCast_inj, Bool.false_eq_true, Bool.true_eq_false, qcjz, List.getElem?_cons_zero, List.getElem?_cons_succ, qckz, Int.reduceToNat, Int.reduceLE, true_and, and_true, reduceCtorEq, or_false, false_or, or_true, Option.some.injEq, exists_eq_left', Bool.not_true, Bool.not_false, ne_eq, Int.reduceEq, not_true_eq_false, not_false_eq_true, Int.reduceLT, UInt8.reduceLT, UInt8.reduceLE, UInt8.reduceToNat]
    exact bad (by omega) _ rfl rfl
  by_cases a3 : m < 1
  · simp (maxSteps := 1000000) (disch := omega) only [a1, a2, a3, qaaz, qabz, qacz, qadz, qaez, qafz, qagz, qahz, qaiz, qajz, qakz, qalz, qamz, qanz, evOp, qaoz, qapz, qaqz, qarz, qasz, qatz, qauz, qavz,
 ↓reduceIte, Nat.reduceEqDiff, List.nil_append, List.cons_append, List.append_nil, List.map_cons, List.map_nil, qawz, qaxz, qayz, Option.map_some, Option.map_none, qazz, qbaz, qbbz, qbcz, qbdz, qbez, qbfz, qbgz, qbhz, qbiz, qbjz, qbkz, qblz, qbmz, qbnz, qboz,
 qbpz, qbqz, qbrz, qbsz, qbtz, qbuz, qbvz, qbwz, qbxz, qbyz, qbzz, qcaz, qcbz, qccz, qcdz, qcez, qcfz, qcgz, qchz, qciz, beq_true, beq_false, Bool.not_eq_true', decide_eq_true_eq, decide_eq_false_iff_not, decide_true, decide_false,
 Int.toNat_natCast, Int.ofNat_lt, Int.ofNat_le, Int.natCast_inj, Bool.false_eq_true, Bool.true_eq_false, qcjz, List.getElem?_cons_zero, List.getElem?_cons_succ, qckz, Int.reduceToNat, Int.reduceLE, true_and, and_true, reduceCtorEq, or_false, false_or, or_true, Option.some.injEq, exists_eq_left', Bool.not_true, Bool.not_false, ne_eq, Int.reduceEq, not_true_eq_false, not_false_eq_true, Int.reduceLT, UInt8.reduceLT, UInt8.reduceLE, UInt8.reduceToNat]
    exact bad (by omega) _ rfl rfl
  by_cases a4 : 12 < m
  · simp (maxSteps := 1000000) (disch := omega) only [a1, a2, a3, a4, qaaz, qabz, qacz, qadz, qaez, qafz, qagz, qahz, qaiz, qajz, qakz, qalz, qamz, qanz, evOp, qaoz, qapz, qaqz, qarz, qasz, qatz, qauz, qavz,
 ↓reduceIte, Nat.reduceEqDiff, List.nil_append, List.cons_append, List.append_nil, List.map_cons, List.map_nil, qawz, qaxz, qayz, Option.map_some, Option.map_none, qazz, qbaz, qbbz, qbcz, qbdz, qbez, qbfz, qbgz, qbhz, qbiz, qbjz, qbkz, qblz, qbmz, qbnz, qboz,
 qbpz, qbqz, qbrz, qbsz, qbtz, qbuz, qbvz, qbwz, qbxz, qbyz, qbzz, qcaz, qcbz, qccz, qcdz, qcez, qcfz, qcgz, qchz, qciz, beq_true, beq_false, Bool.not_eq_true', decide_eq_true_eq, decide_eq_false_iff_not, decide_true, decide_false,
 Int.toNat_natCast, Int.ofNat_lt, Int.ofNat_le, Int.natCast_inj, Bool.false_eq_true, Bool.true_eq_false, qcjz, List.getElem?_cons_zero, List.getElem?_cons_succ, qckz, Int.reduceToNat, Int.reduceLE, true_and, and_true, reduceCtorEq, or_false, false_or, or_true, Option.some.injEq, exists_eq_left', Bool.not_true, Bool.not_false, ne_eq, Int.reduceEq, not_true_eq_false, not_false_eq_true, Int.reduceLT, UInt8.reduceLT, UInt8.reduceLE, UInt8.reduceToNat]
    exact bad (by omega) _ rfl rfl
  by_cases a5 : d < 1
  · simp (maxSteps := 1000000) (disch := omega) only [a1, a2, a3, a4, a5, qaaz, qabz, qacz, qadz, qaez, qafz, qagz, qahz, qaiz, qajz, qakz, qalz, qamz, qanz, evOp, qaoz, qapz, qaqz, qarz, qasz, qatz, qauz, qavz,
 ↓reduceIte, Nat.reduceEqDiff, List.nil_append, List.cons_append, List.append_nil, List.map_cons, List.map_nil, qawz, qaxz, qayz, Option.map_some, Option.map_none, qazz, qbaz, qbbz, qbcz, qbdz, qbez, qbfz, qbgz, qbhz, qbiz, qbjz, qbkz, qblz, qbmz, qbnz, qboz,
 qbpz, qbqz, qbrz, qbsz, qbtz, qbuz, qbvz, qbwz, qbxz, qbyz, qbzz, qcaz, qcbz, qccz, qcdz, qcez, qcfz, qcgz, qchz, qciz, beq_true, beq_false, Bool.not_eq_true', decide_eq_true_eq, decide_eq_false_iff_not, decide_true, decide_false,
 Int.toNat_natCast, Int.ofNat_lt, Int.ofNat_le, Int.natCast_inj, Bool.false_eq_true, Bool.true_eq_false, qcjz, List.getElem?_cons_zero, List.getElem?_cons_succ, qckz, Int.reduceToNat, Int.reduceLE, true_and, and_true, reduceCtorEq, or_false, false_or, or_true, Option.some.injEq, exists_eq_left', Bool.not_true, Bool.not_false, ne_eq, Int.reduceEq, not_true_eq_false, not_false_eq_true, Int.reduceLT, UInt8.reduceLT, UInt8.reduceLE, UInt8.reduceToNat]
    exact bad (by omega) _ rfl rfl
  obtain ⟨Y, rfl⟩ : ∃ n : Nat, y = (n : Int) := ⟨y.toNat, by omega⟩
  obtain ⟨M, rfl⟩ : ∃ n : Nat, m = (n : Int) := ⟨m.toNat, by omega⟩
  have hm := fun S : St => month_spec (st := S) (y := Y) (m := M) (by omega) (by omega)
  by_cases a6 : (mdY Y M : Int) < d
  · simp (maxSteps := 1000000) (disch := omega) only [a1, a2, a3, a4, a5, hm, a6, qaaz, qabz, qacz, qadz, qaez, qafz, qagz, qahz, qaiz, qajz, qakz, qalz, qamz, qanz, evOp, qaoz, qapz, qaqz, qarz, qasz, qatz, qauz, qavz,
 ↓reduceIte, Nat.reduceEqDiff, List.nil_append, List.cons_append, List.append_nil, List.map_cons, List.map_nil, qawz, qaxz, qayz, Option.map_some, Option.map_none, qazz, qbaz, qbbz, qbcz, qbdz, qbez, qbfz, qbgz, qbhz, qbiz, qbjz, qbkz, qblz, qbmz, qbnz, qboz,
 qbpz, qbqz, qbrz, qbsz, qbtz, qbuz, qbvz, qbwz, qbxz, qbyz, qbzz, qcaz, qcbz, qccz, qcdz, qcez, qcfz, qcgz, qchz, qciz, beq_true, beq_false, Bool.not_eq_true', decide_eq_true_eq, decide_eq_false_iff_not, decide_true, decide_false,
 Int.toNat_natCast, Int.ofNat_lt, Int.ofNat_le, Int.natCast_inj, Bool.false_eq_true, Bool.true_eq_false, qcjz, List.getElem?_cons_zero, List.getElem?_cons_succ, qckz, Int.reduceToNat, Int.reduceLE, true_and, and_true, reduceCtorEq, or_false, false_or, or_true, Option.some.injEq, exists_eq_left', Bool.not_true, Bool.not_false, ne_eq, Int.reduceEq, not_true_eq_false, not_false_eq_true, Int.reduceLT, UInt8.reduceLT, UInt8.reduceLE, UInt8.reduceToNat]
    exact bad (by simp only [Int.toNat_natCast]; omega) _ rfl rfl
  obtain ⟨D, rfl⟩ : ∃ n : Nat, d = (n : Int) := ⟨d.toNat, by omega⟩
  have a6' : ¬ mdY Y M < D := by omega
  have hb := fun S : St => before_spec (st := S) (y := Y) (by omega) (by omega)
  have hbl : befY Y ≤ 2932897 := by
    have := bef_mono (a := Y) (b := 10000) (by omega) (by omega)
    have := bef_10000; omega
  have hmd := md_bound Y M
  have hcum : ∀ i, i ≤ 13 → cumY Y i ≤ 400 := fun i hi => by
    have := cum_mono Y (a := i) (b := 13) hi
    have := cum_13 Y; have := yd_bound Y; omega
  simp (maxSteps := 1000000) (disch := omega) only [a1, a2, a3, a4, a5, hm, a6', hb, add_n, sub_n, qaaz, qabz, qacz, qadz, qaez, qafz, qagz, qahz, qaiz, qajz, qakz, qalz, qamz, qanz, evOp, qaoz, qapz, qaqz, qarz, qasz, qatz, qauz, qavz,
 ↓reduceIte, Nat.reduceEqDiff, List.nil_append, List.cons_append, List.append_nil, List.map_cons, List.map_nil, qawz, qaxz, qayz, Option.map_some, Option.map_none, qazz, qbaz, qbbz, qbcz, qbdz, qbez, qbfz, qbgz, qbhz, qbiz, qbjz, qbkz, qblz, qbmz, qbnz, qboz,
 qbpz, qbqz, qbrz, qbsz, qbtz, qbuz, qbvz, qbwz, qbxz, qbyz, qbzz, qcaz, qcbz, qccz, qcdz, qcez, qcfz, qcgz, qchz, qciz, beq_true, beq_false, Bool.not_eq_true', decide_eq_true_eq, decide_eq_false_iff_not, decide_true, decide_false,
 Int.toNat_natCast, Int.ofNat_lt, Int.ofNat_le, Int.natCast_inj, Bool.false_eq_true, Bool.true_eq_false, qcjz, List.getElem?_cons_zero, List.getElem?_cons_succ, qckz, Int.reduceToNat, Int.reduceLE, true_and, and_true, reduceCtorEq, or_false, false_or, or_true, Option.some.injEq, exists_eq_left', Bool.not_true, Bool.not_false, ne_eq, Int.reduceEq, not_true_eq_false, not_false_eq_true, Int.reduceLT, UInt8.reduceLT, UInt8.reduceLE, UInt8.reduceToNat]
  obtain ⟨Q0, hQ0⟩ : ∃ Q0 : Ex → Env → St → Prop, Q0 = endQ st [.tmp 6, .tmp 7] (.tup [.int .i64 (daysD (Y : Int) (M : Int) (D : Int)).1, .int .i64 (daysD (Y : Int) (M : Int) (D : Int)).2], st) := ⟨_, rfl⟩
  rw [← hQ0]
  obtain ⟨I, hI⟩ : ∃ I : Nat → Env → St → Prop, I = fun k E S => ∃ (i : Nat), k = M - i ∧ i ≤ M ∧ Kept st S ∧ E 0 = .int .i64 (Y : Int) ∧ E 8 = .int .i64 ((befY Y + D - 1 + cumY Y i : Nat) : Int) ∧ E 40 = .int .i64 (M : Int) ∧ E 41 = .int .i64 (i : Int) := ⟨_, rfl⟩
  refine W_loop I ?_ (n := M) (by
    rw [hI]
    exact ⟨0, rfl, by omega, Kept.start, rfl, by rw [show cumY Y 0 = 0 from rfl, Nat.add_zero]; rfl, rfl, rfl⟩)
  intro k E S hh
  rw [hI] at hh
  obtain ⟨i, rfl, hi, hk, h0, h8, h40, h41⟩ := hh
  by_cases hlt : i < M
  · have hc1 := hcum i (by omega)
    by_cases hz : 0 < i
    · have hmi := fun S : St => month_spec (st := S) (y := Y) (m := i) (by omega) (by omega)
      have hmdi := md_bound Y i
      have e0 : (0 : Int) < (i : Int) := by omega
      simp (maxSteps := 1000000) (disch := omega) only [h0, h8, h40, h41, hlt, eq_true e0, hmi, add_n, loopQ_normal, qaaz, qabz, qacz, qadz, qaez, qafz, qagz, qahz, qaiz, qajz, qakz, qalz, qamz, qanz, evOp, qaoz, qapz, qaqz, qarz, qasz, qatz, qauz, qavz,
 ↓reduceIte, Nat.reduceEqDiff, List.nil_append, List.cons_append, List.append_nil, List.map_cons, List.map_nil, qawz, qaxz, qayz, Option.map_some, Option.map_none, qazz, qbaz, qbbz, qbcz, qbdz, qbez, qbfz, qbgz, qbhz, qbiz, qbjz, qbkz, qblz, qbmz, qbnz, qboz,
 qbpz, qbqz, qbrz, qbsz, qbtz, qbuz, qbvz, qbwz, qbxz, qbyz, qbzz, qcaz, qcbz, qccz, qcdz, qcez, qcfz, qcgz, qchz, qciz, beq_true, beq_false, Bool.not_eq_true', decide_eq_true_eq, decide_eq_false_iff_not, decide_true, decide_false,
 Int.toNat_natCast, Int.ofNat_lt, Int.ofNat_le, Int.natCast_inj, Bool.false_eq_true, Bool.true_eq_false, qcjz, List.getElem?_cons_zero, List.getElem?_cons_succ, qckz, Int.reduceToNat, Int.reduceLE, true_and, and_true, reduceCtorEq, or_false, false_or, or_true, Option.some.injEq, exists_eq_left', Bool.not_true, Bool.not_false, ne_eq, Int.reduceEq, not_true_eq_false, not_false_eq_true, Int.reduceLT, UInt8.reduceLT, UInt8.reduceLE, UInt8.reduceToNat]
      refine ⟨M - (i + 1), by omega, ?_⟩
      rw [hI]
      refine ⟨i + 1, rfl, by omega, hk, h0, ?_, h40, rfl⟩
      rw [cum_succ Y (by omega)]
      rw [← Nat.add_assoc]; rfl
    · have e0 : ¬ (0 : Int) < (i : Int) := by omega
      have i0 : i = 0 := by omega
      simp (maxSteps := 1000000) (disch := omega) only [h0, h8, h40, h41, hlt, e0, add_n, loopQ_normal, qaaz, qabz, qacz, qadz, qaez, qafz, qagz, qahz, qaiz, qajz, qakz, qalz, qamz, qanz, evOp, qaoz, qapz, qaqz, qarz, qasz, qatz, qauz, qavz,
 ↓reduceIte, Nat.reduceEqDiff, List.nil_append, List.cons_append, List.append_nil, List.map_cons, List.map_nil, qawz, qaxz, qayz, Option.map_some, Option.map_none, qazz, qbaz, qbbz, qbcz, qbdz, qbez, qbfz, qbgz, qbhz, qbiz, qbjz, qbkz, qblz, qbmz, qbnz, qboz,
 qbpz, qbqz, qbrz, qbsz, qbtz, qbuz, qbvz, qbwz, qbxz, qbyz, qbzz, qcaz, qcbz, qccz, qcdz, qcez, qcfz, qcgz, qchz, qciz, beq_true, beq_false, Bool.not_eq_true', decide_eq_true_eq, decide_eq_false_iff_not, decide_true, decide_false,
 Int.toNat_natCast, Int.ofNat_lt, Int.ofNat_le, Int.natCast_inj, Bool.false_eq_true, Bool.true_eq_false, qcjz, List.getElem?_cons_zero, List.getElem?_cons_succ, qckz, Int.reduceToNat, Int.reduceLE, true_and, and_true, reduceCtorEq, or_false, false_or, or_true, Option.some.injEq, exists_eq_left', Bool.not_true, Bool.not_false, ne_eq, Int.reduceEq, not_true_eq_false, not_false_eq_true, Int.reduceLT, UInt8.reduceLT, UInt8.reduceLE, UInt8.reduceToNat]
      refine ⟨M - (i + 1), by omega, ?_⟩
      rw [hI]
      refine ⟨i + 1, rfl, by omega, hk, h0, ?_, h40, rfl⟩
      subst i0
      exact h8
  · obtain rfl : i = M := by omega
    simp (maxSteps := 1000000) (disch := omega) only [h0, h8, h40, h41, hlt, qaaz, qabz, qacz, qadz, qaez, qafz, qagz, qahz, qaiz, qajz, qakz, qalz, qamz, qanz, evOp, qaoz, qapz, qaqz, qarz, qasz, qatz, qauz, qavz,
 ↓reduceIte, Nat.reduceEqDiff, List.nil_append, List.cons_append, List.append_nil, List.map_cons, List.map_nil, qawz, qaxz, qayz, Option.map_some, Option.map_none, qazz, qbaz, qbbz, qbcz, qbdz, qbez, qbfz, qbgz, qbhz, qbiz, qbjz, qbkz, qblz, qbmz, qbnz, qboz,
 qbpz, qbqz, qbrz, qbsz, qbtz, qbuz, qbvz, qbwz, qbxz, qbyz, qbzz, qcaz, qcbz, qccz, qcdz, qcez, qcfz, qcgz, qchz, qciz, beq_true, beq_false, Bool.not_eq_true', decide_eq_true_eq, decide_eq_false_iff_not, decide_true, decide_false,
 Int.toNat_natCast, Int.ofNat_lt, Int.ofNat_le, Int.natCast_inj, Bool.false_eq_true, Bool.true_eq_false, qcjz, List.getElem?_cons_zero, List.getElem?_cons_succ, qckz, Int.reduceToNat, Int.reduceLE, true_and, and_true, reduceCtorEq, or_false, false_or, or_true, Option.some.injEq, exists_eq_left', Bool.not_true, Bool.not_false, ne_eq, Int.reduceEq, not_true_eq_false, not_false_eq_true, Int.reduceLT, UInt8.reduceLT, UInt8.reduceLE, UInt8.reduceToNat]
    rw [hQ0, qblz]
    unfold daysD
    rw [if_pos (by simp only [Int.toNat_natCast]; omega)]
    exact retII rfl rfl hk (by simp only [Int.toNat_natCast]; omega) rfl
end Go.Ab

/-
  Dates are read: clocks.
-/
namespace Go.Ab
set_option linter.unusedVariables false
set_option linter.unusedSimpArgs false
set_option maxRecDepth 20000
variable {st s : St} {e : Env}

/-- Hours, minutes, seconds as a clock; -1: none. -/
def hmsD (h m c : Int) : Int := if h < 0 ∨ 23 < h ∨ m < 0 ∨ 59 < m ∨ c < 0 ∨ 60 < c then -1 else h * 3600 + m * 60 + min c 59
def clkD (s : Bs) : Int :=
  if (splitOn 58 [] s).length < 2 ∨ 3 < (splitOn 58 [] s).length then -1
  else hmsD (digD ((splitOn 58 [] s).getD 0 []) 2 2) (digD ((splitOn 58 [] s).getD 1 []) 2 2) (if (splitOn 58 [] s).length = 3 then digD ((splitOn 58 [] s).getD 2 []) 2 2 else 0)

theorem mn_i {a b : Int} : mnmxPV false [.int .i64 a, .int .i64 b] = some (.int .i64 (min a b)) := by simp [mnmxPV]

set_option maxHeartbeats 2000000 in
theorem clock_spec {l : Bs} (hl : l.length ≤ 1000000) : call prog (.fn 290 []) [.str l] st = some (.int .i64 (clkD l), st) := by
  refine call_of_W prog_290 ?_
  unfold F_date_clock; dsimp only
  obtain ⟨xs, hxs⟩ : ∃ xs, xs = splitOn 58 [] l := ⟨_, rfl⟩
  have hsp : ∀ S : St, call prog (.fn 133 []) [.str l, .str [58]] S = some (.sl 1 .no (xs.map .str), S) := fun S => by rw [hxs]; exact Split_spec (by omega)
  have hlen : lenPV false (.sl 1 .no (xs.map .str)) = some (.int .i64 (xs.length : Int)) := by simp [lenPV]
  have hvs : (PV.sl 1 .no (xs.map .str)).vs 1 = some (xs.map .str) := by simp [PV.vs]
  have hxl : ∀ j, (xs.getD j []).length ≤ 1000000 := fun j => by
    by_cases hj : j < xs.length
    · have hm : xs.getD j [] ∈ splitOn 58 [] l := by rw [← hxs]; simp [List.getD, hj]
      have := split_len l [] _ hm
      simp at this ⊢; omega
    · have : xs[j]? = none := List.getElem?_eq_none (by omega)
      simp [List.getD, this]
  have hclk : clkD l = if xs.length < 2 ∨ 3 < xs.length then -1 else hmsD (digD (xs.getD 0 []) 2 2) (digD (xs.getD 1 []) 2 2) (if xs.length = 3 then digD (xs.getD 2 []) 2 2 else 0) := by rw [hxs]; rfl
  rw [hclk]
  by_cases n2 : xs.length < 2
  · have e2 : (xs.length : Int) < 2 := by omega
    simp (maxSteps := 1000000) (disch := omega) only [hsp, hlen, e2, qaaz, qabz, qacz, qadz, qaez, qafz, qagz, qahz, qaiz, qajz, qakz, qalz, qamz, qanz, evOp, qaoz, qapz, qaqz, qarz, qasz, qatz, qauz, qavz,
 ↓reduceIte, Nat.reduceEqDiff, List.nil_append, List.cons_append, List.append_nil, List.map_cons, List.map_nil, qawz, qaxz, qayz, Option.map_some, Option.map_none, qazz, qbaz, qbbz, qbcz, qbdz, qbez, qbfz, qbgz, qbhz, qbiz, qbjz, qbkz, qblz, qbmz, qbnz, qboz,
 qbpz, qbqz, qbrz, qbsz, qbtz, qbuz, qbvz, qbwz, qbxz, qbyz, qbzz, qcaz, qcbz, qccz, qcdz, qcez, qcfz, qcgz, qchz, qciz, beq_true, beq_false, Bool.not_eq_true', decide_eq_true_eq, decide_eq_false_iff_not, decide_true, decide_false,
 Int.toNat_natCast, Int.ofNat_lt, Int.ofNat_le, Int.natCast_inj, Bool.false_eq_true, Bool.true_eq_false, qcjz, List.getElem?_cons_zero, List.getElem?_cons_succ, qckz, Int.reduceToNat, Int.reduceLE, true_and, and_true, reduceCtorEq, or_false, false_or, or_true, Option.some.injEq, exists_eq_left', Bool.not_true, Bool.not_false, ne_eq, Int.reduceEq, not_true_eq_false, not_false_eq_true, Int.reduceLT, UInt8.reduceLT, UInt8.reduceLE, UInt8.reduceToNat]
    exact retI rfl Kept.start (by simp [n2])
  have e2 : ¬ (xs.length : Int) < 2 := by omega
  by_cases n3 : 3 < xs.length
  · have e3 : (3 : Int) < (xs.length : Int) := by omega
    simp (maxSteps := 1000000) (disch := omega) only [hsp, hlen, e2, e3, qaaz, qabz, qacz, qadz, qaez, qafz, qagz, qahz, qaiz, qajz, qakz, qalz, qamz, qanz, evOp, qaoz, qapz, qaqz, qarz, qasz, qatz, qauz, qavz,
 ↓reduceIte, Nat.reduceEqDiff, List.nil_append, List.cons_append, List.append_nil, List.map_cons, List.map_nil, qawz, qaxz, qayz, Option.map_some, Option.map_none, qazz, qbaz, qbbz, qbcz, qbdz, qbez, qbfz, qbgz, qbhz, qbiz, qbjz, qbkz, qblz, qbmz, qbnz, qboz,
 qbpz, qbqz, qbrz, qbsz, qbtz, qbuz, qbvz, qbwz, qbxz, qbyz, qbzz, qcaz, qcbz, qccz, qcdz, qcez, qcfz, qcgz, qchz, qciz, beq_true, beq_false, Bool.not_eq_true', decide_eq_true_eq, decide_eq_false_iff_not, decide_true, decide_false,
 Int.toNat_natCast, Int.ofNat_lt, Int.ofNat_le, Int.natCast_inj, Bool.false_eq_true, Bool.true_eq_false, qcjz, List.getElem?_cons_zero, List.getElem?_cons_succ, qckz, Int.reduceToNat, Int.reduceLE, true_and, and_true, reduceCtorEq, or_false, false_or, or_true, Option.some.injEq, exists_eq_left', Bool.not_true, Bool.not_false, ne_eq, Int.reduceEq, not_true_eq_false, not_false_eq_true, Int.reduceLT, UInt8.reduceLT, UInt8.reduceLE, UInt8.reduceToNat]
    exact retI rfl Kept.start (by simp [n3])
  have e3 : ¬ (3 : Int) < (xs.length : Int) := by omega
  rw [if_neg (by omega)]
  have z0 : iaddrPV 1 (.sl 1 .no (xs.map .str)) (.int .i64 0) = some (.cp [.str (xs.getD 0 [])]) := by rw [iaddr_t hvs (by decide) (by simp; omega)]; rfl
  have z1 : iaddrPV 1 (.sl 1 .no (xs.map .str)) (.int .i64 1) = some (.cp [.str (xs.getD 1 [])]) := by rw [iaddr_t hvs (by decide) (by simp; omega)]; rfl
  have c0 : ∀ v : PV, loadcPV false 1 (.cp [v]) = some v := fun _ => rfl
  have d2 := fun (j : Nat) (S : St) => digits_spec (st := S) (l := xs.getD j []) (least := 2) (most := 2) (by have := hxl j; omega) (by omega) (by omega)
  rw [show (((2 : Nat) : Int)) = 2 from rfl] at d2
  have hb := fun j => digD_bound (s := xs.getD j []) (a := 2) (b := 2) (by omega)
  have hb0 := hb 0; have hb1 := hb 1; have hb2 := hb 2
  obtain ⟨h, hh⟩ : ∃ h, h = digD (xs.getD 0 []) 2 2 := ⟨_, rfl⟩
  obtain ⟨m, hm⟩ : ∃ m, m = digD (xs.getD 1 []) 2 2 := ⟨_, rfl⟩
  have d20 := d2 0; have d21 := d2 1; have d22 := d2 2
  rw [← hh] at d20 hb0 ⊢
  rw [← hm] at d21 hb1 ⊢
  -- what is reckoned in the end
  have key : ∀ (c : Int) (E : Env) (R : (Ex → Env → St → Prop)), True := fun _ _ _ => trivial
  have m1 : ∀ a : Int, 0 ≤ a → a < 100000 → binPV .mul .no (.int .i64 a) (.int .i64 3600) = some (.int .i64 (a * 3600)) := fun a h1 h2 => by
    obtain ⟨n, rfl⟩ : ∃ n : Nat, a = (n : Int) := ⟨a.toNat, by omega⟩
    exact mul_n (c := n) (a := 3600) (by omega)
  have m2 : ∀ a : Int, 0 ≤ a → a < 100000 → binPV .mul .no (.int .i64 a) (.int .i64 60) = some (.int .i64 (a * 60)) := fun a h1 h2 => by
    obtain ⟨n, rfl⟩ : ∃ n : Nat, a = (n : Int) := ⟨a.toNat, by omega⟩
    exact mul_n (c := n) (a := 60) (by omega)
  by_cases n4 : xs.length = 3
  · have e4 : (xs.length : Int) = 3 := by omega
    have z2 : iaddrPV 1 (.sl 1 .no (xs.map .str)) (.int .i64 2) = some (.cp [.str (xs.getD 2 [])]) := by rw [iaddr_t hvs (by decide) (by simp; omega)]; rfl
    obtain ⟨c, hc⟩ : ∃ c, c = digD (xs.getD 2 []) 2 2 := ⟨_, rfl⟩
    rw [← hc] at d22 hb2 ⊢
    rw [if_pos n4]
    by_cases a1 : h < 0
    · simp (maxSteps := 1000000) (disch := omega) only [hsp, hlen, e2, e3, eq_true e4, z0, z1, z2, c0, d20, d21, d22, a1, qaaz, qabz, qacz, qadz, qaez, qafz, qagz, qahz, qaiz, qajz, qakz, qalz, qamz, qanz, evOp, qaoz, qapz, qaqz, qarz, qasz, qatz, qauz, qavz,
 ↓reduceIte, Nat.reduceEqDiff, List.nil_append, List.cons_append, List.append_nil, List.map_cons, List.map_nil, qawz, qaxz, qayz, Option.map_some, Option.map_none, qazz, qbaz, qbbz, qbcz, qbdz, qbez, qbfz, qbgz, qbhz, qbiz, qbjz, qbkz, qblz, qbmz, qbnz, qboz,
 qbpz, qbqz, qbrz, qbsz, qbtz, qbuz, qbvz, qbwz, qbxz, qbyz, qbzz, qcaz, qcbz, qccz, qcdz, qcez, qcfz, qcgz, qchz, qciz, beq_true, beq_false, Bool.not_eq_true', decide_eq_true_eq, decide_eq_false_iff_not, decide_true, decide_false,
 Int.toNat_natCast, Int.ofNat_lt, Int.ofNat_le, Int.natCast_inj, Bool.false_eq_true, Bool.true_eq_false, qcjz, List.getElem?_cons_zero, List.getElem?_cons_succ, qckz, Int.reduceToNat, Int.reduceLE, true_and, and_true, reduceCtorEq, or_false, false_or, or_true, Option.some.injEq, exists_eq_left', Bool.not_true, Bool.not_false, ne_eq, Int.reduceEq, not_true_eq_false, not_false_eq_true, Int.reduceLT, UInt8.reduceLT, UInt8.reduceLE, UInt8.reduceToNat]
      exact retI rfl Kept.start (by simp [hmsD, a1])
    by_cases a2 : 23 < h
    · simp (maxSteps := 1000000) (disch := omega) only [hsp, hlen, e2, e3, eq_true e4, z0, z1, z2, c0, d20, d21, d22, a1, a2, qaaz, qabz, qacz, qadz, qaez, qafz, qagz, qahz, qaiz, qajz, qakz, qalz, qamz, qanz, evOp, qaoz, qapz, qaqz, qarz, qasz, qatz, qauz, qavz,
 ↓reduceIte, Nat.reduceEqDiff, List.nil_append, List.cons_append, List.append_nil, List.map_cons, List.map_nil, qawz, qaxz, qayz, Option.map_some, Option.map_none, qazz, qbaz, qbbz, qbcz, qbdz, qbez, qbfz, qbgz, qbhz, qbiz, qbjz, qbkz, qblz, qbmz, qbnz, qboz,
 qbpz, qbqz, qbrz, qbsz, qbtz, qbuz, qbvz, qbwz, qbxz, qbyz, qbzz, qcaz, qcbz, qccz, qcdz, qcez, qcfz, qcgz, qchz, qciz, beq_true, beq_false, Bool.not_eq_true', decide_eq_true_eq, decide_eq_false_iff_not, decide_true, decide_false,
 Int.toNat_natCast, Int.ofNat_lt, Int.ofNat_le, Int.natCast_inj, Bool.false_eq_true, Bool.true_eq_false, qcjz, List.getElem?_cons_zero, List.getElem?_cons_succ, qckz, Int.reduceToNat, Int.reduceLE, true_and, and_true, reduceCtorEq, or_false, false_or, or_true, Option.some.injEq, exists_eq_left', Bool.not_true, Bool.not_false, ne_eq, Int.reduceEq, not_true_eq_false, not_false_eq_true, Int.reduceLT, UInt8.reduceLT, UInt8.reduceLE, UInt8.reduceToNat]
      exact retI rfl Kept.start (by simp [hmsD, a2])
    by_cases a3 : m < 0
    · simp (maxSteps := 1000000) (disch := omega) only [hsp, hlen, e2, e3, eq_true e4, z0, z1, z2, c0, d20, d21, d22, a1, a2, a3, qaaz, qabz, qacz, qadz, qaez, qafz, qagz, qahz, qaiz, qajz, qakz, qalz, qamz, qanz, evOp, qaoz, qapz, qaqz, qarz, qasz, qatz, qauz, qavz,
 ↓reduceIte, Nat.reduceEqDiff, List.nil_append, List.cons_append, List.append_nil, List.map_cons, List.map_nil, qawz, qaxz, qayz, Option.map_some, Option.map_none, qazz, qbaz, qbbz, qbcz, qbdz, qbez, qbfz, qbgz, qbhz, qbiz, qbjz, qbkz, qblz, qbmz, qbnz, qboz,
 qbpz, qbqz, qbrz, qbsz, qbtz, qbuz, qbvz, qbwz, qbxz, qbyz, qbzz, qcaz, qcbz, qccz, qcdz, qcez, qcfz, qcgz, qchz, qciz, beq_true, beq_false, Bool.not_eq_true', decide_eq_true_eq, decide_eq_false_iff_not, decide_true, decide_false,
 Int.toNat_natCast, Int.ofNat_lt, Int.ofNat_le, Int.natCast_inj, Bool.false_eq_true, Bool.true_eq_false, qcjz, List.getElem?_cons_zero, List.getElem?_cons_succ, qckz, Int.reduceToNat, Int.reduceLE, true_and, and_true, reduceCtorEq, or_false, false_or, or_true, Option.some.injEq, exists_eq_left', Bool.not_true, Bool.not_false, ne_eq, Int.reduceEq, not_true_eq_false, not_false_eq_true, Int.reduceLT, UInt8.reduceLT, UInt8.reduceLE, UInt8.reduceToNat]
      exact retI rfl Kept.start (by simp [hmsD, a3])
    by_cases a4 : 59 < m
    · simp (maxSteps := 1000000) (disch := omega) only [hsp, hlen, e2, e3, eq_true e4, z0, z1, z2, c0, d20, d21, d22, a1, a2, a3, a4, qaaz, qabz, qacz, qadz, qaez, qafz, qagz, qahz, qaiz, qajz, qakz, qalz, qamz, qanz, evOp, qaoz, qapz, qaqz, qarz, qasz, qatz, qauz, qavz,
 ↓reduceIte, Nat.reduceEqDiff, List.nil_append, List.cons_append, List.append_nil, List.map_cons, List.map_nil, qawz, qaxz, qayz, Option.map_some, Option.map_none, qazz, qbaz, qbbz, qbcz, qbdz, qbez, qbfz, qbgz, qbhz, qbiz, qbjz, qbkz, qblz, qbmz, qbnz, qboz,
 qbpz, qbqz, qbrz, qbsz, qbtz, qbuz, qbvz, qbwz, qbxz, qbyz, qbzz, qcaz, qcbz, qccz, qcdz, qcez, qcfz, qcgz, qchz, qciz, beq_true, beq_false, Bool.not_eq_true', decide_eq_true_eq, decide_eq_false_iff_not, decide_true, decide_false,
 Int.toNat_natCast, Int.ofNat_lt, Int.ofNat_le, Int.natCast_inj, Bool.false_eq_true, Bool.true_eq_false, qcjz, List.getElem?_cons_zero, List.getElem?_cons_succ, qckz, Int.reduceToNat, Int.reduceLE, true_and, and_true, reduceCtorEq, or_false, false_or, or_true, Option.some.injEq, exists_eq_left', Bool.not_true, Bool.not_false, ne_eq, Int.reduceEq, not_true_eq_false, not_false_eq_true, Int.reduceLT, UInt8.reduceLT, UInt8.reduceLE, UInt8.reduceToNat]
      exact retI rfl Kept.start (by simp [hmsD, a4])
    by_cases a5 : c < 0
    · simp (maxSteps := 1000000) (disch := omega) only [hsp, hlen, e2, e3, eq_true e4, z0, z1, z2, c0, d20, d21, d22, a1, a2, a3, a4, a5, qaaz, qabz, qacz, qadz, qaez, qafz, qagz, qahz, qaiz, qajz, qakz, qalz, qamz, qanz, evOp, qaoz, qapz, qaqz, qarz, qasz, qatz, qauz, qavz,
 ↓reduceIte, Nat.reduceEqDiff, List.nil_append, List.cons_append, List.append_nil, List.map_cons, List.map_nil, qawz, qaxz, qayz, Option.map_some, Option.map_none, qazz, qbaz, qbbz, qbcz, qbdz, qbez, qbfz, qbgz, qbhz, qbiz, qbjz, qbkz, qblz, qbmz, qbnz, qboz,
 qbpz, qbqz, qbrz, qbsz, qbtz, qbuz, qbvz, qbwz, qbxz, qbyz, qbzz, qcaz, qcbz, qccz, qcdz, qcez, qcfz, qcgz, qchz, qciz, beq_true, beq_false, Bool.not_eq_true', decide_eq_true_eq, decide_eq_false_iff_not, decide_true, decide_false,
 Int.toNat_natCast, Int.ofNat_lt, Int.ofNat_le, Int.natCast_inj, Bool.false_eq_true, Bool.true_eq_false, qcjz, List.getElem?_cons_zero, List.getElem?_cons_succ, qckz, Int.reduceToNat, Int.reduceLE, true_and, and_true, reduceCtorEq, or_false, false_or, or_true, Option.some.injEq, exists_eq_left', Bool.not_true, Bool.not_false, ne_eq, Int.reduceEq, not_true_eq_false, not_false_eq_true, Int.reduceLT, UInt8.reduceLT, UInt8.reduceLE, UInt8.reduceToNat]
      exact retI rfl Kept.start (by simp [hmsD, a5])
    by_cases a6 : 60 < c
    · simp (maxSteps := 1000000) (disch := omega) only [hsp, hlen, e2, e3, eq_true e4, z0, z1, z2, c0, d20, d21, d22, a1, a2, a3, a4, a5, a6, qaaz, qabz, qacz, qadz, qaez, qafz, qagz, qahz, qaiz, qajz, qakz, qalz, qamz, qanz, evOp, qaoz, qapz, qaqz, qarz, qasz, qatz, qauz, qavz,
 ↓reduceIte, Nat.reduceEqDiff, List.nil_append, List.cons_append, List.append_nil, List.map_cons, List.map_nil, qawz, qaxz, qayz, Option.map_some, Option.map_none, qazz, qbaz, qbbz, qbcz, qbdz, qbez, qbfz, qbgz, qbhz, qbiz, qbjz, qbkz, qblz, qbmz, qbnz, qboz,
 qbpz, qbqz, qbrz, qbsz, qbtz, qbuz, qbvz, qbwz, qbxz, qbyz, qbzz, qcaz, qcbz, qccz, qcdz, qcez, qcfz, qcgz, qchz, qciz, beq_true, beq_false, Bool.not_eq_true', decide_eq_true_eq, decide_eq_false_iff_not, decide_true, decide_false,
 Int.toNat_natCast, Int.ofNat_lt, Int.ofNat_le, Int.natCast_inj, Bool.false_eq_true, Bool.true_eq_false, qcjz, List.getElem?_cons_zero, List.getElem?_cons_succ, qckz, Int.reduceToNat, Int.reduceLE, true_and, and_true, reduceCtorEq, or_false, false_or, or_true, Option.some.injEq, exists_eq_left', Bool.not_true, Bool.not_false, ne_eq, Int.reduceEq, not_true_eq_false, not_false_eq_true, Int.reduceLT, UInt8.reduceLT, UInt8.reduceLE, UInt8.reduceToNat]
      exact retI rfl Kept.start (by simp [hmsD, a6])
    simp (maxSteps := 1000000) (disch := omega) only [hsp, hlen, e2, e3, eq_true e4, z0, z1, z2, c0, d20, d21, d22, a1, a2, a3, a4, a5, a6, m1, m2, mn_i, add_i, qaaz, qabz, qacz, qadz, qaez, qafz, qagz, qahz, qaiz, qajz, qakz, qalz, qamz, qanz, evOp, qaoz, qapz, qaqz, qarz, qasz, qatz, qauz, qavz,
 ↓reduceIte, Nat.reduceEqDiff, List.nil_append, List.cons_append, List.append_nil, List.map_cons, List.map_nil, qawz, qaxz, qayz, Option.map_some, Option.map_none, qazz, qbaz, qbbz, qbcz, qbdz, qbez, qbfz, qbgz, qbhz, qbiz, qbjz, qbkz, qblz, qbmz, qbnz, qboz,
 qbpz, qbqz, qbrz, qbsz, qbtz, qbuz, qbvz, qbwz, qbxz, qbyz, qbzz, qcaz, qcbz, qccz, qcdz, qcez, qcfz, qcgz, qchz, qciz, beq_true, beq_false, Bool.not_eq_true', decide_eq_true_eq, decide_eq_false_iff_not, decide_true, decide_false,
 Int.toNat_natCast, Int.ofNat_lt, Int.ofNat_le, Int.natCast_inj, Bool.false_eq_true, Bool.true_eq_false, qcjz, List.getElem?_cons_zero, List.getElem?_cons_succ, qckz, Int.reduceToNat, Int.reduceLE, true_and, and_true, reduceCtorEq, or_false, false_or, or_true, Option.some.injEq, exists_eq_left', Bool.not_true, Bool.not_false, ne_eq, Int.reduceEq, not_true_eq_false, not_false_eq_true, Int.reduceLT, UInt8.reduceLT, UInt8.reduceLE, UInt8.reduceToNat]
    exact retI rfl Kept.start (by simp [hmsD, a1, a2, a3, a4, a5, a6])
  · have e4 : ¬ (xs.length : Int) = 3 := by omega
    rw [if_neg n4]
    have p0 : ¬ (0 : Int) < 0 := by omega
    have p60 : ¬ (60 : Int) < 0 := by omega
    by_cases a1 : h < 0
    · simp (maxSteps := 1000000) (disch := omega) only [hsp, hlen, e2, e3, e4, z0, z1, c0, d20, d21, a1, qaaz, qabz, qacz, qadz, qaez, qafz, qagz, qahz, qaiz, qajz, qakz, qalz, qamz, qanz, evOp, qaoz, qapz, qaqz, qarz, qasz, qatz, qauz, qavz,
 ↓reduceIte, Nat.reduceEqDiff, List.nil_append, List.cons_append, List.append_nil, List.map_cons, List.map_nil, qawz, qaxz, qayz, Option.map_some, Option.map_none, qazz, qbaz, qbbz, qbcz, qbdz, qbez, qbfz, qbgz, qbhz, qbiz, qbjz, qbkz, qblz, qbmz, qbnz, qboz,
 qbpz, qbqz, qbrz, qbsz, qbtz, qbuz, qbvz, qbwz, qbxz, qbyz, qbzz, qcaz, qcbz, qccz, qcdz, qcez, qcfz, qcgz, qchz, qciz, beq_true, beq_false, Bool.not_eq_true', decide_eq_true_eq, decide_eq_false_iff_not, decide_true, decide_false,
 Int.toNat_natCast, Int.ofNat_lt, Int.ofNat_le, Int.natCast_inj, Bool.false_eq_true, Bool.true_eq_false, qcjz, List.getElem?_cons_zero, List.getElem?_cons_succ, qckz, Int.reduceToNat, Int.reduceLE, true_and, and_true, reduceCtorEq, or_false, false_or, or_true, Option.some.injEq, exists_eq_left', Bool.not_true, Bool.not_false, ne_eq, Int.reduceEq, not_true_eq_false, not_false_eq_true, Int.reduceLT, UInt8.reduceLT, UInt8.reduceLE, UInt8.reduceToNat]
      exact retI rfl Kept.start (by simp [hmsD, a1])
    by_cases a2 : 23 < h
    · simp (maxSteps := 1000000) (disch := omega) only [hsp, hlen, e2, e3, e4, z0, z1, c0, d20, d21, a1, a2, qaaz, qabz, qacz, qadz, qaez, qafz, qagz, qahz, qaiz, qajz, qakz, qalz, qamz, qanz, evOp, qaoz, qapz, qaqz, qarz, qasz, qatz, qauz, qavz,
 ↓reduceIte, Nat.reduceEqDiff, List.nil_append, List.cons_append, List.append_nil, List.map_cons, List.map_nil, qawz, qaxz, qayz, Option.map_some, Option.map_none, qazz, qbaz, qbbz, qbcz, qbdz, qbez, qbfz, qbgz, qbhz, qbiz, qbjz, qbkz, qblz, qbmz, qbnz, qboz,
 qbpz, qbqz, qbrz, qbsz, qbtz, qbuz, qbvz, qbwz, qbxz, qbyz, qbzz, qcaz, qcbz, qccz, qcdz, qcez, qcfz, qcgz, qchz, qciz, beq_true, beq_false, Bool.not_eq_true', decide_eq_true_eq, decide_eq_false_iff_not, decide_true, decide_false,
 Int.toNat_natCast, Int.ofNat_lt, Int.ofNat_le, Int.natCast_inj, Bool.false_eq_true, Bool.true_eq_false, qcjz, List.getElem?_cons_zero, List.getElem?_cons_succ, qckz, Int.reduceToNat, Int.reduceLE, true_and, and_true, reduceCtorEq, or_false, false_or, or_true, Option.some.injEq, exists_eq_left', Bool.not_true, Bool.not_false, ne_eq, Int.reduceEq, not_true_eq_false, not_false_eq_true, Int.reduceLT, UInt8.reduceLT, UInt8.reduceLE, UInt8.reduceToNat]
      exact retI rfl Kept.start (by simp [hmsD, a2])
    by_cases a3 : m < 0
    · simp (maxSteps := 1000000) (disch := omega) only [hsp, hlen, e2, e3, e4, z0, z1, c0, d20, d21, a1, a2, a3, qaaz, qabz, qacz, qadz, qaez, qafz, qagz, qahz, qaiz, qajz, qakz, qalz, qamz, qanz, evOp, qaoz, qapz, qaqz, qarz, qasz, qatz, qauz, qavz,
 ↓reduceIte, Nat.reduceEqDiff, List.nil_append, List.cons_append, List.append_nil, List.map_cons, List.map_nil, qawz, qaxz, qayz, Option.map_some, Option.map_none, qazz, qbaz, qbbz, qbcz, qbdz, qbez, qbfz, qbgz, qbhz, qbiz, qbjz, qbkz, qblz, qbmz, qbnz, qboz,
 qbpz, qbqz, qbrz, qbsz, qbtz, qbuz, qbvz, qbwz, qbxz, qbyz, qbzz, qcaz, qcbz, qccz, qcdz, qcez, qcfz, qcgz, qchz, qciz, beq_true, beq_false, Bool.not_eq_true', decide_eq_true_eq, decide_eq_false_iff_not, decide_true, decide_false,
 Int.toNat_natCast, Int.ofNat_lt, Int.ofNat_le, Int.natCast_inj, Bool.false_eq_true, Bool.true_eq_false, qcjz, List.getElem?_cons_zero, List.getElem?_cons_succ, qckz, Int.reduceToNat, Int.reduceLE, true_and, and_true, reduceCtorEq, or_false, false_or, or_true, Option.some.injEq, exists_eq_left', Bool.not_true, Bool.not_false, ne_eq, Int.reduceEq, not_true_eq_false, not_false_eq_true, Int.reduceLT, UInt8.reduceLT, UInt8.reduceLE, UInt8.reduceToNat]
      exact retI rfl Kept.start (by simp [hmsD, a3])
    by_cases a4 : 59 < m
    · simp (maxSteps := 1000000) (disch := omega) only [hsp, hlen, e2, e3, e4, z0, z1, c0, d20, d21, a1, a2, a3, a4, qaaz, qabz, qacz, qadz, qaez, qafz, qagz, qahz, qaiz, qajz, qakz, qalz, qamz, qanz, evOp, qaoz, qapz, qaqz, qarz, qasz, qatz, qauz, qavz,
 ↓reduceIte, Nat.reduceEqDiff, List.nil_append, List.cons_append, List.append_nil, List.map_cons, List.map_nil, qawz, qaxz, qayz, Option.map_some, Option.map_none, qazz, qbaz, qbbz, qbcz, qbdz, qbez, qbfz, qbgz, qbhz, qbiz, qbjz, qbkz, qblz, qbmz, qbnz, qboz,
 qbpz, qbqz, qbrz, qbsz, qbtz, qbuz, qbvz, qbwz, qbxz, qbyz, qbzz, qcaz, qcbz, qccz, qcdz, qcez, qcfz, qcgz, qchz, qciz, beq_true, beq_false, Bool.not_eq_true', decide_eq_true_eq, decide_eq_false_iff_not, decide_true, decide_false,
 Int.toNat_natCast, Int.ofNat_lt, Int.ofNat_le, Int.natCast_inj, Bool.false_eq_true, Bool.true_eq_false, qcjz, List.getElem?_cons_zero, List.getElem?_cons_succ, qckz, Int.reduceToNat, Int.reduceLE, true_and, and_true, reduceCtorEq, or_false, false_or, or_true, Option.some.injEq, exists_eq_left', Bool.not_true, Bool.not_false, ne_eq, Int.reduceEq, not_true_eq_false, not_false_eq_true, Int.reduceLT, UInt8.reduceLT, UInt8.reduceLE, UInt8.reduceToNat]
      exact retI rfl Kept.start (by simp [hmsD, a4])
    simp (maxSteps := 1000000) (disch := omega) only [hsp, hlen, e2, e3, e4, z0, z1, c0, d20, d21, a1, a2, a3, a4, m1, m2, mn_i, add_i, qaaz, qabz, qacz, qadz, qaez, qafz, qagz, qahz, qaiz, qajz, qakz, qalz, qamz, qanz, evOp, qaoz, qapz, qaqz, qarz, qasz, qatz, qauz, qavz,
 ↓reduceIte, Nat.reduceEqDiff, List.nil_append, List.cons_append, List.append_nil, List.map_cons, List.map_nil, qawz, qaxz, qayz, Option.map_some, Option.map_none, qazz, qbaz, qbbz, qbcz, qbdz, qbez, qbfz, qbgz, qbhz, qbiz, qbjz, qbkz, qblz, qbmz, qbnz, qboz,
 qbpz, qbqz, qbrz, qbsz, qbtz, qbuz, qbvz, qbwz, qbxz, qbyz, qbzz, qcaz, qcbz, qccz, qcdz, qcez, qcfz, qcgz, qchz, qciz, beq_true, beq_false, Bool.not_eq_true', decide_eq_true_eq, decide_eq_false_iff_not, decide_true, decide_false,
 Int.toNat_natCast, Int.ofNat_lt, Int.ofNat_le, Int.natCast_inj, Bool.false_eq_true, Bool.true_eq_false, qcjz, List.getElem?_cons_zero, List.getElem?_cons_succ, qckz, Int.reduceToNat, Int.reduceLE, true_and, and_true, reduceCtorEq, or_false, false_or, or_true, Option.some.injEq, exists_eq_left', Bool.not_true, Bool.not_false, ne_eq, Int.reduceEq, not_true_eq_false, not_false_eq_true, Int.reduceLT, UInt8.reduceLT, UInt8.reduceLE, UInt8.reduceToNat]
    exact retI rfl Kept.start (by simp [hmsD, a1, a2, a3, a4])
end Go.Ab

/-
  Dates are read: zones.
-/
namespace Go.Ab
set_option linter.unusedVariables false
set_option linter.unusedSimpArgs false
set_option maxRecDepth 20000
variable {st s : St} {e : Env}

def zoneTab : List (Bs × Int) := [([117, 116], 0), ([103, 109, 116], 0), ([122], 0), ([], 0), ([101, 100, 116], (-14400)), ([101, 115, 116], (-18000)), ([99, 100, 116], (-18000)), ([99, 115, 116], (-21600)), ([109, 100, 116], (-21600)), ([109, 115, 116], (-25200)), ([112, 100, 116], (-25200)), ([112, 115, 116], (-28800))]
/-- A shift in digits. -/
def zoneN (s : Bs) : Int × Bool :=
  if (s.getD 0 0 ≠ 43 ∧ s.getD 0 0 ≠ 45) ∨ digD (s.drop 1) 4 4 < 0 then (0, false)
  else ((if s.getD 0 0 = 45 then -(digD ((s.take 3).drop 1) 2 2 * 3600 + digD (s.drop 3) 2 2 * 60) else digD ((s.take 3).drop 1) 2 2 * 3600 + digD (s.drop 3) 2 2 * 60), decide (digD ((s.take 3).drop 1) 2 2 < 24) && decide (digD (s.drop 3) 2 2 < 60))
def zoneD (s : Bs) : Int × Bool := match zoneTab.find? (fun q => decide (lowOf s = q.1)) with
  | some q => (q.2, true)
  | none => zoneN s

theorem retIB {a b : Nat} {t u : Int} {p q : Bool} (ha : e a = .int .i64 t) (hb : e b = .bool p) (hk : Kept st s) (h1 : t = u) (h2 : p = q) : ∃ rv, resOf e s [.tmp a, .tmp b] = some rv ∧ leave st s rv = (.tup [.int .i64 u, .bool q], st) := by
  subst h1 h2; exact retV2 ha hb rfl rfl hk ⟨fun _ => rfl, fun _ _ => rfl⟩

set_option maxHeartbeats 4000000 in
theorem zone_spec {l : Bs} (hl : l.length ≤ 1000000) : call prog (.fn 291 []) [.str l] st = some (.tup [.int .i64 (zoneD l).1, .bool (zoneD l).2], st) := by
  refine call_of_W prog_291 ?_
  unfold F_date_zone; dsimp only
  have hlo := fun S : St => dlower_spec (st := S) hl
  obtain ⟨x, hx⟩ : ∃ x, x = lowOf l := ⟨_, rfl⟩
  rw [← hx] at hlo
  by_cases k0 : x = [117, 116]
  · simp (maxSteps := 1000000) (disch := omega) only [hlo, eq_true k0, qaaz, qabz, qacz, qadz, qaez, qafz, qagz, qahz, qaiz, qajz, qakz, qalz, qamz, qanz, evOp, qaoz, qapz, qaqz, qarz, qasz, qatz, qauz, qavz,
 ↓reduceIte, Nat.reduceEqDiff, List.nil_append, List.cons_append, List.append_nil, List.map_cons, List.map_nil, qawz, qaxz, qayz, Option.map_some, Option.map_none, qazz, qbaz, qbbz, qbcz, qbdz, qbez, qbfz, qbgz, qbhz, qbiz, qbjz, qbkz, qblz, qbmz, qbnz, qboz,
 qbpz, qbqz, qbrz, qbsz, qbtz, qbuz, qbvz, qbwz, qbxz, qbyz, qbzz, qcaz, qcbz, qccz, qcdz, qcez, qcfz, qcgz, qchz, qciz, beq_true, beq_false, Bool.not_eq_true', decide_eq_true_eq, decide_eq_false_iff_not, decide_true, decide_false,
 Int.toNat_natCast, Int.ofNat_lt, Int.ofNat_le, Int.natCast_inj, Bool.false_eq_true, Bool.true_eq_false, qcjz, List.getElem?_cons_zero, List.getElem?_cons_succ, qckz, Int.reduceToNat, Int.reduceLE, true_and, and_true, reduceCtorEq, or_false, false_or, or_true, Option.some.injEq, exists_eq_left', Bool.not_true, Bool.not_false, ne_eq, Int.reduceEq, not_true_eq_false, not_false_eq_true, Int.reduceLT, UInt8.reduceLT, UInt8.reduceLE, UInt8.reduceToNat]
    exact retIB rfl rfl Kept.start (by simp [zoneD, zoneTab, ← hx, k0]) (by simp [zoneD, zoneTab, ← hx, k0])
  by_cases k1 : x = [103, 109, 116]
  · simp (maxSteps := 1000000) (disch := omega) only [hlo, k0, eq_true k1, qaaz, qabz, qacz, qadz, qaez, qafz, qagz, qahz, qaiz, qajz, qakz, qalz, qamz, qanz, evOp, qaoz, qapz, qaqz, qarz, qasz, qatz, qauz, qavz,
 ↓reduceIte, Nat.reduceEqDiff, List.nil_append, List.cons_append, List.append_nil, List.map_cons, List.map_nil, qawz, qaxz, qayz, Option.map_some, Option.map_none, qazz, qbaz, qbbz, qbcz, qbdz, qbez, qbfz, qbgz, qbhz, qbiz, qbjz, qbkz, qblz, qbmz, qbnz, qboz,
 qbpz, qbqz, qbrz, qbsz, qbtz, qbuz, qbvz, qbwz, qbxz, qbyz, qbzz, qcaz, qcbz, qccz, qcdz, qcez, qcfz, qcgz, qchz, qciz, beq_true, beq_false, Bool.not_eq_true', decide_eq_true_eq, decide_eq_false_iff_not, decide_true, decide_false,
 Int.toNat_natCast, Int.ofNat_lt, Int.ofNat_le, Int.natCast_inj, Bool.false_eq_true, Bool.true_eq_false, qcjz, List.getElem?_cons_zero, List.getElem?_cons_succ, qckz, Int.reduceToNat, Int.reduceLE, true_and, and_true, reduceCtorEq, or_false, false_or, or_true, Option.some.injEq, exists_eq_left', Bool.not_true, Bool.not_false, ne_eq, Int.reduceEq, not_true_eq_false, not_false_eq_true, Int.reduceLT, UInt8.reduceLT, UInt8.reduceLE, UInt8.reduceToNat]
    exact retIB rfl rfl Kept.start (by simp [zoneD, zoneTab, ← hx, k0, k1]) (by simp [zoneD, zoneTab, ← hx, k0, k1])
  by_cases k2 : x = [122]
  · simp (maxSteps := 1000000) (disch := omega) only [hlo, k0, k1, eq_true k2, qaaz, qabz, qacz, qadz, qaez, qafz, qagz, qahz, qaiz, qajz, qakz, qalz, qamz, qanz, evOp, qaoz, qapz, qaqz, qarz, qasz, qatz, qauz, qavz,
 ↓reduceIte, Nat.reduceEqDiff, List.nil_append, List.cons_append, List.append_nil, List.map_cons, List.map_nil, qawz, qaxz, qayz, Option.map_some, Option.map_none, qazz, qbaz, qbbz, qbcz, qbdz, qbez, qbfz, qbgz, qbhz, qbiz, qbjz, qbkz, qblz, qbmz, qbnz, qboz,
 qbpz, qbqz, qbrz, qbsz, qbtz, qbuz, qbvz, qbwz, qbxz, qbyz, qbzz, qcaz, qcbz, qccz, qcdz, qcez, qcfz, qcgz, qchz, qciz, beq_true, beq_false, Bool.not_eq_true', decide_eq_true_eq, decide_eq_false_iff_not, decide_true, decide_false,
 Int.toNat_natCast, Int.ofNat_lt, Int.ofNat_le, Int.natCast_inj, Bool.false_eq_true, Bool.true_eq_false, qcjz, List.getElem?_cons_zero, List.getElem?_cons_succ, qckz, Int.reduceToNat, Int.reduceLE, true_and, and_true, reduceCtorEq, or_false, false_or, or_true, Option.some.injEq, exists_eq_left', Bool.not_true, Bool.not_false, ne_eq, Int.reduceEq, not_true_eq_false, not_false_eq_true, Int.reduceLT, UInt8.reduceLT, UInt8.reduceLE, UInt8.reduceToNat]
    exact retIB rfl rfl Kept.start (by simp [zoneD, zoneTab, ← hx, k0, k1, k2]) (by simp [zoneD, zoneTab, ← hx, k0, k1, k2])
  by_cases k3 : x = []
  · simp (maxSteps := 1000000) (disch := omega) only [hlo, k0, k1, k2, eq_true k3, qaaz, qabz, qacz, qadz, qaez, qafz, qagz, qahz, qaiz, qajz, qakz, qalz, qamz, qanz, evOp, qaoz, qapz, qaqz, qarz, qasz, qatz, qauz, qavz,
 ↓reduceIte, Nat.reduceEqDiff, List.nil_append, List.cons_append, List.append_nil, List.map_cons, List.map_nil, qawz, qaxz, qayz, Option.map_some, Option.map_none, qazz, qbaz, qbbz, qbcz, qbdz, qbez, qbfz, qbgz, qbhz, qbiz, qbjz, qbkz, qblz, qbmz, qbnz, qboz,
 qbpz, qbqz, qbrz, qbsz, qbtz, qbuz, qbvz, qbwz, qbxz, qbyz, qbzz, qcaz, qcbz, qccz, qcdz, qcez, qcfz, qcgz, qchz, qciz, beq_true, beq_false, Bool.not_eq_true', decide_eq_true_eq, decide_eq_false_iff_not, decide_true, decide_false,
 Int.toNat_natCast, Int.ofNat_lt, Int.ofNat_le, Int.natCast_inj, Bool.false_eq_true, Bool.true_eq_false, qcjz, List.getElem?_cons_zero, List.getElem?_cons_succ, qckz, Int.reduceToNat, Int.reduceLE, true_and, and_true, reduceCtorEq, or_false, false_or, or_true, Option.some.injEq, exists_eq_left', Bool.not_true, Bool.not_false, ne_eq, Int.reduceEq, not_true_eq_false, not_false_eq_true, Int.reduceLT, UInt8.reduceLT, UInt8.reduceLE, UInt8.reduceToNat]
    exact retIB rfl rfl Kept.start (by simp [zoneD, zoneTab, ← hx, k0, k1, k2, k3]) (by simp [zoneD, zoneTab, ← hx, k0, k1, k2, k3])
  by_cases k4 : x = [101, 100, 116]
  · simp (maxSteps := 1000000) (disch := omega) only [hlo, k0, k1, k2, k3, eq_true k4, qaaz, qabz, qacz, qadz, qaez, qafz, qagz, qahz, qaiz, qajz, qakz, qalz, qamz, qanz, evOp, qaoz, qapz, qaqz, qarz, qasz, qatz, qauz, qavz,
 ↓reduceIte, Nat.reduceEqDiff, List.nil_append, List.cons_append, List.append_nil, List.map_cons, List.map_nil, qawz, qaxz, qayz, Option.map_some, Option.map_none, qazz, qbaz, qbbz, qbcz, qbdz, qbez, qbfz, qbgz, qbhz, qbiz, qbjz, qbkz, qblz, qbmz, qbnz, qboz,
 qbpz, qbqz, qbrz, qbsz, qbtz, qbuz, qbvz, qbwz, qbxz, qbyz, qbzz, qcaz, qcbz, qccz, qcdz, qcez, qcfz, qcgz, qchz, qciz, beq_true, beq_false, Bool.not_eq_true', decide_eq_true_eq, decide_eq_false_iff_not, decide_true, decide_false,
 Int.toNat_natCast, Int.ofNat_lt, Int.ofNat_le, Int.natCast_inj, Bool.false_eq_true, Bool.true_eq_false, qcjz, List.getElem?_cons_zero, List.getElem?_cons_succ, qckz, Int.reduceToNat, Int.reduceLE, true_and, and_true, reduceCtorEq, or_false, false_or, or_true, Option.some.injEq, exists_eq_left', Bool.not_true, Bool.not_false, ne_eq, Int.reduceEq, not_true_eq_false, not_false_eq_true, Int.reduceLT, UInt8.reduceLT, UInt8.reduceLE, UInt8.reduceToNat]
    exact retIB rfl rfl Kept.start (by simp [zoneD, zoneTab, ← hx, k0, k1, k2, k3, k4]) (by simp [zoneD, zoneTab, ← hx, k0, k1, k2, k3, k4])
  by_cases k5 : x = [101, 115, 116]
  · simp (maxSteps := 1000000) (disch := omega) only [hlo, k0, k1, k2, k3, k4, eq_true k5, qaaz, qabz, qacz, qadz, qaez, qafz, qagz, qahz, qaiz, qajz, qakz, qalz, qamz, qanz, evOp, qaoz, qapz, qaqz, qarz, qasz, qatz, qauz, qavz,
 ↓reduceIte, Nat.reduceEqDiff, List.nil_append, List.cons_append, List.append_nil, List.map_cons, List.map_nil, qawz, qaxz, qayz, Option.map_some, Option.map_none, qazz, qbaz, qbbz, qbcz, qbdz, qbez, qbfz, qbgz, qbhz, qbiz, qbjz, qbkz, qblz, qbmz, qbnz, qboz,
 qbpz, qbqz, qbrz, qbsz, qbtz, qbuz, qbvz, qbwz, qbxz, qbyz, qbzz, qcaz, qcbz, qccz, qcdz, qcez, qcfz, qcgz, qchz, qciz, beq_true, beq_false, Bool.not_eq_true', decide_eq_true_eq, decide_eq_false_iff_not, decide_true, decide_false,
 Int.toNat_natCast, Int.ofNat_lt, Int.ofNat_le, Int.natCast_inj, Bool.false_eq_true, Bool.true_eq_false, qcjz, List.getElem?_cons_zero, List.getElem?_cons_succ, qckz, Int.reduceToNat, Int.reduceLE, true_and, and_true, reduceCtorEq, or_false, false_or, or_true, Option.some.injEq, exists_eq_left', Bool.not_true, Bool.not_false, ne_eq, Int.reduceEq, not_true_eq_false, not_false_eq_true, Int.reduceLT, UInt8.reduceLT, UInt8.reduceLE, UInt8.reduceToNat]
    exact retIB rfl rfl Kept.start (by simp [zoneD, zoneTab, ← hx, k0, k1, k2, k3, k4, k5]) (by simp [zoneD, zoneTab, ← hx, k0, k1, k2, k3, k4, k5])
  by_cases k6 : x = [99, 100, 116]
  · simp (maxSteps := 1000000) (disch := omega) only [hlo, k0, k1, k2, k3, k4, k5, eq_true k6, qaaz, qabz, qacz, qadz, qaez, qafz, qagz, qahz, qaiz, qajz, qakz, qalz, qamz, qanz, evOp, qaoz, qapz, qaqz, qarz, qasz, qatz, qauz, qavz,
 ↓reduceIte, Nat.reduceEqDiff, List.nil_append, List.cons_append, List.append_nil, List.map_cons, List.map_nil, qawz, qaxz, qayz, Option.map_some, Option.map_none, qazz, qbaz, qbbz, qbcz, qbdz, qbez, qbfz, qbgz, qbhz, qbiz, qbjz, qbkz, qblz, qbmz, qbnz, qboz,
 qbpz, qbqz, qbrz, qbsz, qbtz, qbuz, qbvz, qbwz, qbxz, qbyz, qbzz, qcaz, qcbz, qccz, qcdz, qcez, qcfz, qcgz, qchz, qciz, beq_true, beq_false, Bool.not_eq_true', decide_eq_true_eq, decide_eq_false_iff_not, decide_true, decide_false,
 Int.toNat_natCast, Int.ofNat_lt, Int.ofNat_le, Int.natCast_inj, Bool.false_eq_true, Bool.true_eq_false, qcjz, List.getElem?_cons_zero, List.getElem?_cons_succ, qckz, Int.reduceToNat, Int.reduceLE, true_and, and_true, reduceCtorEq, or_false, false_or, or_true, Option.some.injEq, exists_eq_left', Bool.not_true, Bool.not_false, ne_eq, Int.reduceEq, not_true_eq_false, not_false_eq_true, Int.reduceLT, UInt8.reduceLT, UInt8.reduceLE, UInt8.reduceToNat]
    exact retIB rfl rfl Kept.start (by simp [zoneD, zoneTab, ← hx, k0, k1, k2, k3, k4, k5, k6]) (by simp [zoneD, zoneTab, ← hx, k0, k1, k2, k3, k4, k5, k6])
  by_cases k7 : x = [99, 115, 116]
  · simp (maxSteps := 1000000) (disch := omega) only [hlo, k0, k1, k2, k3, k4, k5, k6, eq_true k7, qaaz, qabz, qacz, qadz, qaez, qafz, qagz, qahz, qaiz, qajz, qakz, qalz, qamz, qanz, evOp, qaoz, qapz, qaqz, qarz, qasz, qatz, qauz, qavz,
 ↓reduceIte, Nat.reduceEqDiff, List.nil_append, List.cons_append, List.append_nil, List.map_cons, List.map_nil, qawz, qaxz, qayz, Option.map_some, Option.map_none, qazz, qbaz, qbbz, qbcz, qbdz, qbez, qbfz, qbgz, qbhz, qbiz, qbjz, qbkz, qblz, qbmz, qbnz, qboz,
 qbpz, qbqz, qbrz, qbsz, qbtz, qbuz, qbvz, qbwz, qbxz, qbyz, qbzz, qcaz, qcbz, qccz, qcdz, qcez, qcfz, qcgz, qchz, qciz, beq_true, beq_false, Bool.not_eq_true', decide_eq_true_eq, decide_eq_false_iff_not, decide_true, decide_false,
 Int.toNat_natCast, Int.ofNat_lt, Int.ofNat_le, Int.natCast_inj, Bool.false_eq_true, Bool.true_eq_false, qcjz, List.getElem?_cons_zero, List.getElem?_cons_succ, qckz, Int.reduceToNat, Int.reduceLE, true_and, and_true, reduceCtorEq, or_false, false_or, or_true, Option.some.injEq, exists_eq_left', Bool.not_true, Bool.not_false, ne_eq, Int.reduceEq, not_true_eq_false, not_false_eq_true, Int.reduceLT, UInt8.reduceLT, UInt8.reduceLE, UInt8.reduceToNat]
    exact retIB rfl rfl Kept.start (by simp [zoneD, zoneTab, ← hx, k0, k1, k2, k3, k4, k5, k6, k7]) (by simp [zoneD, zoneTab, ← hx, k0, k1, k2, k3, k4, k5, k6, k7])
  by_cases k8 : x = [109, 100, 116]
  · simp (maxSteps := 1000000) (disch := omega) only [hlo, k0, k1, k2, k3, k4, k5, k6, k7, eq_true k8, qaaz, qabz, qacz, qadz, qaez, qafz, qagz, qahz, qaiz, qajz, qakz, qalz, qamz, qanz, evOp, qaoz, qapz, qaqz, qarz, qasz, qatz, qauz, qavz,
 ↓reduceIte, Nat.reduceEqDiff, List.nil_append, List.cons_append, List.append_nil, List.map_cons, List.map_nil, qawz, qaxz, qayz, Option.map_some, Option.map_none, qazz, qbaz, qbbz, qbcz, qbdz, qbez, qbfz, qbgz, qbhz, qbiz, qbjz, qbkz, qblz, qbmz, qbnz, qboz,
 qbpz, qbqz, qbrz, qbsz, qbtz, qbuz, qbvz, qbwz, qbxz, qbyz, qbzz, qcaz, qcbz, qccz, qcdz, qcez, qcfz, qcgz, qchz, qciz, beq_true, beq_false, Bool.not_eq_true', decide_eq_true_eq, decide_eq_false_iff_not, decide_true, decide_false,
 Int.toNat_natCast, Int.ofNat_lt, Int.ofNat_le, Int.natCast_inj, Bool.false_eq_true, Bool.true_eq_false, qcjz, List.getElem?_cons_zero, List.getElem?_cons_succ, qckz, Int.reduceToNat, Int.reduceLE, true_and, and_true, reduceCtorEq, or_false, false_or, or_true, Option.some.injEq, exists_eq_left', Bool.not_true, Bool.not_false, ne_eq, Int.reduceEq, not_true_eq_false, not_false_eq_true, Int.reduceLT, UInt8.reduceLT, UInt8.reduceLE, UInt8.reduceToNat]
    exact retIB rfl rfl Kept.start (by simp [zoneD, zoneTab, ← hx, k0, k1, k2, k3, k4, k5, k6, k7, k8]) (by simp [zoneD, zoneTab, ← hx, k0, k1, k2, k3, k4, k5, k6, k7, k8])
  by_cases k9 : x = [109, 115, 116]
  · simp (maxSteps := 1000000) (disch := omega) only [hlo, k0, k1, k2, k3, k4, k5, k6, k7, k8, eq_true k9, qaaz, qabz, qacz, qadz, qaez, qafz, qagz, qahz, qaiz, qajz, qakz, qalz, qamz, qanz, evOp, qaoz, qapz, qaqz, qarz, qasz, qatz, qauz, qavz,
 ↓reduceIte, Nat.reduceEqDiff, List.nil_append, List.cons_append, List.append_nil, List.map_cons, List.map_nil, qawz, qaxz, qayz, Option.map_some, Option.map_none, qazz, qbaz, qbbz, qbcz, qbdz, qbez, qbfz, qbgz, qbhz, qbiz, qbjz, qbkz, qblz, qbmz, qbnz, qboz,
 qbpz, qbqz, qbrz, qbsz, qbtz, qbuz, qbvz, qbwz, qbxz, qbyz, qbzz, qcaz, qcbz, qccz, qcdz, qcez, qcfz, qcgz, qchz, qciz, beq_true, beq_false, Bool.not_eq_true', decide_eq_true_eq, decide_eq_false_iff_not, decide_true, decide_false,
 Int.toNat_natCast, Int.ofNat_lt, Int.ofNat_le, Int.natCast_inj, Bool.false_eq_true, Bool.true_eq_false, qcjz, List.getElem?_cons_zero, List.getElem?_cons_succ, qckz, Int.reduceToNat, Int.reduceLE, true_and, and_true, reduceCtorEq, or_false, false_or, or_true, Option.some.injEq, exists_eq_left', Bool.not_true, Bool.not_false, ne_eq, Int.reduceEq, not_true_eq_false, not_false_eq_true, Int.reduceLT, UInt8.reduceLT, UInt8.reduceLE, UInt8.reduceToNat]
    exact retIB rfl rfl Kept.start (by simp [zoneD, zoneTab, ← hx, k0, k1, k2, k3, k4, k5, k6, k7, k8, k9]) (by simp [zoneD, zoneTab, ← hx, k0, k1, k2, k3, k4, k5, k6, k7, k8, k9])
  by_cases k10 : x = [112, 100, 116]
  · simp (maxSteps := 1000000) (disch := omega) only [hlo, k0, k1, k2, k3, k4, k5, k6, k7, k8, k9, eq_true k10, qaaz, qabz, qacz, qadz, qaez, qafz, qagz, qahz, qaiz, qajz, qakz, qalz, qamz, qanz, evOp, qaoz, qapz, qaqz, qarz, qasz, qatz, qauz, qavz,
 ↓reduceIte, Nat.reduceEqDiff, List.nil_append, List.cons_append, List.append_nil, List.map_cons, List.map_nil, qawz, qaxz, qayz, Option.map_some, Option.map_none, qazz, qbaz, qbbz, qbcz, qbdz, qbez, qbfz, qbgz, qbhz, qbiz, qbjz, qbkz, qblz, qbmz, qbnz, qboz,
 qbpz, qbqz, qbrz, qbsz, qbtz, qbuz, qbvz, qbwz, qbxz, qbyz, qbzz, qcaz, qcbz, qccz, qcdz, qcez, qcfz, qcgz, qchz, qciz, beq_true, beq_false, Bool.not_eq_true', decide_eq_true_eq, decide_eq_false_iff_not, decide_true, decide_false,
 Int.toNat_natCast, Int.ofNat_lt, Int.ofNat_le, Int.natCast_inj, Bool.false_eq_true, Bool.true_eq_false, qcjz, List.getElem?_cons_zero, List.getElem?_cons_succ, qckz, Int.reduceToNat, Int.reduceLE, true_and, and_true, reduceCtorEq, or_false, false_or, or_true, Option.some.injEq, exists_eq_left', Bool.not_true, Bool.not_false, ne_eq, Int.reduceEq, not_true_eq_false, not_false_eq_true, Int.reduceLT, UInt8.reduceLT, UInt8.reduceLE, UInt8.reduceToNat]
    exact retIB rfl rfl Kept.start (by simp [zoneD, zoneTab, ← hx, k0, k1, k2, k3, k4, k5, k6, k7, k8, k9, k10]) (by simp [zoneD, zoneTab, ← hx, k0, k1, k2, k3, k4, k5, k6, k7, k8, k9, k10])
  by_cases k11 : x = [112, 115, 116]
  · simp (maxSteps := 1000000) (disch := omega) only [hlo, k0, k1, k2, k3, k4, k5, k6, k7, k8, k9, k10, eq_true k11, qaaz, qabz, qacz, qadz, qaez, qafz, qagz, qahz, qaiz, qajz, qakz, qalz, qamz, qanz, evOp, qaoz, qapz, qaqz, qarz, qasz, qatz, qauz, qavz,
 ↓reduceIte, Nat.reduceEqDiff, List.nil_append, List.cons_append, List.append_nil, List.map_cons, List.map_nil, qawz, qaxz, qayz, Option.map_some, Option.map_none, qazz, qbaz, qbbz, qbcz, qbdz, qbez, qbfz, qbgz, qbhz, qbiz, qbjz, qbkz, qblz, qbmz, qbnz, qboz,
 qbpz, qbqz, qbrz, qbsz, qbtz, qbuz, qbvz, qbwz, qbxz, qbyz, qbzz, qcaz, qcbz, qccz, qcdz, qcez, qcfz, qcgz, qchz, qciz, beq_true, beq_false, Bool.not_eq_true', decide_eq_true_eq, decide_eq_false_iff_not, decide_true, decide_false,
 Int.toNat_natCast, Int.ofNat_lt, Int.ofNat_le, Int.natCast_inj, Bool.false_eq_true, Bool.true_eq_false, qcjz, List.getElem?_cons_zero, List.getElem?_cons_succ, qckz, Int.reduceToNat, Int.reduceLE, true_and, and_true, reduceCtorEq, or_false, false_or, or_true, Option.some.injEq, exists_eq_left', Bool.not_true, Bool.not_false, ne_eq, Int.reduceEq, not_true_eq_false, not_false_eq_true, Int.reduceLT, UInt8.reduceLT, UInt8.reduceLE, UInt8.reduceToNat]
    exact retIB rfl rfl Kept.start (by simp [zoneD, zoneTab, ← hx, k0, k1, k2, k3, k4, k5, k6, k7, k8, k9, k10, k11]) (by simp [zoneD, zoneTab, ← hx, k0, k1, k2, k3, k4, k5, k6, k7, k8, k9, k10, k11])
  have hz : zoneD l = zoneN l := by
    have : zoneTab.find? (fun q => decide (lowOf l = q.1)) = none := by simp [zoneTab, ← hx, k0, k1, k2, k3, k4, k5, k6, k7, k8, k9, k10, k11]
    unfold zoneD; rw [this]
  rw [hz]
  have hne : l ≠ [] := fun h => k3 (by rw [hx, h]; rfl)
  have hpos := List.length_pos_iff.2 hne
  obtain ⟨a, ha⟩ : ∃ a, a = l.getD 0 0 := ⟨_, rfl⟩
  have i0 : idxSPV (.str l) (.int .i64 0) = some (.b8 a) := by rw [idx_s (by omega) (by simpa using hpos), ha]; rfl
  have s1 : slcPV 0 (.str l) (some (.int .i64 1)) none none = some (.str (l.drop 1)) := by rw [slc_s_lo (by omega) (by simp; omega)]; rfl
  have d4 := fun S : St => digits_spec (st := S) (l := l.drop 1) (least := 4) (most := 4) (by simp; omega) (by omega) (by omega)
  rw [show (((4 : Nat) : Int)) = 4 from rfl] at d4
  have d2 := fun (y : Bs) (hy : y.length ≤ 1000000) (S : St) => digits_spec (st := S) (l := y) (least := 2) (most := 2) (by omega) (by omega) (by omega)
  rw [show (((2 : Nat) : Int)) = 2 from rfl] at d2
  obtain ⟨n, hn⟩ : ∃ n, n = digD (l.drop 1) 4 4 := ⟨_, rfl⟩
  rw [← hn] at d4
  have bad : (a ≠ 43 ∧ a ≠ 45) ∨ n < 0 → ∀ E : Env, E 2 = .int .i64 0 → E 3 = .bool false → ∃ rv, resOf E { boxes := st.boxes, toks := st.toks, loops := st.loops, low := st.boxes.length } [.tmp 2, .tmp 3] = some rv ∧ leave st { boxes := st.boxes, toks := st.toks, loops := st.loops, low := st.boxes.length } rv = (.tup [.int .i64 (zoneN l).1, .bool (zoneN l).2], st) := fun h E q2 q3 => by
    have hz0 : zoneN l = (0, false) := by unfold zoneN; rw [← ha, ← hn, if_pos h]
    rw [hz0]
    exact retIB q2 q3 Kept.start rfl rfl
  have mulc : ∀ (h c : Int), -100000 < h → h < 100000 → 0 ≤ c → c ≤ 3600 → binPV .mul .no (.int .i64 h) (.int .i64 c) = some (.int .i64 (h * c)) := fun h c h1 h2 h3 h4 => by
    simp only [binPV, binI, reduceIte, Option.some.injEq]
    have e1 : h * c ≤ 100000 * 3600 := by
      rcases Int.lt_or_le h 0 with g | g
      · have := Int.mul_nonneg (show 0 ≤ -h by omega) h3
        rw [Int.neg_mul] at this; omega
      · exact Int.mul_le_mul (by omega) h4 h3 (by omega)
    have e2 : -(100000 * 3600) ≤ h * c := by
      rcases Int.lt_or_le h 0 with g | g
      · have := Int.mul_le_mul (show -h ≤ 100000 by omega) h4 h3 (by omega)
        rw [Int.neg_mul] at this; omega
      · have := Int.mul_nonneg g h3; omega
    rw [wrap64 (by omega) (by omega)]
  have fin : 0 ≤ n → l.length = 5 := fun h => by
    rw [hn] at h
    unfold digD at h
    split at h
    · rename_i q; simp at q; omega
    · omega
  by_cases c1 : a = 43
  · have c2 : ¬ a = 45 := by rw [c1]; decide
    by_cases c3 : n < 0
    · simp (maxSteps := 1000000) (disch := omega) only [hlo, k0, k1, k2, k3, k4, k5, k6, k7, k8, k9, k10, k11, i0, eq_true c1, s1, d4, c3, qaaz, qabz, qacz, qadz, qaez, qafz, qagz, qahz, qaiz, qajz, qakz, qalz, qamz, qanz, evOp, qaoz, qapz, qaqz, qarz, qasz, qatz, qauz, qavz,
 ↓reduceIte, Nat.reduceEqDiff, List.nil_append, List.cons_append, List.append_nil, List.map_cons, List.map_nil, qawz, qaxz, qayz, Option.map_some, Option.map_none, qazz, qbaz, qbbz, qbcz, qbdz, qbez, qbfz, qbgz, qbhz, qbiz, qbjz, qbkz, qblz, qbmz, qbnz, qboz,
 qbpz, qbqz, qbrz, qbsz, qbtz, qbuz, qbvz, qbwz, qbxz, qbyz, qbzz, qcaz, qcbz, qccz, qcdz, qcez, qcfz, qcgz, qchz, qciz, beq_true, beq_false, Bool.not_eq_true', decide_eq_true_eq, decide_eq_false_iff_not, decide_true, decide_false,
 Int.toNat_natCast, Int.ofNat_lt, Int.ofNat_le, Int.natCast_inj, Bool.false_eq_true, Bool.true_eq_false, qcjz, List.getElem?_cons_zero, List.getElem?_cons_succ, qckz, Int.reduceToNat, Int.reduceLE, true_and, and_true, reduceCtorEq, or_false, false_or, or_true, Option.some.injEq, exists_eq_left', Bool.not_true, Bool.not_false, ne_eq, Int.reduceEq, not_true_eq_false, not_false_eq_true, Int.reduceLT, UInt8.reduceLT, UInt8.reduceLE, UInt8.reduceToNat]
      exact bad (.inr c3) _ rfl rfl
    · have h5 := fin (by omega)
      have s13 : slcPV 0 (.str l) (some (.int .i64 1)) (some (.int .i64 3)) none = some (.str ((l.take 3).drop 1)) := by rw [slc_s (by omega) (by omega) (by simp; omega)]; rfl
      have s3 : slcPV 0 (.str l) (some (.int .i64 3)) none none = some (.str (l.drop 3)) := by rw [slc_s_lo (by omega) (by simp; omega)]; rfl
      have dh := d2 ((l.take 3).drop 1) (by simp; omega)
      have dm := d2 (l.drop 3) (by simp; omega)
      have bh := digD_bound (s := (l.take 3).drop 1) (a := 2) (b := 2) (by omega)
      have bm := digD_bound (s := l.drop 3) (a := 2) (b := 2) (by omega)
      have hzz : zoneN l = (digD ((l.take 3).drop 1) 2 2 * 3600 + digD (l.drop 3) 2 2 * 60, decide (digD ((l.take 3).drop 1) 2 2 < 24) && decide (digD (l.drop 3) 2 2 < 60)) := by
        unfold zoneN; rw [← ha, ← hn, if_neg (by simp [c1, c2]; omega)]; simp [c1, c2]
      rw [hzz]
      obtain ⟨h, hh⟩ : ∃ h, h = digD ((l.take 3).drop 1) 2 2 := ⟨_, rfl⟩
      obtain ⟨m, hm⟩ : ∃ m, m = digD (l.drop 3) 2 2 := ⟨_, rfl⟩
      rw [← hh] at dh bh ⊢
      rw [← hm] at dm bm ⊢
      have mh := mulc h 3600 (by omega) (by omega) (by omega) (by omega)
      have mm := mulc m 60 (by omega) (by omega) (by omega) (by omega)
      by_cases g : h < 24
      · simp (maxSteps := 1000000) (disch := omega) only [hlo, k0, k1, k2, k3, k4, k5, k6, k7, k8, k9, k10, k11, i0, eq_true c1, c2, s1, d4, c3, s13, s3, dh, dm, mh, mm, add_i, neg_i, g, qaaz, qabz, qacz, qadz, qaez, qafz, qagz, qahz, qaiz, qajz, qakz, qalz, qamz, qanz, evOp, qaoz, qapz, qaqz, qarz, qasz, qatz, qauz, qavz,
 ↓reduceIte, Nat.reduceEqDiff, List.nil_append, List.cons_append, List.append_nil, List.map_cons, List.map_nil, qawz, qaxz, qayz, Option.map_some, Option.map_none, qazz, qbaz, qbbz, qbcz, qbdz, qbez, qbfz, qbgz, qbhz, qbiz, qbjz, qbkz, qblz, qbmz, qbnz, qboz,
 qbpz, qbqz, qbrz, qbsz, qbtz, qbuz, qbvz, qbwz, qbxz, qbyz, qbzz, qcaz, qcbz, qccz, qcdz, qcez, qcfz, qcgz, qchz, qciz, beq_true, beq_false, Bool.not_eq_true', decide_eq_true_eq, decide_eq_false_iff_not, decide_true, decide_false,
 Int.toNat_natCast, Int.ofNat_lt, Int.ofNat_le, Int.natCast_inj, Bool.false_eq_true, Bool.true_eq_false, qcjz, List.getElem?_cons_zero, List.getElem?_cons_succ, qckz, Int.reduceToNat, Int.reduceLE, true_and, and_true, reduceCtorEq, or_false, false_or, or_true, Option.some.injEq, exists_eq_left', Bool.not_true, Bool.not_false, ne_eq, Int.reduceEq, not_true_eq_false, not_false_eq_true, Int.reduceLT, UInt8.reduceLT, UInt8.reduceLE, UInt8.reduceToNat]
        exact retIB rfl rfl Kept.start rfl (by simp [g])
      · simp (maxSteps := 1000000) (disch := omega) only [hlo, k0, k1, k2, k3, k4, k5, k6, k7, k8, k9, k10, k11, i0, eq_true c1, c2, s1, d4, c3, s13, s3, dh, dm, mh, mm, add_i, neg_i, g, qaaz, qabz, qacz, qadz, qaez, qafz, qagz, qahz, qaiz, qajz, qakz, qalz, qamz, qanz, evOp, qaoz, qapz, qaqz, qarz, qasz, qatz, qauz, qavz,
 ↓reduceIte, Nat.reduceEqDiff, List.nil_append, List.cons_append, List.append_nil, List.map_cons, List.map_nil, qawz, qaxz, qayz, Option.map_some, Option.map_none, qazz, qbaz, qbbz, qbcz, qbdz, qbez, qbfz, qbgz, qbhz, qbiz, qbjz, qbkz, qblz, qbmz, qbnz, qboz,
 qbpz, qbqz, qbrz, qbsz, qbtz, qbuz, qbvz, qbwz, qbxz, qbyz, qbzz, qcaz, qcbz, qccz, qcdz, qcez, qcfz, qcgz, qchz, qciz, beq_true, beq_false, Bool.not_eq_true', decide_eq_true_eq, decide_eq_false_iff_not, decide_true, decide_false,
 Int.toNat_natCast, Int.ofNat_lt, Int.ofNat_le, Int.natCast_inj, Bool.false_eq_true, Bool.true_eq_false, qcjz, List.getElem?_cons_zero, List.getElem?_cons_succ, qckz, Int.reduceToNat, Int.reduceLE, true_and, and_true, reduceCtorEq, or_false, false_or, or_true, Option.some.injEq, exists_eq_left', Bool.not_true, Bool.not_false, ne_eq, Int.reduceEq, not_true_eq_false, not_false_eq_true, Int.reduceLT, UInt8.reduceLT, UInt8.reduceLE, UInt8.reduceToNat]
        exact retIB rfl rfl Kept.start rfl (by simp [g])
  · by_cases c2 : a = 45
    · by_cases c3 : n < 0
      · simp (maxSteps := 1000000) (disch := omega) only [hlo, k0, k1, k2, k3, k4, k5, k6, k7, k8, k9, k10, k11, i0, c1, eq_true c2, s1, d4, c3, qaaz, qabz, qacz, qadz, qaez, qafz, qagz, qahz, qaiz, qajz, qakz, qalz, qamz, qanz, evOp, qaoz, qapz, qaqz, qarz, qasz, qatz, qauz, qavz,
 ↓reduceIte, Nat.reduceEqDiff, List.nil_append, List.cons_append, List.append_nil, List.map_cons, List.map_nil, qawz, qaxz, qayz, Option.map_some, Option.map_none, qazz, qbaz, qbbz, qbcz, qbdz, qbez, qbfz, qbgz, qbhz, qbiz, qbjz, qbkz, qblz, qbmz, qbnz, qboz,
 qbpz, qbqz, qbrz, qbsz, qbtz, qbuz, qbvz, qbwz, qbxz, qbyz, qbzz, qcaz, qcbz, qccz, qcdz, qcez, qcfz, qcgz, qchz, qciz, beq_true, beq_false, Bool.not_eq_true', decide_eq_true_eq, decide_eq_false_iff_not, decide_true, decide_false,
 Int.toNat_natCast, Int.ofNat_lt, Int.ofNat_le, Int.natCast_inj, Bool.false_eq_true, Bool.true_eq_false, qcjz, List.getElem?_cons_zero, List.getElem?_cons_succ, qckz, Int.reduceToNat, Int.reduceLE, true_and, and_true, reduceCtorEq, or_false, false_or, or_true, Option.some.injEq, exists_eq_left', Bool.not_true, Bool.not_false, ne_eq, Int.reduceEq, not_true_eq_false, not_false_eq_true, Int.reduceLT, UInt8.reduceLT, UInt8.reduceLE, UInt8.reduceToNat]
        exact bad (.inr c3) _ rfl rfl
      · have h5 := fin (by omega)
        have s13 : slcPV 0 (.str l) (some (.int .i64 1)) (some (.int .i64 3)) none = some (.str ((l.take 3).drop 1)) := by rw [slc_s (by omega) (by omega) (by simp; omega)]; rfl
        have s3 : slcPV 0 (.str l) (some (.int .i64 3)) none none = some (.str (l.drop 3)) := by rw [slc_s_lo (by omega) (by simp; omega)]; rfl
        have dh := d2 ((l.take 3).drop 1) (by simp; omega)
        have dm := d2 (l.drop 3) (by simp; omega)
        have bh := digD_bound (s := (l.take 3).drop 1) (a := 2) (b := 2) (by omega)
        have bm := digD_bound (s := l.drop 3) (a := 2) (b := 2) (by omega)
        have hzz : zoneN l = (-(digD ((l.take 3).drop 1) 2 2 * 3600 + digD (l.drop 3) 2 2 * 60), decide (digD ((l.take 3).drop 1) 2 2 < 24) && decide (digD (l.drop 3) 2 2 < 60)) := by
          unfold zoneN; rw [← ha, ← hn, if_neg (by simp [c1, c2]; omega)]; simp [c1, c2]
        rw [hzz]
        obtain ⟨h, hh⟩ : ∃ h, h = digD ((l.take 3).drop 1) 2 2 := ⟨_, rfl⟩
        obtain ⟨m, hm⟩ : ∃ m, m = digD (l.drop 3) 2 2 := ⟨_, rfl⟩
        rw [← hh] at dh bh ⊢
        rw [← hm] at dm bm ⊢
        have mh := mulc h 3600 (by omega) (by omega) (by omega) (by omega)
        have mm := mulc m 60 (by omega) (by omega) (by omega) (by omega)
        by_cases g : h < 24
        · simp (maxSteps := 1000000) (disch := omega) only [hlo, k0, k1, k2, k3, k4, k5, k6, k7, k8, k9, k10, k11, i0, c1, eq_true c2, s1, d4, c3, s13, s3, dh, dm, mh, mm, add_i, neg_i, g, qaaz, qabz, qacz, qadz, qaez, qafz, qagz, qahz, qaiz, qajz, qakz, qalz, qamz, qanz, evOp, qaoz, qapz, qaqz, qarz, qasz, qatz, qauz, qavz,
 ↓reduceIte, Nat.reduceEqDiff, List.nil_append, List.cons_append, List.append_nil, List.map_cons, List.map_nil, qawz, qaxz, qayz, Option.map_some, Option.map_none, qazz, qbaz, qbbz, qbcz, qbdz, qbez, qbfz, qbgz, qbhz, qbiz, qbjz, qbkz, qblz, qbmz, qbnz, qboz,
 qbpz, qbqz, qbrz, qbsz, qbtz, qbuz, qbvz, qbwz, qbxz, qbyz, qbzz, qcaz, qcbz, qccz, qcdz, qcez, qcfz, qcgz, qchz, qciz, beq_true, beq_false, Bool.not_eq_true', decide_eq_true_eq, decide_eq_false_iff_not, decide_true, decide_false,
 Int.toNat_natCast, Int.ofNat_lt, Int.ofNat_le, Int.natCast_inj, Bool.false_eq_true, Bool.true_eq_false, qcjz, List.getElem?_cons_zero, List.getElem?_cons_succ, qckz, Int.reduceToNat, Int.reduceLE, true_and, and_true, reduceCtorEq, or_false, false_or, or_true, Option.some.injEq, exists_eq_left', Bool.not_true, Bool.not_false, ne_eq, Int.reduceEq, not_true_eq_false, not_false_eq_true, Int.reduceLT, UInt8.reduceLT, UInt8.reduceLE, UInt8.reduceToNat]
          exact retIB rfl rfl Kept.start rfl (by simp [g])
        · simp (maxSteps := 1000000) (disch := omega) only [hlo, k0, k1, k2, k3, k4, k5, k6, k7, k8, k9, k10, k11, i0, c1, eq_true c2, s1, d4, c3, s13, s3, dh, dm, mh, mm, add_i, neg_i, g, qaaz, qabz, qacz, qadz, qaez, qafz, qagz, qahz, qaiz, qajz, qakz, qalz, qamz, qanz, evOp, qaoz, qapz, qaqz, qarz, qasz, qatz, qauz, qavz,
 ↓reduceIte, Nat.reduceEqDiff, List.nil_append, List.cons_append, List.append_nil, List.map_cons, List.map_nil, qawz, qaxz, qayz, Option.map_some, Option.map_none, qazz, qbaz, qbbz, qbcz, qbdz, qbez, qbfz, qbgz, qbhz, qbiz, qbjz, qbkz, qblz, qbmz, qbnz, qboz,
 qbpz, qbqz, qbrz, qbsz, qbtz, qbuz, qbvz, qbwz, qbxz, qbyz, qbzz, qcaz, qcbz, qccz, qcdz, qcez, qcfz, qcgz, qchz, qciz, beq_true, beq_false, Bool.not_eq_true', decide_eq_true_eq, decide_eq_false_iff_not, decide_true, decide_false,
 Int.toNat_natCast, Int.ofNat_lt, Int.ofNat_le, Int.natCast_inj, Bool.false_eq_true, Bool.true_eq_false, qcjz, List.getElem?_cons_zero, List.getElem?_cons_succ, qckz, Int.reduceToNat, Int.reduceLE, true_and, and_true, reduceCtorEq, or_false, false_or, or_true, Option.some.injEq, exists_eq_left', Bool.not_true, Bool.not_false, ne_eq, Int.reduceEq, not_true_eq_false, not_false_eq_true, Int.reduceLT, UInt8.reduceLT, UInt8.reduceLE, UInt8.reduceToNat]
          exact retIB rfl rfl Kept.start rfl (by simp [g])
    · simp (maxSteps := 1000000) (disch := omega) only [hlo, k0, k1, k2, k3, k4, k5, k6, k7, k8, k9, k10, k11, i0, c1, c2, qaaz, qabz, qacz, qadz, qaez, qafz, qagz, qahz, qaiz, qajz, qakz, qalz, qamz, qanz, evOp, qaoz, qapz, qaqz, qarz, qasz, qatz, qauz, qavz,
 ↓reduceIte, Nat.reduceEqDiff, List.nil_append, List.cons_append, List.append_nil, List.map_cons, List.map_nil, qawz, qaxz, qayz, Option.map_some, Option.map_none, qazz, qbaz, qbbz, qbcz, qbdz, qbez, qbfz, qbgz, qbhz, qbiz, qbjz, qbkz, qblz, qbmz, qbnz, qboz,
 qbpz, qbqz, qbrz, qbsz, qbtz, qbuz, qbvz, qbwz, qbxz, qbyz, qbzz, qcaz, qcbz, qccz, qcdz, qcez, qcfz, qcgz, qchz, qciz, beq_true, beq_false, Bool.not_eq_true', decide_eq_true_eq, decide_eq_false_iff_not, decide_true, decide_false,
 Int.toNat_natCast, Int.ofNat_lt, Int.ofNat_le, Int.natCast_inj, Bool.false_eq_true, Bool.true_eq_false, qcjz, List.getElem?_cons_zero, List.getElem?_cons_succ, qckz, Int.reduceToNat, Int.reduceLE, true_and, and_true, reduceCtorEq, or_false, false_or, or_true, Option.some.injEq, exists_eq_left', Bool.not_true, Bool.not_false, ne_eq, Int.reduceEq, not_true_eq_false, not_false_eq_true, Int.reduceLT, UInt8.reduceLT, UInt8.reduceLE, UInt8.reduceToNat]
      exact bad (.inl ⟨c1, c2⟩) _ rfl rfl
end Go.Ab

/-
  Dates are read: what stands between ( and ) is left out.
-/
namespace Go.Ab
set_option linter.unusedVariables false
set_option linter.unusedSimpArgs false
set_option maxRecDepth 20000
variable {st s : St} {e : Env} {b : Nat} {x : PV} {l : List UInt8}

theorem WriteString_spec2 {m : List UInt8} (h : Bu s b x l) (hl : l.length + m.length ≤ room) : ∃ x' s', call prog (.fn 58 []) [.ptr b 0, .str m] s = some (.tup [.int .i64 (m.length : Int), .nili], s') ∧ BuStep s s' b x x' (l ++ m) ∧ (x = .nils → m = [] → x' = .nils) := by
  have hlt := h.lt
  obtain ⟨s1, c1, c2⟩ := copyCheck_spec (s := { s with low := s.boxes.length }) ⟨h.bx, h.lv.move fun _ _ => rfl⟩
  have ld : loadPV s1 false 1 (.ptr b 1) = some x := by simp [c2, loadPV, hlt, readCells]
  obtain ⟨x', s2, s3, a1, a2, a3⟩ := bu_app (s := s) (s0 := s1) (b := b) (y := .str m) (m := m) h.lv hlt (by rw [c2]) (by rw [c2]) (by rw [c2]; exact Nat.le_refl _) (fun i hi => by rw [c2]) rfl hl (by rw [c2])
  obtain ⟨s', k1, k2⟩ := a3 (.tup [.int .i64 (m.length : Int), .nili]) rfl (fun _ _ => rfl)
  refine ⟨x', s', call_of_W prog_58 ?_, k2, fun hx hm => ?_⟩
  · unfold F_P_strings_Builder_WriteString; dsimp only
    have c1' : call prog (.fn 73 []) [.ptr b 0] { boxes := s.boxes, toks := s.toks, loops := s.loops, low := s.boxes.length } = some (.tup [], s1) := by
      rw [call_primS prog_73]; exact c1
    have hlen : lenPV true (.str m) = some (.int .i64 (m.length : Int)) := rfl
    simp (maxSteps := 1000000) (disch := omega) only [c1', faddrPV, Nat.zero_add, ld, a1, a2, hlen, qaaz, qabz, qacz, qadz, qaez, qafz, qagz, qahz, qaiz, qajz, qakz, qalz, qamz, qanz, evOp, qaoz, qapz, qaqz, qarz, qasz, qatz, qauz, qavz,
 ↓reduceIte, Nat.reduceEqDiff, List.nil_append, List.cons_append, List.append_nil, List.map_cons, List.map_nil, qawz, qaxz, qayz, Option.map_some, Option.map_none, qazz, qbaz, qbbz, qbcz, qbdz, qbez, qbfz, qbgz, qbhz, qbiz, qbjz, qbkz, qblz, qbmz, qbnz, qboz,
 qbpz, qbqz, qbrz, qbsz, qbtz, qbuz, qbvz, qbwz, qbxz, qbyz, qbzz, qcaz, qcbz, qccz, qcdz, qcez, qcfz, qcgz, qchz, qciz, beq_true, beq_false, Bool.not_eq_true', decide_eq_true_eq, decide_eq_false_iff_not, decide_true, decide_false,
 Int.toNat_natCast, Int.ofNat_lt, Int.ofNat_le, Int.natCast_inj, Bool.false_eq_true, Bool.true_eq_false, qcjz, List.getElem?_cons_zero, List.getElem?_cons_succ, qckz, Int.reduceToNat, Int.reduceLE, true_and, and_true, reduceCtorEq, or_false, false_or, or_true, Option.some.injEq, exists_eq_left', Bool.not_true, Bool.not_false, ne_eq, Int.reduceEq, not_true_eq_false, not_false_eq_true, Int.reduceLT, UInt8.reduceLT, UInt8.reduceLE, UInt8.reduceToNat]
    exact ⟨.tup [.int .i64 (m.length : Int), .nili], rfl, k1⟩
  · subst hx hm
    simp [app8, src8] at a1
    exact a1.1.symm

def bareD : Nat → Bs → Bs
  | 0, _ => []
  | n + 1, s =>
    if Lib.index s [40] < 0 then s
    else if Lib.index (s.drop ((Lib.index s [40]).toNat + 1)) [41] < 0 then s.take (Lib.index s [40]).toNat ++ [40]
    else s.take (Lib.index s [40]).toNat ++ 32 :: bareD n ((s.drop ((Lib.index s [40]).toNat + 1)).drop ((Lib.index (s.drop ((Lib.index s [40]).toNat + 1)) [41]).toNat + 1))
def bareT (s : Bs) : Bs := bareD (s.length + 1) s

theorem bare_no {s : Bs} {n : Nat} (h : Lib.index s [40] = -1) : bareD (n + 1) s = s := by
  rw [bareD, h, if_pos (by decide)]
theorem bare_open {a t : Bs} {n : Nat} (ha : ∀ c ∈ a, c ≠ 40) (h : Lib.index t [41] = -1) : bareD (n + 1) (a ++ 40 :: t) = a ++ [40] := by
  have h1 := index_chr (k := 40) a t ha
  have e : (a ++ 40 :: t).drop (a.length + 1) = t := by simp [List.drop_append]
  rw [bareD, h1, if_neg (by omega), Int.toNat_natCast, e, h, if_pos (by decide), List.take_left]
theorem bare_shut {a p u : Bs} {n : Nat} (ha : ∀ c ∈ a, c ≠ 40) (hp : ∀ c ∈ p, c ≠ 41) : bareD (n + 1) (a ++ 40 :: (p ++ 41 :: u)) = a ++ 32 :: bareD n u := by
  have h1 := index_chr (k := 40) a (p ++ 41 :: u) ha
  have h2 := index_chr (k := 41) p u hp
  have e : (a ++ 40 :: (p ++ 41 :: u)).drop (a.length + 1) = p ++ 41 :: u := by simp [List.drop_append]
  have e2 : (p ++ 41 :: u).drop (p.length + 1) = u := by simp [List.drop_append]
  rw [bareD, h1, if_neg (by omega), Int.toNat_natCast, e, h2, if_neg (by omega), Int.toNat_natCast, e2, List.take_left]

set_option maxHeartbeats 2000000 in
theorem bare_spec {s : Bs} (hl : s.length ≤ 1000000) : call prog (.fn 284 []) [.str s] st = some (.str (bareT s), st) := by
  refine call_of_W prog_284 ?_
  unfold F_date_bare; dsimp only
  obtain ⟨T, hT⟩ : ∃ T, T = bareT s := ⟨_, rfl⟩
  rw [← hT]
  simp (maxSteps := 1000000) (disch := omega) only [allocPV, qaaz, qabz, qacz, qadz, qaez, qafz, qagz, qahz, qaiz, qajz, qakz, qalz, qamz, qanz, evOp, qaoz, qapz, qaqz, qarz, qasz, qatz, qauz, qavz,
 ↓reduceIte, Nat.reduceEqDiff, List.nil_append, List.cons_append, List.append_nil, List.map_cons, List.map_nil, qawz, qaxz, qayz, Option.map_some, Option.map_none, qazz, qbaz, qbbz, qbcz, qbdz, qbez, qbfz, qbgz, qbhz, qbiz, qbjz, qbkz, qblz, qbmz, qbnz, qboz,
 qbpz, qbqz, qbrz, qbsz, qbtz, qbuz, qbvz, qbwz, qbxz, qbyz, qbzz, qcaz, qcbz, qccz, qcdz, qcez, qcfz, qcgz, qchz, qciz, beq_true, beq_false, Bool.not_eq_true', decide_eq_true_eq, decide_eq_false_iff_not, decide_true, decide_false,
 Int.toNat_natCast, Int.ofNat_lt, Int.ofNat_le, Int.natCast_inj, Bool.false_eq_true, Bool.true_eq_false, qcjz, List.getElem?_cons_zero, List.getElem?_cons_succ, qckz, Int.reduceToNat, Int.reduceLE, true_and, and_true, reduceCtorEq, or_false, false_or, or_true, Option.some.injEq, exists_eq_left', Bool.not_true, Bool.not_false, ne_eq, Int.reduceEq, not_true_eq_false, not_false_eq_true, Int.reduceLT, UInt8.reduceLT, UInt8.reduceLE, UInt8.reduceToNat]
  obtain ⟨Q0, hQ0⟩ : ∃ Q0 : Ex → Env → St → Prop, Q0 = endQ st [.tmp 2] (.str T, st) := ⟨_, rfl⟩
  rw [← hQ0]
  obtain ⟨I, hI⟩ : ∃ I : Nat → Env → St → Prop, I = fun k E S => ∃ (r acc : Bs) (x : PV) (j : Nat), k = r.length ∧ Kept st S ∧ Bu S st.boxes.length x acc ∧ (∀ t, tokOf x = some t → st.toks.length ≤ t) ∧ (acc = [] → x = .nils) ∧ acc.length + r.length ≤ s.length ∧ T = acc ++ bareD (r.length + j + 1) r ∧ E 0 = .str r ∧ E 3 = .ptr st.boxes.length 0 := ⟨_, rfl⟩
  refine W_loop I ?_ (n := s.length) (by
    rw [hI]
    exact ⟨s, [], .nils, 0, rfl, Kept.start.alloc, ⟨.inl (by simp), .inl ⟨rfl, rfl⟩⟩, fun t h => (by cases h), fun _ => rfl, by simp, hT, rfl, rfl⟩)
  intro k E S hh
  rw [hI] at hh
  obtain ⟨r, acc, x, j, rfl, hk, hb, hm, hz, hal, hTT, h0, h3⟩ := hh
  have hcut := fun (q : Bs) (c : UInt8) (hq : q.length ≤ 1000000) (S : St) => Cut_spec (st := S) (a := q) (b := [c]) (by omega) (by simp)
  have hc1 := hcut r 40 (by omega)
  rcases chr_split 40 r with ⟨q1, q2⟩ | ⟨n, t, q1, q2⟩
  · have hcc : cutAt r [40] = .tup [.str r, .str [], .bool false] := by unfold cutAt; rw [q2, if_neg (by decide)]
    rw [hcc] at hc1
    rw [bare_no q2] at hTT
    obtain ⟨y, s2, a1, a2, a3⟩ := WriteString_spec2 (m := r) hb (by simp only [room]; omega)
    obtain ⟨k1, k2⟩ := hk.step a2 (Nat.le_refl _) hm
    have hz2 : acc ++ r = [] → y = .nils := fun h => by
      obtain ⟨h1, h2⟩ := List.append_eq_nil_iff.1 h
      exact a3 (hz h1) h2
    obtain ⟨s3, b1, k3⟩ := k1.string (BString_spec (a2.bu hb.lt) hz2 (by simp only [room, List.length_append]; omega)) k2
    simp (maxSteps := 1000000) (disch := omega) only [h0, h3, hc1, a1, b1, qaaz, qabz, qacz, qadz, qaez, qafz, qagz, qahz, qaiz, qajz, qakz, qalz, qamz, qanz, evOp, qaoz, qapz, qaqz, qarz, qasz, qatz, qauz, qavz,
 ↓reduceIte, Nat.reduceEqDiff, List.nil_append, List.cons_append, List.append_nil, List.map_cons, List.map_nil, qawz, qaxz, qayz, Option.map_some, Option.map_none, qazz, qbaz, qbbz, qbcz, qbdz, qbez, qbfz, qbgz, qbhz, qbiz, qbjz, qbkz, qblz, qbmz, qbnz, qboz,
 qbpz, qbqz, qbrz, qbsz, qbtz, qbuz, qbvz, qbwz, qbxz, qbyz, qbzz, qcaz, qcbz, qccz, qcdz, qcez, qcfz, qcgz, qchz, qciz, beq_true, beq_false, Bool.not_eq_true', decide_eq_true_eq, decide_eq_false_iff_not, decide_true, decide_false,
 Int.toNat_natCast, Int.ofNat_lt, Int.ofNat_le, Int.natCast_inj, Bool.false_eq_true, Bool.true_eq_false, qcjz, List.getElem?_cons_zero, List.getElem?_cons_succ, qckz, Int.reduceToNat, Int.reduceLE, true_and, and_true, reduceCtorEq, or_false, false_or, or_true, Option.some.injEq, exists_eq_left', Bool.not_true, Bool.not_false, ne_eq, Int.reduceEq, not_true_eq_false, not_false_eq_true, Int.reduceLT, UInt8.reduceLT, UInt8.reduceLE, UInt8.reduceToNat]
    rw [hQ0, qblz, hTT]
    exact retS rfl k3 rfl
  · have hix := index_chr (k := 40) n t q2
    have hcc : cutAt r [40] = .tup [.str n, .str t, .bool true] := by
      unfold cutAt
      rw [q1, hix, if_pos (by omega), Int.toNat_natCast]
      simp [List.drop_append]
    rw [hcc] at hc1
    have hrl : n.length + 1 + t.length = r.length := by rw [q1]; simp; omega
    obtain ⟨y, s2, a1, a2, a3⟩ := WriteString_spec2 (m := n) hb (by simp only [room]; omega)
    obtain ⟨k1, k2⟩ := hk.step a2 (Nat.le_refl _) hm
    have hz2 : acc ++ n = [] → y = .nils := fun h => by
      obtain ⟨h1, h2⟩ := List.append_eq_nil_iff.1 h
      exact a3 (hz h1) h2
    have hc2 := hcut t 41 (by omega)
    rcases chr_split 41 t with ⟨p1, p2⟩ | ⟨p, u, p1, p2⟩
    · have hcc2 : cutAt t [41] = .tup [.str t, .str [], .bool false] := by unfold cutAt; rw [p2, if_neg (by decide)]
      rw [hcc2] at hc2
      rw [q1, bare_open q2 p2] at hTT
      obtain ⟨s3, b1, k3⟩ := k1.string (BString_spec (a2.bu hb.lt) hz2 (by simp only [room, List.length_append]; omega)) k2
      have had : binPV .add .no (.str (acc ++ n)) (.str [40]) = some (.str (acc ++ n ++ [40])) := adds (by simp; omega)
      simp (maxSteps := 1000000) (disch := omega) only [h0, h3, hc1, a1, hc2, b1, had, qaaz, qabz, qacz, qadz, qaez, qafz, qagz, qahz, qaiz, qajz, qakz, qalz, qamz, qanz, evOp, qaoz, qapz, qaqz, qarz, qasz, qatz, qauz, qavz,
 ↓reduceIte, Nat.reduceEqDiff, List.nil_append, List.cons_append, List.append_nil, List.map_cons, List.map_nil, qawz, qaxz, qayz, Option.map_some, Option.map_none, qazz, qbaz, qbbz, qbcz, qbdz, qbez, qbfz, qbgz, qbhz, qbiz, qbjz, qbkz, qblz, qbmz, qbnz, qboz,
 qbpz, qbqz, qbrz, qbsz, qbtz, qbuz, qbvz, qbwz, qbxz, qbyz, qbzz, qcaz, qcbz, qccz, qcdz, qcez, qcfz, qcgz, qchz, qciz, beq_true, beq_false, Bool.not_eq_true', decide_eq_true_eq, decide_eq_false_iff_not, decide_true, decide_false,
 Int.toNat_natCast, Int.ofNat_lt, Int.ofNat_le, Int.natCast_inj, Bool.false_eq_true, Bool.true_eq_false, qcjz, List.getElem?_cons_zero, List.getElem?_cons_succ, qckz, Int.reduceToNat, Int.reduceLE, true_and, and_true, reduceCtorEq, or_false, false_or, or_true, Option.some.injEq, exists_eq_left', Bool.not_true, Bool.not_false, ne_eq, Int.reduceEq, not_true_eq_false, not_false_eq_true, Int.reduceLT, UInt8.reduceLT, UInt8.reduceLE, UInt8.reduceToNat]
      rw [hQ0, qblz, hTT]
      exact retS rfl k3 (by simp)
    · have hix2 := index_chr (k := 41) p u p2
      have hcc2 : cutAt t [41] = .tup [.str p, .str u, .bool true] := by
        unfold cutAt
        rw [p1, hix2, if_pos (by omega), Int.toNat_natCast]
        simp [List.drop_append]
      rw [hcc2] at hc2
      have htl : p.length + 1 + u.length = t.length := by rw [p1]; simp; omega
      rw [q1, p1, bare_shut q2 p2] at hTT
      obtain ⟨z, s3, b1, b2⟩ := WriteByte_spec (c := 32) (a2.bu hb.lt) (by simp only [room, List.length_append]; omega)
      obtain ⟨k3, k4⟩ := k1.step b2 (Nat.le_refl _) k2
      have hlt2 : st.boxes.length < s2.boxes.length := by rw [a2.bx]; simpa using hb.lt
      simp (maxSteps := 1000000) (disch := omega) only [h0, h3, hc1, a1, hc2, b1, loopQ_normal, qaaz, qabz, qacz, qadz, qaez, qafz, qagz, qahz, qaiz, qajz, qakz, qalz, qamz, qanz, evOp, qaoz, qapz, qaqz, qarz, qasz, qatz, qauz, qavz,
 ↓reduceIte, Nat.reduceEqDiff, List.nil_append, List.cons_append, List.append_nil, List.map_cons, List.map_nil, qawz, qaxz, qayz, Option.map_some, Option.map_none, qazz, qbaz, qbbz, qbcz, qbdz, qbez, qbfz, qbgz, qbhz, qbiz, qbjz, qbkz, qblz, qbmz, qbnz, qboz,
 qbpz, qbqz, qbrz, qbsz, qbtz, qbuz, qbvz, qbwz, qbxz, qbyz, qbzz, qcaz, qcbz, qccz, qcdz, qcez, qcfz, qcgz, qchz, qciz, beq_true, beq_false, Bool.not_eq_true', decide_eq_true_eq, decide_eq_false_iff_not, decide_true, decide_false,
 Int.toNat_natCast, Int.ofNat_lt, Int.ofNat_le, Int.natCast_inj, Bool.false_eq_true, Bool.true_eq_false, qcjz, List.getElem?_cons_zero, List.getElem?_cons_succ, qckz, Int.reduceToNat, Int.reduceLE, true_and, and_true, reduceCtorEq, or_false, false_or, or_true, Option.some.injEq, exists_eq_left', Bool.not_true, Bool.not_false, ne_eq, Int.reduceEq, not_true_eq_false, not_false_eq_true, Int.reduceLT, UInt8.reduceLT, UInt8.reduceLE, UInt8.reduceToNat]
      refine ⟨u.length, by omega, ?_⟩
      rw [hI]
      refine ⟨u, acc ++ n ++ [32], z, r.length + j - u.length - 1, rfl, k3, b2.bu hlt2, k4, fun h => by simp at h, by simp; omega, ?_, rfl, h3⟩
      rw [hTT]
      have : (n ++ 40 :: (p ++ 41 :: u)).length + j = u.length + (r.length + j - u.length - 1) + 1 := by simp; omega
      rw [this]; simp
end Go.Ab

/-
  Dates are read: words, plain.
-/
namespace Go.Ab
set_option linter.unusedVariables false
set_option linter.unusedSimpArgs false
set_option maxRecDepth 20000

/-- A text's words. -/
def wordsG : Bs → Bs → List Bs
  | [], acc => if acc = [] then [] else [acc]
  | c :: r, acc => if c = 32 ∨ c = 9 then (if acc = [] then wordsG r [] else acc :: wordsG r []) else wordsG r (acc ++ [c])
def noBl (w : Bs) : Prop := ∀ c ∈ w, c ≠ 32 ∧ c ≠ 9

theorem words_bl {r acc : Bs} {c : UInt8} (hc : c = 32 ∨ c = 9) (ha : acc ≠ []) : wordsG (c :: r) acc = acc :: wordsG r [] := by
  rw [wordsG, if_pos hc, if_neg ha]
theorem words_bl0 {r : Bs} {c : UInt8} (hc : c = 32 ∨ c = 9) : wordsG (c :: r) [] = wordsG r [] := by
  rw [wordsG, if_pos hc, if_pos rfl]
theorem words_end {acc : Bs} (ha : acc ≠ []) : wordsG [] acc = [acc] := by rw [wordsG, if_neg ha]
end Go.Ab

/-
  Dates are read: the iterator over words.
-/
namespace Go.Ab
set_option linter.unusedVariables false
set_option linter.unusedSimpArgs false
set_option maxRecDepth 20000
variable {st s : St} {e : Env}

theorem words_spec {l : Bs} : call prog (.fn 285 []) [.str l] st = some (.fn 310 [.ptr st.boxes.length 0], { boxes := st.boxes ++ [[.str l]], toks := st.toks, loops := st.loops, low := min st.low st.boxes.length }) := by
  refine call_of_W prog_285 ?_
  unfold F_date_words; dsimp only
  have h1 : (PV.str l).inB st.boxes.length = true := rfl
  have h2 : (PV.str l).cells = [.str l] := rfl
  have h3 : leafOk (.str l) = true := rfl
  simp (maxSteps := 1000000) (disch := omega) only [h1, h2, h3, and_self, allocPV, capOk, List.all_cons, List.all_nil, Bool.and_true, qaaz, qabz, qacz, qadz, qaez, qafz, qagz, qahz, qaiz, qajz, qakz, qalz, qamz, qanz, evOp, qaoz, qapz, qaqz, qarz, qasz, qatz, qauz, qavz,
 ↓reduceIte, Nat.reduceEqDiff, List.nil_append, List.cons_append, List.append_nil, List.map_cons, List.map_nil, qawz, qaxz, qayz, Option.map_some, Option.map_none, qazz, qbaz, qbbz, qbcz, qbdz, qbez, qbfz, qbgz, qbhz, qbiz, qbjz, qbkz, qblz, qbmz, qbnz, qboz,
 qbpz, qbqz, qbrz, qbsz, qbtz, qbuz, qbvz, qbwz, qbxz, qbyz, qbzz, qcaz, qcbz, qccz, qcdz, qcez, qcfz, qcgz, qchz, qciz, beq_true, beq_false, Bool.not_eq_true', decide_eq_true_eq, decide_eq_false_iff_not, decide_true, decide_false,
 Int.toNat_natCast, Int.ofNat_lt, Int.ofNat_le, Int.natCast_inj, Bool.false_eq_true, Bool.true_eq_false, qcjz, List.getElem?_cons_zero, List.getElem?_cons_succ, qckz, Int.reduceToNat, Int.reduceLE, true_and, and_true, reduceCtorEq, or_false, false_or, or_true, Option.some.injEq, exists_eq_left', Bool.not_true, Bool.not_false, ne_eq, Int.reduceEq, not_true_eq_false, not_false_eq_true, Int.reduceLT, UInt8.reduceLT, UInt8.reduceLE, UInt8.reduceToNat]
  exact ⟨.fn 310 [.ptr st.boxes.length 0], rfl, by simp [leave, PV.inB, PV.inB.inBAll]⟩

set_option maxHeartbeats 2000000 in
theorem words_iter {l : Bs} (hl : l.length ≤ 1000000) {b k : Nat} {P : List Bs → St → Prop} {D : St → Prop}
    (hbox : ∀ r s, P r s → s.boxes[b]? = some [.str l])
    (hY : ∀ w r s, P (w :: r) s → ∃ s', call prog (.yld k) [.str w] s = some (.bool true, s') ∧ P r s')
    (hD : ∀ s, P [] s → D s)
    (h0 : P (wordsG l []) { st with low := st.boxes.length }) : ∃ s1, D s1 ∧ call prog (.fn 310 [.ptr b 0]) [.yld k] st = some (leave st s1 (.tup [])) := by
  have key : W prog F_date_words_c1.body (env0 ([.yld k] ++ [.ptr b 0])) { st with low := st.boxes.length } (fun xx e1 s1 => (xx = .normal ∨ xx = .ret) ∧ D s1) := by
    obtain ⟨QQ, hQQ⟩ : ∃ QQ : Ex → Env → St → Prop, QQ = fun xx e1 s1 => (xx = .normal ∨ xx = .ret) ∧ D s1 := ⟨_, rfl⟩
    rw [← hQQ]
    unfold F_date_words_c1; dsimp only
    have hb0 := hbox _ _ h0
    have hld0 : loadPV { st with low := st.boxes.length } false 1 (.ptr b 0) = some (.str l) := by
      simp only at hb0
      simp [loadPV, hb0, readCells]
    simp (maxSteps := 1000000) (disch := omega) only [hld0, len_s, qaaz, qabz, qacz, qadz, qaez, qafz, qagz, qahz, qaiz, qajz, qakz, qalz, qamz, qanz, evOp, qaoz, qapz, qaqz, qarz, qasz, qatz, qauz, qavz,
 ↓reduceIte, Nat.reduceEqDiff, List.nil_append, List.cons_append, List.append_nil, List.map_cons, List.map_nil, qawz, qaxz, qayz, Option.map_some, Option.map_none, qazz, qbaz, qbbz, qbcz, qbdz, qbez, qbfz, qbgz, qbhz, qbiz, qbjz, qbkz, qblz, qbmz, qbnz, qboz,
 qbpz, qbqz, qbrz, qbsz, qbtz, qbuz, qbvz, qbwz, qbxz, qbyz, qbzz, qcaz, qcbz, qccz, qcdz, qcez, qcfz, qcgz, qchz, qciz, beq_true, beq_false, Bool.not_eq_true', decide_eq_true_eq, decide_eq_false_iff_not, decide_true, decide_false,
 Int.toNat_natCast, Int.ofNat_lt, Int.ofNat_le, Int.natCast_inj, Bool.false_eq_true, Bool.true_eq_false, qcjz, List.getElem?_cons_zero, List.getElem?_cons_succ, qckz, Int.reduceToNat, Int.reduceLE, true_and, and_true, reduceCtorEq, or_false, false_or, or_true, Option.some.injEq, exists_eq_left', Bool.not_true, Bool.not_false, ne_eq, Int.reduceEq, not_true_eq_false, not_false_eq_true, Int.reduceLT, UInt8.reduceLT, UInt8.reduceLE, UInt8.reduceToNat]
    obtain ⟨I, hI⟩ : ∃ I : Nat → Env → St → Prop, I = fun n E s => ∃ (i : Nat) (now : Bs), n = l.length - i ∧ i ≤ l.length ∧ now.length ≤ i ∧ P (wordsG (l.drop i) now) s ∧ E 0 = .yld k ∧ E 1 = .ptr b 0 ∧ E 3 = .str now ∧ E 6 = .int .i64 (l.length : Int) ∧ E 7 = .int .i64 (i : Int) := ⟨_, rfl⟩
    refine W_loop I ?_ (n := l.length) (by rw [hI]; exact ⟨0, [], rfl, by omega, by simp, h0, rfl, rfl, rfl, rfl, rfl⟩)
    intro n E s h
    rw [hI] at h
    obtain ⟨i, now, rfl, hi, hno, hP, e0, e1, e3, e6, e7⟩ := h
    have hb := hbox _ _ hP
    have hld : loadPV s false 1 (.ptr b 0) = some (.str l) := by simp [loadPV, hb, readCells]
    by_cases hlt : i < l.length
    · obtain ⟨c, hc⟩ : ∃ c, c = l.getD i 0 := ⟨_, rfl⟩
      have hd : l.drop i = c :: l.drop (i + 1) := by rw [List.drop_eq_getElem_cons hlt, hc]; simp [List.getD, hlt]
      have next : ∀ (now' : Bs) (s' : St), now'.length ≤ i + 1 → P (wordsG (l.drop (i + 1)) now') s' → ∀ E : Env, E 0 = .yld k → E 1 = .ptr b 0 → E 3 = .str now' → E 6 = .int .i64 (l.length : Int) → E 7 = .int .i64 ((i + 1 : Nat) : Int) → ∃ m, m < l.length - i ∧ I m E s' := fun now' s' q1 q2 E k0 k1 k3 k6 k7 =>
        ⟨l.length - (i + 1), by omega, by rw [hI]; exact ⟨i + 1, now', rfl, by omega, q1, q2, k0, k1, k3, k6, k7⟩⟩
      rw [hd] at hP
      by_cases hw : c = 32 ∨ c = 9
      · by_cases hn : now = []
        · subst hn
          rw [words_bl0 hw] at hP
          by_cases c1 : c = 32
          · simp (maxSteps := 1000000) (disch := omega) only [e0, e1, e3, e6, e7, hlt, hld, idx_s, ← hc, eq_true c1, add_n, loopQ_normal, qaaz, qabz, qacz, qadz, qaez, qafz, qagz, qahz, qaiz, qajz, qakz, qalz, qamz, qanz, evOp, qaoz, qapz, qaqz, qarz, qasz, qatz, qauz, qavz,
 ↓reduceIte, Nat.reduceEqDiff, List.nil_append, List.cons_append, List.append_nil, List.map_cons, List.map_nil, qawz, qaxz, qayz, Option.map_some, Option.map_none, qazz, qbaz, qbbz, qbcz, qbdz, qbez, qbfz, qbgz, qbhz, qbiz, qbjz, qbkz, qblz, qbmz, qbnz, qboz,
 qbpz, qbqz, qbrz, qbsz, qbtz, qbuz, qbvz, qbwz, qbxz, qbyz, qbzz, qcaz, qcbz, qccz, qcdz, qcez, qcfz, qcgz, qchz, qciz, beq_true, beq_false, Bool.not_eq_true', decide_eq_true_eq, decide_eq_false_iff_not, decide_true, decide_false,
 Int.toNat_natCast, Int.ofNat_lt, Int.ofNat_le, Int.natCast_inj, Bool.false_eq_true, Bool.true_eq_false, qcjz, List.getElem?_cons_zero, List.getElem?_cons_succ, qckz, Int.reduceToNat, Int.reduceLE, true_and, and_true, reduceCtorEq, or_false, false_or, or_true, Option.some.injEq, exists_eq_left', Bool.not_true, Bool.not_false, ne_eq, Int.reduceEq, not_true_eq_false, not_false_eq_true, Int.reduceLT, UInt8.reduceLT, UInt8.reduceLE, UInt8.reduceToNat]
            exact next [] s (by simp) hP _ e0 e1 rfl e6 rfl
          · have c2 : c = 9 := hw.resolve_left c1
            simp (maxSteps := 1000000) (disch := omega) only [e0, e1, e3, e6, e7, hlt, hld, idx_s, ← hc, c1, eq_true c2, add_n, loopQ_normal, qaaz, qabz, qacz, qadz, qaez, qafz, qagz, qahz, qaiz, qajz, qakz, qalz, qamz, qanz, evOp, qaoz, qapz, qaqz, qarz, qasz, qatz, qauz, qavz,
 ↓reduceIte, Nat.reduceEqDiff, List.nil_append, List.cons_append, List.append_nil, List.map_cons, List.map_nil, qawz, qaxz, qayz, Option.map_some, Option.map_none, qazz, qbaz, qbbz, qbcz, qbdz, qbez, qbfz, qbgz, qbhz, qbiz, qbjz, qbkz, qblz, qbmz, qbnz, qboz,
 qbpz, qbqz, qbrz, qbsz, qbtz, qbuz, qbvz, qbwz, qbxz, qbyz, qbzz, qcaz, qcbz, qccz, qcdz, qcez, qcfz, qcgz, qchz, qciz, beq_true, beq_false, Bool.not_eq_true', decide_eq_true_eq, decide_eq_false_iff_not, decide_true, decide_false,
 Int.toNat_natCast, Int.ofNat_lt, Int.ofNat_le, Int.natCast_inj, Bool.false_eq_true, Bool.true_eq_false, qcjz, List.getElem?_cons_zero, List.getElem?_cons_succ, qckz, Int.reduceToNat, Int.reduceLE, true_and, and_true, reduceCtorEq, or_false, false_or, or_true, Option.some.injEq, exists_eq_left', Bool.not_true, Bool.not_false, ne_eq, Int.reduceEq, not_true_eq_false, not_false_eq_true, Int.reduceLT, UInt8.reduceLT, UInt8.reduceLE, UInt8.reduceToNat]
            exact next [] s (by simp) hP _ e0 e1 rfl e6 rfl
        · rw [words_bl hw hn] at hP
          obtain ⟨s', y1, y2⟩ := hY _ _ _ hP
          by_cases c1 : c = 32
          · simp (maxSteps := 1000000) (disch := omega) only [e0, e1, e3, e6, e7, hlt, hld, idx_s, ← hc, eq_true c1, hn, y1, add_n, loopQ_normal, qaaz, qabz, qacz, qadz, qaez, qafz, qagz, qahz, qaiz, qajz, qakz, qalz, qamz, qanz, evOp, qaoz, qapz, qaqz, qarz, qasz, qatz, qauz, qavz,
 ↓reduceIte, Nat.reduceEqDiff, List.nil_append, List.cons_append, List.append_nil, List.map_cons, List.map_nil, qawz, qaxz, qayz, Option.map_some, Option.map_none, qazz, qbaz, qbbz, qbcz, qbdz, qbez, qbfz, qbgz, qbhz, qbiz, qbjz, qbkz, qblz, qbmz, qbnz, qboz,
 qbpz, qbqz, qbrz, qbsz, qbtz, qbuz, qbvz, qbwz, qbxz, qbyz, qbzz, qcaz, qcbz, qccz, qcdz, qcez, qcfz, qcgz, qchz, qciz, beq_true, beq_false, Bool.not_eq_true', decide_eq_true_eq, decide_eq_false_iff_not, decide_true, decide_false,
 Int.toNat_natCast, Int.ofNat_lt, Int.ofNat_le, Int.natCast_inj, Bool.false_eq_true, Bool.true_eq_false, qcjz, List.getElem?_cons_zero, List.getElem?_cons_succ, qckz, Int.reduceToNat, Int.reduceLE, true_and, and_true, reduceCtorEq, or_false, false_or, or_true, Option.some.injEq, exists_eq_left', Bool.not_true, Bool.not_false, ne_eq, Int.reduceEq, not_true_eq_false, not_false_eq_true, Int.reduceLT, UInt8.reduceLT, UInt8.reduceLE, UInt8.reduceToNat]
            exact next [] s' (by simp) y2 _ e0 e1 rfl e6 rfl
          · have c2 : c = 9 := hw.resolve_left c1
            simp (maxSteps := 1000000) (disch := omega) only [e0, e1, e3, e6, e7, hlt, hld, idx_s, ← hc, c1, eq_true c2, hn, y1, add_n, loopQ_normal, qaaz, qabz, qacz, qadz, qaez, qafz, qagz, qahz, qaiz, qajz, qakz, qalz, qamz, qanz, evOp, qaoz, qapz, qaqz, qarz, qasz, qatz, qauz, qavz,
 ↓reduceIte, Nat.reduceEqDiff, List.nil_append, List.cons_append, List.append_nil, List.map_cons, List.map_nil, qawz, qaxz, qayz, Option.map_some, Option.map_none, qazz, qbaz, qbbz, qbcz, qbdz, qbez, qbfz, qbgz, qbhz, qbiz, qbjz, qbkz, qblz, qbmz, qbnz, qboz,
 qbpz, qbqz, qbrz, qbsz, qbtz, qbuz, qbvz, qbwz, qbxz, qbyz, qbzz, qcaz, qcbz, qccz, qcdz, qcez, qcfz, qcgz, qchz, qciz, beq_true, beq_false, Bool.not_eq_true', decide_eq_true_eq, decide_eq_false_iff_not, decide_true, decide_false,
 Int.toNat_natCast, Int.ofNat_lt, Int.ofNat_le, Int.natCast_inj, Bool.false_eq_true, Bool.true_eq_false, qcjz, List.getElem?_cons_zero, List.getElem?_cons_succ, qckz, Int.reduceToNat, Int.reduceLE, true_and, and_true, reduceCtorEq, or_false, false_or, or_true, Option.some.injEq, exists_eq_left', Bool.not_true, Bool.not_false, ne_eq, Int.reduceEq, not_true_eq_false, not_false_eq_true, Int.reduceLT, UInt8.reduceLT, UInt8.reduceLE, UInt8.reduceToNat]
            exact next [] s' (by simp) y2 _ e0 e1 rfl e6 rfl
      · have n1 : ¬ c = 32 := fun h => hw (.inl h)
        have n2 : ¬ c = 9 := fun h => hw (.inr h)
        rw [wordsG, if_neg hw] at hP
        have hs : slcPV 0 (.str l) (some (.int .i64 (i : Int))) (some (.int .i64 ((i + 1 : Nat) : Int))) none = some (.str [c]) := by
          rw [slc_s (by omega) (by omega) (by omega), Int.toNat_natCast, Int.toNat_natCast, hc]
          congr 2
          rw [List.take_add_one, List.drop_append_of_le_length (by simp; omega), List.drop_of_length_le (by simp; omega)]
          simp [List.getD, hlt]
        have ha : binPV .add .no (.str now) (.str [c]) = some (.str (now ++ [c])) := adds (by simp; omega)
        simp (maxSteps := 1000000) (disch := omega) only [e0, e1, e3, e6, e7, hlt, hld, idx_s, ← hc, n1, n2, hs, ha, add_n, loopQ_normal, qaaz, qabz, qacz, qadz, qaez, qafz, qagz, qahz, qaiz, qajz, qakz, qalz, qamz, qanz, evOp, qaoz, qapz, qaqz, qarz, qasz, qatz, qauz, qavz,
 ↓reduceIte, Nat.reduceEqDiff, List.nil_append, List.cons_append, List.append_nil, List.map_cons, List.map_nil, qawz, qaxz, qayz, Option.map_some, Option.map_none, qazz, qbaz, qbbz, qbcz, qbdz, qbez, qbfz, qbgz, qbhz, qbiz, qbjz, qbkz, qblz, qbmz, qbnz, qboz,
 qbpz, qbqz, qbrz, qbsz, qbtz, qbuz, qbvz, qbwz, qbxz, qbyz, qbzz, qcaz, qcbz, qccz, qcdz, qcez, qcfz, qcgz, qchz, qciz, beq_true, beq_false, Bool.not_eq_true', decide_eq_true_eq, decide_eq_false_iff_not, decide_true, decide_false,
 Int.toNat_natCast, Int.ofNat_lt, Int.ofNat_le, Int.natCast_inj, Bool.false_eq_true, Bool.true_eq_false, qcjz, List.getElem?_cons_zero, List.getElem?_cons_succ, qckz, Int.reduceToNat, Int.reduceLE, true_and, and_true, reduceCtorEq, or_false, false_or, or_true, Option.some.injEq, exists_eq_left', Bool.not_true, Bool.not_false, ne_eq, Int.reduceEq, not_true_eq_false, not_false_eq_true, Int.reduceLT, UInt8.reduceLT, UInt8.reduceLE, UInt8.reduceToNat]
        exact next (now ++ [c]) s (by simp; omega) hP _ e0 e1 rfl e6 rfl
    · obtain rfl : i = l.length := by omega
      rw [List.drop_length] at hP
      by_cases hn : now = []
      · subst hn
        have hP0 : P [] s := by simpa [wordsG] using hP
        simp (maxSteps := 1000000) (disch := omega) only [e0, e1, e3, e6, e7, hlt, qaaz, qabz, qacz, qadz, qaez, qafz, qagz, qahz, qaiz, qajz, qakz, qalz, qamz, qanz, evOp, qaoz, qapz, qaqz, qarz, qasz, qatz, qauz, qavz,
 ↓reduceIte, Nat.reduceEqDiff, List.nil_append, List.cons_append, List.append_nil, List.map_cons, List.map_nil, qawz, qaxz, qayz, Option.map_some, Option.map_none, qazz, qbaz, qbbz, qbcz, qbdz, qbez, qbfz, qbgz, qbhz, qbiz, qbjz, qbkz, qblz, qbmz, qbnz, qboz,
 qbpz, qbqz, qbrz, qbsz, qbtz, qbuz, qbvz, qbwz, qbxz, qbyz, qbzz, qcaz, qcbz, qccz, qcdz, qcez, qcfz, qcgz, qchz, qciz, beq_true, beq_false, Bool.not_eq_true', decide_eq_true_eq, decide_eq_false_iff_not, decide_true, decide_false,
 Int.toNat_natCast, Int.ofNat_lt, Int.ofNat_le, Int.natCast_inj, Bool.false_eq_true, Bool.true_eq_false, qcjz, List.getElem?_cons_zero, List.getElem?_cons_succ, qckz, Int.reduceToNat, Int.reduceLE, true_and, and_true, reduceCtorEq, or_false, false_or, or_true, Option.some.injEq, exists_eq_left', Bool.not_true, Bool.not_false, ne_eq, Int.reduceEq, not_true_eq_false, not_false_eq_true, Int.reduceLT, UInt8.reduceLT, UInt8.reduceLE, UInt8.reduceToNat]
        rw [hQQ]; exact ⟨.inl rfl, hD _ hP0⟩
      · rw [words_end hn] at hP
        obtain ⟨s', y1, y2⟩ := hY _ _ _ hP
        simp (maxSteps := 1000000) (disch := omega) only [e0, e1, e3, e6, e7, hlt, hn, y1, qaaz, qabz, qacz, qadz, qaez, qafz, qagz, qahz, qaiz, qajz, qakz, qalz, qamz, qanz, evOp, qaoz, qapz, qaqz, qarz, qasz, qatz, qauz, qavz,
 ↓reduceIte, Nat.reduceEqDiff, List.nil_append, List.cons_append, List.append_nil, List.map_cons, List.map_nil, qawz, qaxz, qayz, Option.map_some, Option.map_none, qazz, qbaz, qbbz, qbcz, qbdz, qbez, qbfz, qbgz, qbhz, qbiz, qbjz, qbkz, qblz, qbmz, qbnz, qboz,
 qbpz, qbqz, qbrz, qbsz, qbtz, qbuz, qbvz, qbwz, qbxz, qbyz, qbzz, qcaz, qcbz, qccz, qcdz, qcez, qcfz, qcgz, qchz, qciz, beq_true, beq_false, Bool.not_eq_true', decide_eq_true_eq, decide_eq_false_iff_not, decide_true, decide_false,
 Int.toNat_natCast, Int.ofNat_lt, Int.ofNat_le, Int.natCast_inj, Bool.false_eq_true, Bool.true_eq_false, qcjz, List.getElem?_cons_zero, List.getElem?_cons_succ, qckz, Int.reduceToNat, Int.reduceLE, true_and, and_true, reduceCtorEq, or_false, false_or, or_true, Option.some.injEq, exists_eq_left', Bool.not_true, Bool.not_false, ne_eq, Int.reduceEq, not_true_eq_false, not_false_eq_true, Int.reduceLT, UInt8.reduceLT, UInt8.reduceLE, UInt8.reduceToNat]
        rw [hQQ]; exact ⟨.inl rfl, hD _ y2⟩
  obtain ⟨⟨xx, e1, s1⟩, h1, h2, h3⟩ := key
  refine ⟨s1, h3, ?_⟩
  rw [call_fn prog_310, h1]
  have hr : resOf e1 s1 F_date_words_c1.results = some (.tup []) := rfl
  rcases h2 with rfl | rfl <;> simp [finish, hr]
end Go.Ab

/-
  Dates are read: a day's name ahead of the words, plain; a written date's words.
-/
namespace Go.Ab
set_option linter.unusedVariables false
set_option linter.unusedSimpArgs false
set_option maxRecDepth 20000

def wdGo (first rest : Bs) (r : List Bs) : Int × List Bs := if nmD first 7 dayT < 0 then (-2, []) else (nmD first 7 dayT, if rest = [] then r else rest :: r)
/-- A day's name taken off words; -1: there is none; -2: it is wrong. -/
def wdD : List Bs → Int × List Bs
  | [] => (-2, [])
  | w :: r =>
    if 0 ≤ Lib.index w [44] then wdGo (w.take (Lib.index w [44]).toNat) (w.drop ((Lib.index w [44]).toNat + 1)) r
    else match r with
      | v :: r' => if v.head? = some 44 then wdGo w (v.drop 1) r' else (-1, w :: r)
      | [] => (-1, w :: r)

end Go.Ab

/-
  Dates are read: a written date is read as it was, plain.
-/
namespace Go.Ab
set_option linter.unusedVariables false
set_option linter.unusedSimpArgs false
set_option maxRecDepth 20000

/-- What is found out of a date's parts. -/
def finD (wd : Int) (n : Int × Int) (c : Int) (z : Int × Bool) : Int × Int × Int :=
  if n.2 ≠ 0 ∨ c < 0 ∨ z.2 = false ∨ ¬ (0 ≤ n.1 * 86400 + c - z.1 ∧ n.1 * 86400 + c - z.1 ≤ 253402300799) then (0, 0, 110)
  else if 0 ≤ wd ∧ wd ≠ (wkOf n.1).1 then (0, 0, 110) else (n.1 * 86400 + c - z.1, z.1, 0)
def lstD (wd : Int) (l : List Bs) : Int × Int × Int :=
  if wd = -2 ∨ l.length < 4 ∨ 5 < l.length then (0, 0, 110)
  else finD wd (daysD (yrD (l.getD 2 [])) (nmD (l.getD 1 []) 13 monT) (digD (l.getD 0 []) 1 2)) (clkD (l.getD 3 [])) (zoneD (l.getD 4 []))
/-- A date: time, shift, what is wrong. -/
def parseD (s : Bs) : Int × Int × Int := lstD (wdD (wordsG (bareT s) [])).1 (wdD (wordsG (bareT s) [])).2

/-- No blanks, no brackets. -/
def clW (w : Bs) : Prop := ∀ c ∈ w, c ≠ 32 ∧ c ≠ 9 ∧ c ≠ 40
theorem clW.app {a b : Bs} (h : clW a) (k : clW b) : clW (a ++ b) := fun c hc => by
  rcases List.mem_append.1 hc with h1 | h1
  · exact h c h1
  · exact k c h1
theorem clW.bl {a : Bs} (h : clW a) : noBl a := fun c hc => ⟨(h c hc).1, (h c hc).2.1⟩
end Go.Ab

/-
  Rows of one's own in a state that keeps what the caller has.
-/
namespace Go.Ab
set_option linter.unusedVariables false
set_option linter.unusedSimpArgs false
variable {st s : St} {e : Env}

/-! ### Rows of one's own in a state that keeps what the caller has -/
theorem Kept.appV {esz : Nat} {v u w : PV} {xs : List PV} (hk : Kept st s) (h : Own st s esz v xs) (hl : xs.length + 1 ≤ room) :
    ∃ v' s', Ab.appV esz s.tok1 v (.sl esz (.own s.toks.length) [u]) = some (v', s') ∧ Kept st s' ∧ Own st s' esz v' (xs ++ [u]) ∧ s'.boxes = s.boxes := by
  have hk1 := hk.tok1
  have hg : GrewAt s.tok1.boxes st.toks s.tok1.loops s.tok1.low s.tok1 := ⟨rfl, rfl, rfl, hk1.tk⟩
  have h1 := h.tok1
  obtain ⟨g2, o2⟩ := Own.app (ys := xs ++ [u]) hg h1
  refine ⟨_, _, appV_own h1 hl, ⟨?_, ?_, ?_, g2.tk⟩, o2, g2.bx⟩
  · rw [g2.bx]; exact hk1.bx
  · rw [g2.lp]; exact hk1.lp
  · rw [g2.lw]; exact hk1.lw
theorem Kept.leaveOwn1 {esz : Nat} {v : PV} {xs : List PV} (hk : Kept st s) (h : Own st s esz v xs) (hne : xs = [] → v = .nils) : Ab.leave st s v = (newSl st esz xs, newS st xs.isEmpty) := by
  have e1 := hk.bx; have e2 := hk.lp; have e3 := hk.tk
  rcases h with ⟨rfl, rfl⟩ | ⟨i, rfl, h2, h3⟩
  · simp [Ab.leave, PV.inB, hk.lw, keepRes, keepVal, keepLeaf, newSl, newS, e1, e2, e3]
  · by_cases hx : xs = []
    · have := hne hx; cases this
    · simp [Ab.leave, PV.inB, hk.lw, keepRes, keepVal, keepLeaf, keepTok, newSl, newS, hx, h3, show ¬ i < st.toks.length by omega, e1, e2, e3, St.tok1]
theorem own_nt {esz : Nat} {v : PV} {xs : List PV} (h : Own st s esz v xs) : notTup v = true := by rcases h with ⟨rfl, _⟩ | ⟨i, rfl, _⟩ <;> rfl
theorem lit_s {x : Bs} : litFill 1 (List.replicate 1 (.str [])) [(0, .str x)] = some [.str x] := rfl
end Go.Ab
