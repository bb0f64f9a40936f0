/-
  Check and Sender walked, and the document's Right, Check and Sender.
-/
import Derived.Test.YtomocanaidhnlaaDoorA4
import Derived.Test.YtomocanaidhnlaaDoorA3
import Derived.Shelf.Bytes.SlIndexWhole
import Derived.Shelf.Bytes.IndexByte
import Derived.Shelf.Strings.Builder1
import Derived.Shelf.Strings.Search2
import Derived.Shelf.Small.Strs
import Derived.Shelf.Strings.Split
import Derived.HandedShaped
import Derived.LaidLaws
import Derived.Lay
set_option linter.unusedVariables false
set_option linter.unusedSimpArgs false
namespace Go.Ab
set_option maxRecDepth 20000
variable {st s : St} {e : Env} {m : MD} {av u : PV}

theorem needs_p {l : Bs} : callpV (call prog) (.fn 193 []) [.str l] = some (.agg (ndV (needOf l))) := callp_of rfl rfl rfl needs_spec
theorem nd_agg {n : Nd} : PV.agg (ndV n) = .agg [.int .i64 n.lo, .int .i64 n.hi, .bool n.re, .bool n.st, .bool n.ti] := rfl
set_option maxHeartbeats 8000000 in
theorem Check_spec (hv : av.vs 2 = some (m.att.map pV)) (ok : okMD m) : call prog (.fn 178 []) [mV m av] st = some (.int .i64 (checkM m), st) := by
  refine call_of_W prog_178 ?_
  unfold F_rules_Check; dsimp only
  generalize hQ1 : endQ st _ _ = Q0
  have fin : ∀ (b : Int) (E : Env) (S : St), Kept st S → checkM m = b → E 2 = .int .i64 b → Q0 .ret E S := fun b E S k h h4 => by
    rw [← hQ1, qblz]; exact retI h4 k h.symm
  obtain ⟨u, hu, hu2, -⟩ := strip_m (m := m) hv
  have hlen := len_vs hu2
  rw [List.length_map] at hlen
  obtain ⟨n, hn⟩ : ∃ n, n = needOf m.me := ⟨_, rfl⟩
  have hN := needs_p (l := m.me)
  rw [← hn, nd_agg] at hN
  have hnr : m.me = sREP → n = ⟨1, 1, false, false, false⟩ := fun q => by rw [hn, q]; rfl
  have hRt := fun S : St => mRight_spec (st := S) hu2 ok
  have hRo := fun S : St => roleOf_spec (st := S) (l := m.me)
  have hck : checkM m = if rightM m = false then 120 else if roleOf m.me = 0 then 130 else if m.org = [] ∨ (m.att.length : Int) < n.lo then 131 else if n.hi < (m.att.length : Int) then 132 else if partB m = true then 3 else if (n.re = true ∧ m.recur < 0) ∨ (n.st = true ∧ m.sta < 0) then 131 else if n.ti = true ∧ 0 ≤ m.sta then 132 else 0 := by rw [hn]; rfl
  clear hn
  obtain ⟨nl, nh, re, nst, ti⟩ := n
  simp only at hN hck hnr
  obtain ⟨B, hB⟩ : ∃ B, B = st.boxes := ⟨_, rfl⟩
  refine W_cut (fun E S => (S = ⟨B, st.toks, st.loops, B.length⟩) ∧ E 1 = .cp (mC m u)) ?_ ?_
  · simp (disch := rfl) only [hu, cells_m, ← hB, qaaz, qabz, qacz, qadz, qaez, qafz, qagz, qahz, qaiz, qajz, qakz, qalz, qamz, qanz, evOp, qaoz, qapz, qaqz, qarz, qasz, qatz, qauz, qavz,
 ↓reduceIte, Nat.reduceEqDiff, List.nil_append, List.cons_append, List.append_nil, List.map_cons, List.map_nil, qawz, qaxz, qayz, Option.map_some, Option.map_none, qazz, qbaz, qbbz, qbcz, qbdz, qbez, qbfz, qbgz, qbhz, qbiz, qbjz, qbkz, qblz, qbmz, qbnz, qboz,
 qbpz, qbqz, qbrz, qbsz, qbtz, qbuz, qbvz, qbwz, qbxz, qbyz, qbzz, qcaz, qcbz, qccz, qcdz, qcez, qcfz, qcgz, qchz, qciz, beq_true, beq_false, Bool.not_eq_true', decide_eq_true_eq, decide_eq_false_iff_not, decide_true, decide_false,
 Int.toNat_natCast, Int.ofNat_lt, Int.ofNat_le, Int.natCast_inj, Bool.false_eq_true, Bool.true_eq_false, qcjz, List.getElem?_cons_zero, List.getElem?_cons_succ, qckz, Int.reduceToNat, Int.reduceLE, true_and, and_true, reduceCtorEq, or_false, false_or, or_true, Option.some.injEq, exists_eq_left', Bool.not_true, Bool.not_false, ne_eq, Int.reduceEq, not_true_eq_false, not_false_eq_true, Int.reduceLT, UInt8.reduceLT, UInt8.reduceLE, UInt8.reduceToNat]
  rintro e S ⟨rfl, h1⟩
  refine W_cut (fun E S => (∃ T L lo, S = ⟨B ++ [[.int .i64 nl, .int .i64 nh, .bool re, .bool nst, .bool ti]], T, L, lo⟩ ∧ Kept st S) ∧ E 1 = .cp (mC m u) ∧ E 3 = .ptr B.length 0 ∧ E 4 = .int .i64 (m.att.length : Int)) ?_ ?_
  · simp (disch := rfl) only [h1, fam, lm0, lm1, lm2, lm3, lm4, lm5, lm6, lm7, lm8, lm9, lm10, hN, hlen, allocPV, st_nd, qaaz, qabz, qacz, qadz, qaez, qafz, qagz, qahz, qaiz, qajz, qakz, qalz, qamz, qanz, evOp, qaoz, qapz, qaqz, qarz, qasz, qatz, qauz, qavz,
 ↓reduceIte, Nat.reduceEqDiff, List.nil_append, List.cons_append, List.append_nil, List.map_cons, List.map_nil, qawz, qaxz, qayz, Option.map_some, Option.map_none, qazz, qbaz, qbbz, qbcz, qbdz, qbez, qbfz, qbgz, qbhz, qbiz, qbjz, qbkz, qblz, qbmz, qbnz, qboz,
 qbpz, qbqz, qbrz, qbsz, qbtz, qbuz, qbvz, qbwz, qbxz, qbyz, qbzz, qcaz, qcbz, qccz, qcdz, qcez, qcfz, qcgz, qchz, qciz, beq_true, beq_false, Bool.not_eq_true', decide_eq_true_eq, decide_eq_false_iff_not, decide_true, decide_false,
 Int.toNat_natCast, Int.ofNat_lt, Int.ofNat_le, Int.natCast_inj, Bool.false_eq_true, Bool.true_eq_false, qcjz, List.getElem?_cons_zero, List.getElem?_cons_succ, qckz, Int.reduceToNat, Int.reduceLE, true_and, and_true, reduceCtorEq, or_false, false_or, or_true, Option.some.injEq, exists_eq_left', Bool.not_true, Bool.not_false, ne_eq, Int.reduceEq, not_true_eq_false, not_false_eq_true, Int.reduceLT, UInt8.reduceLT, UInt8.reduceLE, UInt8.reduceToNat]
    refine ⟨_, _, _, rfl, ?_⟩
    have := Kept.box1 (st := st) (z := [.int .i64 nl, .int .i64 nh, .bool re, .bool nst, .bool ti])
    rw [← hB] at this; exact this
  clear h1
  rintro e S ⟨⟨T, L, lo, rfl, hk⟩, h1, h3, h4⟩
  cases c1 : rightM m with
  | false =>
    rw [c1] at hRt
    simp (maxSteps := 1000000) (disch := omega) only [h1, h3, h4, lmA, hRt, qaaz, qabz, qacz, qadz, qaez, qafz, qagz, qahz, qaiz, qajz, qakz, qalz, qamz, qanz, evOp, qaoz, qapz, qaqz, qarz, qasz, qatz, qauz, qavz,
 ↓reduceIte, Nat.reduceEqDiff, List.nil_append, List.cons_append, List.append_nil, List.map_cons, List.map_nil, qawz, qaxz, qayz, Option.map_some, Option.map_none, qazz, qbaz, qbbz, qbcz, qbdz, qbez, qbfz, qbgz, qbhz, qbiz, qbjz, qbkz, qblz, qbmz, qbnz, qboz,
 qbpz, qbqz, qbrz, qbsz, qbtz, qbuz, qbvz, qbwz, qbxz, qbyz, qbzz, qcaz, qcbz, qccz, qcdz, qcez, qcfz, qcgz, qchz, qciz, beq_true, beq_false, Bool.not_eq_true', decide_eq_true_eq, decide_eq_false_iff_not, decide_true, decide_false,
 Int.toNat_natCast, Int.ofNat_lt, Int.ofNat_le, Int.natCast_inj, Bool.false_eq_true, Bool.true_eq_false, qcjz, List.getElem?_cons_zero, List.getElem?_cons_succ, qckz, Int.reduceToNat, Int.reduceLE, true_and, and_true, reduceCtorEq, or_false, false_or, or_true, Option.some.injEq, exists_eq_left', Bool.not_true, Bool.not_false, ne_eq, Int.reduceEq, not_true_eq_false, not_false_eq_true, Int.reduceLT, UInt8.reduceLT, UInt8.reduceLE, UInt8.reduceToNat]
    exact fin 120 _ _ hk (by rw [hck, c1]; rfl) rfl
  | true =>
  rw [c1] at hRt
  rw [c1, if_neg (by simp)] at hck
  by_cases c2 : roleOf m.me = 0
  · simp (maxSteps := 1000000) (disch := omega) only [h1, h3, h4, lmA, hRt, fam, lm0, lm1, lm2, lm3, lm4, lm5, lm6, lm7, lm8, lm9, lm10, hRo, eq_true c2, qaaz, qabz, qacz, qadz, qaez, qafz, qagz, qahz, qaiz, qajz, qakz, qalz, qamz, qanz, evOp, qaoz, qapz, qaqz, qarz, qasz, qatz, qauz, qavz,
 ↓reduceIte, Nat.reduceEqDiff, List.nil_append, List.cons_append, List.append_nil, List.map_cons, List.map_nil, qawz, qaxz, qayz, Option.map_some, Option.map_none, qazz, qbaz, qbbz, qbcz, qbdz, qbez, qbfz, qbgz, qbhz, qbiz, qbjz, qbkz, qblz, qbmz, qbnz, qboz,
 qbpz, qbqz, qbrz, qbsz, qbtz, qbuz, qbvz, qbwz, qbxz, qbyz, qbzz, qcaz, qcbz, qccz, qcdz, qcez, qcfz, qcgz, qchz, qciz, beq_true, beq_false, Bool.not_eq_true', decide_eq_true_eq, decide_eq_false_iff_not, decide_true, decide_false,
 Int.toNat_natCast, Int.ofNat_lt, Int.ofNat_le, Int.natCast_inj, Bool.false_eq_true, Bool.true_eq_false, qcjz, List.getElem?_cons_zero, List.getElem?_cons_succ, qckz, Int.reduceToNat, Int.reduceLE, true_and, and_true, reduceCtorEq, or_false, false_or, or_true, Option.some.injEq, exists_eq_left', Bool.not_true, Bool.not_false, ne_eq, Int.reduceEq, not_true_eq_false, not_false_eq_true, Int.reduceLT, UInt8.reduceLT, UInt8.reduceLE, UInt8.reduceToNat]
    exact fin 130 _ _ hk (by rw [hck, if_pos c2]) rfl
  rw [if_neg c2] at hck
  by_cases c3 : m.org = []
  · simp (maxSteps := 1000000) (disch := omega) only [h1, h3, h4, lmA, hRt, fam, lm0, lm1, lm2, lm3, lm4, lm5, lm6, lm7, lm8, lm9, lm10, hRo, c2, eq_true c3, qaaz, qabz, qacz, qadz, qaez, qafz, qagz, qahz, qaiz, qajz, qakz, qalz, qamz, qanz, evOp, qaoz, qapz, qaqz, qarz, qasz, qatz, qauz, qavz,
 ↓reduceIte, Nat.reduceEqDiff, List.nil_append, List.cons_append, List.append_nil, List.map_cons, List.map_nil, qawz, qaxz, qayz, Option.map_some, Option.map_none, qazz, qbaz, qbbz, qbcz, qbdz, qbez, qbfz, qbgz, qbhz, qbiz, qbjz, qbkz, qblz, qbmz, qbnz, qboz,
 qbpz, qbqz, qbrz, qbsz, qbtz, qbuz, qbvz, qbwz, qbxz, qbyz, qbzz, qcaz, qcbz, qccz, qcdz, qcez, qcfz, qcgz, qchz, qciz, beq_true, beq_false, Bool.not_eq_true', decide_eq_true_eq, decide_eq_false_iff_not, decide_true, decide_false,
 Int.toNat_natCast, Int.ofNat_lt, Int.ofNat_le, Int.natCast_inj, Bool.false_eq_true, Bool.true_eq_false, qcjz, List.getElem?_cons_zero, List.getElem?_cons_succ, qckz, Int.reduceToNat, Int.reduceLE, true_and, and_true, reduceCtorEq, or_false, false_or, or_true, Option.some.injEq, exists_eq_left', Bool.not_true, Bool.not_false, ne_eq, Int.reduceEq, not_true_eq_false, not_false_eq_true, Int.reduceLT, UInt8.reduceLT, UInt8.reduceLE, UInt8.reduceToNat]
    exact fin 131 _ _ hk (by rw [hck, if_pos (.inl c3)]) rfl
  by_cases c4 : (m.att.length : Int) < nl
  · simp (maxSteps := 1000000) (disch := omega) only [h1, h3, h4, lmA, hRt, fam, lm0, lm1, lm2, lm3, lm4, lm5, lm6, lm7, lm8, lm9, lm10, hRo, c2, c3, faP, Nat.zero_add, ld_nd0, c4, qaaz, qabz, qacz, qadz, qaez, qafz, qagz, qahz, qaiz, qajz, qakz, qalz, qamz, qanz, evOp, qaoz, qapz, qaqz, qarz, qasz, qatz, qauz, qavz,
 ↓reduceIte, Nat.reduceEqDiff, List.nil_append, List.cons_append, List.append_nil, List.map_cons, List.map_nil, qawz, qaxz, qayz, Option.map_some, Option.map_none, qazz, qbaz, qbbz, qbcz, qbdz, qbez, qbfz, qbgz, qbhz, qbiz, qbjz, qbkz, qblz, qbmz, qbnz, qboz,
 qbpz, qbqz, qbrz, qbsz, qbtz, qbuz, qbvz, qbwz, qbxz, qbyz, qbzz, qcaz, qcbz, qccz, qcdz, qcez, qcfz, qcgz, qchz, qciz, beq_true, beq_false, Bool.not_eq_true', decide_eq_true_eq, decide_eq_false_iff_not, decide_true, decide_false,
 Int.toNat_natCast, Int.ofNat_lt, Int.ofNat_le, Int.natCast_inj, Bool.false_eq_true, Bool.true_eq_false, qcjz, List.getElem?_cons_zero, List.getElem?_cons_succ, qckz, Int.reduceToNat, Int.reduceLE, true_and, and_true, reduceCtorEq, or_false, false_or, or_true, Option.some.injEq, exists_eq_left', Bool.not_true, Bool.not_false, ne_eq, Int.reduceEq, not_true_eq_false, not_false_eq_true, Int.reduceLT, UInt8.reduceLT, UInt8.reduceLE, UInt8.reduceToNat]
    exact fin 131 _ _ hk (by rw [hck, if_pos (.inr c4)]) rfl
  rw [if_neg (by simp [c3, c4])] at hck
  by_cases c5 : nh < (m.att.length : Int)
  · simp (maxSteps := 1000000) (disch := omega) only [h1, h3, h4, lmA, hRt, fam, lm0, lm1, lm2, lm3, lm4, lm5, lm6, lm7, lm8, lm9, lm10, hRo, c2, c3, faP, Nat.zero_add, ld_nd0, c4, ld_nd1, c5, qaaz, qabz, qacz, qadz, qaez, qafz, qagz, qahz, qaiz, qajz, qakz, qalz, qamz, qanz, evOp, qaoz, qapz, qaqz, qarz, qasz, qatz, qauz, qavz,
 ↓reduceIte, Nat.reduceEqDiff, List.nil_append, List.cons_append, List.append_nil, List.map_cons, List.map_nil, qawz, qaxz, qayz, Option.map_some, Option.map_none, qazz, qbaz, qbbz, qbcz, qbdz, qbez, qbfz, qbgz, qbhz, qbiz, qbjz, qbkz, qblz, qbmz, qbnz, qboz,
 qbpz, qbqz, qbrz, qbsz, qbtz, qbuz, qbvz, qbwz, qbxz, qbyz, qbzz, qcaz, qcbz, qccz, qcdz, qcez, qcfz, qcgz, qchz, qciz, beq_true, beq_false, Bool.not_eq_true', decide_eq_true_eq, decide_eq_false_iff_not, decide_true, decide_false,
 Int.toNat_natCast, Int.ofNat_lt, Int.ofNat_le, Int.natCast_inj, Bool.false_eq_true, Bool.true_eq_false, qcjz, List.getElem?_cons_zero, List.getElem?_cons_succ, qckz, Int.reduceToNat, Int.reduceLE, true_and, and_true, reduceCtorEq, or_false, false_or, or_true, Option.some.injEq, exists_eq_left', Bool.not_true, Bool.not_false, ne_eq, Int.reduceEq, not_true_eq_false, not_false_eq_true, Int.reduceLT, UInt8.reduceLT, UInt8.reduceLE, UInt8.reduceToNat]
    exact fin 132 _ _ hk (by rw [hck, if_pos c5]) rfl
  rw [if_neg c5] at hck
  by_cases c6 : m.me = sREP
  · have hnr' := hnr c6
    simp only [Nd.mk.injEq] at hnr'
    obtain ⟨rfl, rfl, rfl, rfl, rfl⟩ := hnr'
    have hpos : 0 < m.att.length := by omega
    have hia := iaddr_p (k := .i64) (c := 0) hu2 (by omega) (by simpa using hpos)
    rw [show (0 : Int).toNat = 0 from rfl] at hia
    by_cases c7 : (m.att.getD 0 ([], [])).2 = sNEE
    · simp (maxSteps := 1000000) (disch := omega) only [h1, h3, h4, lmA, hRt, fam, lm0, lm1, lm2, lm3, lm4, lm5, lm6, lm7, lm8, lm9, lm10, hRo, c2, c3, faP, Nat.zero_add, ld_nd0, c4, ld_nd1, c5, eq_true c6, hia, fa_mk1, ldp0, eq_true c7, qaaz, qabz, qacz, qadz, qaez, qafz, qagz, qahz, qaiz, qajz, qakz, qalz, qamz, qanz, evOp, qaoz, qapz, qaqz, qarz, qasz, qatz, qauz, qavz,
 ↓reduceIte, Nat.reduceEqDiff, List.nil_append, List.cons_append, List.append_nil, List.map_cons, List.map_nil, qawz, qaxz, qayz, Option.map_some, Option.map_none, qazz, qbaz, qbbz, qbcz, qbdz, qbez, qbfz, qbgz, qbhz, qbiz, qbjz, qbkz, qblz, qbmz, qbnz, qboz,
 qbpz, qbqz, qbrz, qbsz, qbtz, qbuz, qbvz, qbwz, qbxz, qbyz, qbzz, qcaz, qcbz, qccz, qcdz, qcez, qcfz, qcgz, qchz, qciz, beq_true, beq_false, Bool.not_eq_true', decide_eq_true_eq, decide_eq_false_iff_not, decide_true, decide_false,
 Int.toNat_natCast, Int.ofNat_lt, Int.ofNat_le, Int.natCast_inj, Bool.false_eq_true, Bool.true_eq_false, qcjz, List.getElem?_cons_zero, List.getElem?_cons_succ, qckz, Int.reduceToNat, Int.reduceLE, true_and, and_true, reduceCtorEq, or_false, false_or, or_true, Option.some.injEq, exists_eq_left', Bool.not_true, Bool.not_false, ne_eq, Int.reduceEq, not_true_eq_false, not_false_eq_true, Int.reduceLT, UInt8.reduceLT, UInt8.reduceLE, UInt8.reduceToNat]
      exact fin 3 _ _ hk (by rw [hck, if_pos (by rw [partB, decide_eq_true c6, decide_eq_true c7]; rfl)]) rfl
    · simp (maxSteps := 1000000) (disch := omega) only [h1, h3, h4, lmA, hRt, fam, lm0, lm1, lm2, lm3, lm4, lm5, lm6, lm7, lm8, lm9, lm10, hRo, c2, c3, faP, Nat.zero_add, ld_nd0, c4, ld_nd1, c5, eq_true c6, hia, fa_mk1, ldp0, c7, ld_nd2, ld_nd3, ld_nd4, qaaz, qabz, qacz, qadz, qaez, qafz, qagz, qahz, qaiz, qajz, qakz, qalz, qamz, qanz, evOp, qaoz, qapz, qaqz, qarz, qasz, qatz, qauz, qavz,
 ↓reduceIte, Nat.reduceEqDiff, List.nil_append, List.cons_append, List.append_nil, List.map_cons, List.map_nil, qawz, qaxz, qayz, Option.map_some, Option.map_none, qazz, qbaz, qbbz, qbcz, qbdz, qbez, qbfz, qbgz, qbhz, qbiz, qbjz, qbkz, qblz, qbmz, qbnz, qboz,
 qbpz, qbqz, qbrz, qbsz, qbtz, qbuz, qbvz, qbwz, qbxz, qbyz, qbzz, qcaz, qcbz, qccz, qcdz, qcez, qcfz, qcgz, qchz, qciz, beq_true, beq_false, Bool.not_eq_true', decide_eq_true_eq, decide_eq_false_iff_not, decide_true, decide_false,
 Int.toNat_natCast, Int.ofNat_lt, Int.ofNat_le, Int.natCast_inj, Bool.false_eq_true, Bool.true_eq_false, qcjz, List.getElem?_cons_zero, List.getElem?_cons_succ, qckz, Int.reduceToNat, Int.reduceLE, true_and, and_true, reduceCtorEq, or_false, false_or, or_true, Option.some.injEq, exists_eq_left', Bool.not_true, Bool.not_false, ne_eq, Int.reduceEq, not_true_eq_false, not_false_eq_true, Int.reduceLT, UInt8.reduceLT, UInt8.reduceLE, UInt8.reduceToNat]
      rw [if_neg (by rw [partB, decide_eq_false c7, Bool.and_false]; simp), if_neg (by simp), if_neg (by simp)] at hck
      exact fin 0 _ _ hk hck rfl
  have hpb : ¬ partB m = true := by simp [partB, c6]
  rw [if_neg hpb] at hck
  cases re with
  | true =>
    by_cases d2 : m.recur < 0
    · simp (maxSteps := 1000000) (disch := omega) only [h1, h3, h4, lmA, hRt, fam, lm0, lm1, lm2, lm3, lm4, lm5, lm6, lm7, lm8, lm9, lm10, hRo, c2, c3, faP, Nat.zero_add, ld_nd0, c4, ld_nd1, c5, c6, ld_nd2, ld_nd3, ld_nd4, d2, qaaz, qabz, qacz, qadz, qaez, qafz, qagz, qahz, qaiz, qajz, qakz, qalz, qamz, qanz, evOp, qaoz, qapz, qaqz, qarz, qasz, qatz, qauz, qavz,
 ↓reduceIte, Nat.reduceEqDiff, List.nil_append, List.cons_append, List.append_nil, List.map_cons, List.map_nil, qawz, qaxz, qayz, Option.map_some, Option.map_none, qazz, qbaz, qbbz, qbcz, qbdz, qbez, qbfz, qbgz, qbhz, qbiz, qbjz, qbkz, qblz, qbmz, qbnz, qboz,
 qbpz, qbqz, qbrz, qbsz, qbtz, qbuz, qbvz, qbwz, qbxz, qbyz, qbzz, qcaz, qcbz, qccz, qcdz, qcez, qcfz, qcgz, qchz, qciz, beq_true, beq_false, Bool.not_eq_true', decide_eq_true_eq, decide_eq_false_iff_not, decide_true, decide_false,
 Int.toNat_natCast, Int.ofNat_lt, Int.ofNat_le, Int.natCast_inj, Bool.false_eq_true, Bool.true_eq_false, qcjz, List.getElem?_cons_zero, List.getElem?_cons_succ, qckz, Int.reduceToNat, Int.reduceLE, true_and, and_true, reduceCtorEq, or_false, false_or, or_true, Option.some.injEq, exists_eq_left', Bool.not_true, Bool.not_false, ne_eq, Int.reduceEq, not_true_eq_false, not_false_eq_true, Int.reduceLT, UInt8.reduceLT, UInt8.reduceLE, UInt8.reduceToNat]
      exact fin 131 _ _ hk (by rw [hck, if_pos (.inl ⟨rfl, d2⟩)]) rfl
    cases nst with
    | true =>
      by_cases d4 : m.sta < 0
      · simp (maxSteps := 1000000) (disch := omega) only [h1, h3, h4, lmA, hRt, fam, lm0, lm1, lm2, lm3, lm4, lm5, lm6, lm7, lm8, lm9, lm10, hRo, c2, c3, faP, Nat.zero_add, ld_nd0, c4, ld_nd1, c5, c6, ld_nd2, ld_nd3, ld_nd4, d2, d4, qaaz, qabz, qacz, qadz, qaez, qafz, qagz, qahz, qaiz, qajz, qakz, qalz, qamz, qanz, evOp, qaoz, qapz, qaqz, qarz, qasz, qatz, qauz, qavz,
 ↓reduceIte, Nat.reduceEqDiff, List.nil_append, List.cons_append, List.append_nil, List.map_cons, List.map_nil, qawz, qaxz, qayz, Option.map_some, Option.map_none, qazz, qbaz, qbbz, qbcz, qbdz, qbez, qbfz, qbgz, qbhz, qbiz, qbjz, qbkz, qblz, qbmz, qbnz, qboz,
 qbpz, qbqz, qbrz, qbsz, qbtz, qbuz, qbvz, qbwz, qbxz, qbyz, qbzz, qcaz, qcbz, qccz, qcdz, qcez, qcfz, qcgz, qchz, qciz, beq_true, beq_false, Bool.not_eq_true', decide_eq_true_eq, decide_eq_false_iff_not, decide_true, decide_false,
 Int.toNat_natCast, Int.ofNat_lt, Int.ofNat_le, Int.natCast_inj, Bool.false_eq_true, Bool.true_eq_false, qcjz, List.getElem?_cons_zero, List.getElem?_cons_succ, qckz, Int.reduceToNat, Int.reduceLE, true_and, and_true, reduceCtorEq, or_false, false_or, or_true, Option.some.injEq, exists_eq_left', Bool.not_true, Bool.not_false, ne_eq, Int.reduceEq, not_true_eq_false, not_false_eq_true, Int.reduceLT, UInt8.reduceLT, UInt8.reduceLE, UInt8.reduceToNat]
        exact fin 131 _ _ hk (by rw [hck, if_pos (.inr ⟨rfl, d4⟩)]) rfl
      rw [if_neg (by simp only [d2, d4, and_false, or_self, not_false_eq_true])] at hck
      cases ti with
      | true =>
        by_cases d6 : 0 ≤ m.sta
        · simp (maxSteps := 1000000) (disch := omega) only [h1, h3, h4, lmA, hRt, fam, lm0, lm1, lm2, lm3, lm4, lm5, lm6, lm7, lm8, lm9, lm10, hRo, c2, c3, faP, Nat.zero_add, ld_nd0, c4, ld_nd1, c5, c6, ld_nd2, ld_nd3, ld_nd4, d2, d4, d6, qaaz, qabz, qacz, qadz, qaez, qafz, qagz, qahz, qaiz, qajz, qakz, qalz, qamz, qanz, evOp, qaoz, qapz, qaqz, qarz, qasz, qatz, qauz, qavz,
 ↓reduceIte, Nat.reduceEqDiff, List.nil_append, List.cons_append, List.append_nil, List.map_cons, List.map_nil, qawz, qaxz, qayz, Option.map_some, Option.map_none, qazz, qbaz, qbbz, qbcz, qbdz, qbez, qbfz, qbgz, qbhz, qbiz, qbjz, qbkz, qblz, qbmz, qbnz, qboz,
 qbpz, qbqz, qbrz, qbsz, qbtz, qbuz, qbvz, qbwz, qbxz, qbyz, qbzz, qcaz, qcbz, qccz, qcdz, qcez, qcfz, qcgz, qchz, qciz, beq_true, beq_false, Bool.not_eq_true', decide_eq_true_eq, decide_eq_false_iff_not, decide_true, decide_false,
 Int.toNat_natCast, Int.ofNat_lt, Int.ofNat_le, Int.natCast_inj, Bool.false_eq_true, Bool.true_eq_false, qcjz, List.getElem?_cons_zero, List.getElem?_cons_succ, qckz, Int.reduceToNat, Int.reduceLE, true_and, and_true, reduceCtorEq, or_false, false_or, or_true, Option.some.injEq, exists_eq_left', Bool.not_true, Bool.not_false, ne_eq, Int.reduceEq, not_true_eq_false, not_false_eq_true, Int.reduceLT, UInt8.reduceLT, UInt8.reduceLE, UInt8.reduceToNat]
          exact fin 132 _ _ hk (by rw [hck, if_pos ⟨rfl, d6⟩]) rfl
        · simp (maxSteps := 1000000) (disch := omega) only [h1, h3, h4, lmA, hRt, fam, lm0, lm1, lm2, lm3, lm4, lm5, lm6, lm7, lm8, lm9, lm10, hRo, c2, c3, faP, Nat.zero_add, ld_nd0, c4, ld_nd1, c5, c6, ld_nd2, ld_nd3, ld_nd4, d2, d4, d6, qaaz, qabz, qacz, qadz, qaez, qafz, qagz, qahz, qaiz, qajz, qakz, qalz, qamz, qanz, evOp, qaoz, qapz, qaqz, qarz, qasz, qatz, qauz, qavz,
 ↓reduceIte, Nat.reduceEqDiff, List.nil_append, List.cons_append, List.append_nil, List.map_cons, List.map_nil, qawz, qaxz, qayz, Option.map_some, Option.map_none, qazz, qbaz, qbbz, qbcz, qbdz, qbez, qbfz, qbgz, qbhz, qbiz, qbjz, qbkz, qblz, qbmz, qbnz, qboz,
 qbpz, qbqz, qbrz, qbsz, qbtz, qbuz, qbvz, qbwz, qbxz, qbyz, qbzz, qcaz, qcbz, qccz, qcdz, qcez, qcfz, qcgz, qchz, qciz, beq_true, beq_false, Bool.not_eq_true', decide_eq_true_eq, decide_eq_false_iff_not, decide_true, decide_false,
 Int.toNat_natCast, Int.ofNat_lt, Int.ofNat_le, Int.natCast_inj, Bool.false_eq_true, Bool.true_eq_false, qcjz, List.getElem?_cons_zero, List.getElem?_cons_succ, qckz, Int.reduceToNat, Int.reduceLE, true_and, and_true, reduceCtorEq, or_false, false_or, or_true, Option.some.injEq, exists_eq_left', Bool.not_true, Bool.not_false, ne_eq, Int.reduceEq, not_true_eq_false, not_false_eq_true, Int.reduceLT, UInt8.reduceLT, UInt8.reduceLE, UInt8.reduceToNat]
          exact fin 0 _ _ hk (by rw [hck, if_neg (by simp only [d6, and_false, not_false_eq_true])]) rfl
      | false =>
        simp (maxSteps := 1000000) (disch := omega) only [h1, h3, h4, lmA, hRt, fam, lm0, lm1, lm2, lm3, lm4, lm5, lm6, lm7, lm8, lm9, lm10, hRo, c2, c3, faP, Nat.zero_add, ld_nd0, c4, ld_nd1, c5, c6, ld_nd2, ld_nd3, ld_nd4, d2, d4, qaaz, qabz, qacz, qadz, qaez, qafz, qagz, qahz, qaiz, qajz, qakz, qalz, qamz, qanz, evOp, qaoz, qapz, qaqz, qarz, qasz, qatz, qauz, qavz,
 ↓reduceIte, Nat.reduceEqDiff, List.nil_append, List.cons_append, List.append_nil, List.map_cons, List.map_nil, qawz, qaxz, qayz, Option.map_some, Option.map_none, qazz, qbaz, qbbz, qbcz, qbdz, qbez, qbfz, qbgz, qbhz, qbiz, qbjz, qbkz, qblz, qbmz, qbnz, qboz,
 qbpz, qbqz, qbrz, qbsz, qbtz, qbuz, qbvz, qbwz, qbxz, qbyz, qbzz, qcaz, qcbz, qccz, qcdz, qcez, qcfz, qcgz, qchz, qciz, beq_true, beq_false, Bool.not_eq_true', decide_eq_true_eq, decide_eq_false_iff_not, decide_true, decide_false,
 Int.toNat_natCast, Int.ofNat_lt, Int.ofNat_le, Int.natCast_inj, Bool.false_eq_true, Bool.true_eq_false, qcjz, List.getElem?_cons_zero, List.getElem?_cons_succ, qckz, Int.reduceToNat, Int.reduceLE, true_and, and_true, reduceCtorEq, or_false, false_or, or_true, Option.some.injEq, exists_eq_left', Bool.not_true, Bool.not_false, ne_eq, Int.reduceEq, not_true_eq_false, not_false_eq_true, Int.reduceLT, UInt8.reduceLT, UInt8.reduceLE, UInt8.reduceToNat]
        exact fin 0 _ _ hk (by rw [hck, if_neg (by simp)]) rfl
    | false =>
      rw [if_neg (by simp [d2])] at hck
      cases ti with
      | true =>
        by_cases d6 : 0 ≤ m.sta
        · simp (maxSteps := 1000000) (disch := omega) only [h1, h3, h4, lmA, hRt, fam, lm0, lm1, lm2, lm3, lm4, lm5, lm6, lm7, lm8, lm9, lm10, hRo, c2, c3, faP, Nat.zero_add, ld_nd0, c4, ld_nd1, c5, c6, ld_nd2, ld_nd3, ld_nd4, d2, d6, qaaz, qabz, qacz, qadz, qaez, qafz, qagz, qahz, qaiz, qajz, qakz, qalz, qamz, qanz, evOp, qaoz, qapz, qaqz, qarz, qasz, qatz, qauz, qavz,
 ↓reduceIte, Nat.reduceEqDiff, List.nil_append, List.cons_append, List.append_nil, List.map_cons, List.map_nil, qawz, qaxz, qayz, Option.map_some, Option.map_none, qazz, qbaz, qbbz, qbcz, qbdz, qbez, qbfz, qbgz, qbhz, qbiz, qbjz, qbkz, qblz, qbmz, qbnz, qboz,
 qbpz, qbqz, qbrz, qbsz, qbtz, qbuz, qbvz, qbwz, qbxz, qbyz, qbzz, qcaz, qcbz, qccz, qcdz, qcez, qcfz, qcgz, qchz, qciz, beq_true, beq_false, Bool.not_eq_true', decide_eq_true_eq, decide_eq_false_iff_not, decide_true, decide_false,
 Int.toNat_natCast, Int.ofNat_lt, Int.ofNat_le, Int.natCast_inj, Bool.false_eq_true, Bool.true_eq_false, qcjz, List.getElem?_cons_zero, List.getElem?_cons_succ, qckz, Int.reduceToNat, Int.reduceLE, true_and, and_true, reduceCtorEq, or_false, false_or, or_true, Option.some.injEq, exists_eq_left', Bool.not_true, Bool.not_false, ne_eq, Int.reduceEq, not_true_eq_false, not_false_eq_true, Int.reduceLT, UInt8.reduceLT, UInt8.reduceLE, UInt8.reduceToNat]
          exact fin 132 _ _ hk (by rw [hck, if_pos ⟨rfl, d6⟩]) rfl
        · simp (maxSteps := 1000000) (disch := omega) only [h1, h3, h4, lmA, hRt, fam, lm0, lm1, lm2, lm3, lm4, lm5, lm6, lm7, lm8, lm9, lm10, hRo, c2, c3, faP, Nat.zero_add, ld_nd0, c4, ld_nd1, c5, c6, ld_nd2, ld_nd3, ld_nd4, d2, d6, qaaz, qabz, qacz, qadz, qaez, qafz, qagz, qahz, qaiz, qajz, qakz, qalz, qamz, qanz, evOp, qaoz, qapz, qaqz, qarz, qasz, qatz, qauz, qavz,
 ↓reduceIte, Nat.reduceEqDiff, List.nil_append, List.cons_append, List.append_nil, List.map_cons, List.map_nil, qawz, qaxz, qayz, Option.map_some, Option.map_none, qazz, qbaz, qbbz, qbcz, qbdz, qbez, qbfz, qbgz, qbhz, qbiz, qbjz, qbkz, qblz, qbmz, qbnz, qboz,
 qbpz, qbqz, qbrz, qbsz, qbtz, qbuz, qbvz, qbwz, qbxz, qbyz, qbzz, qcaz, qcbz, qccz, qcdz, qcez, qcfz, qcgz, qchz, qciz, beq_true, beq_false, Bool.not_eq_true', decide_eq_true_eq, decide_eq_false_iff_not, decide_true, decide_false,
 Int.toNat_natCast, Int.ofNat_lt, Int.ofNat_le, Int.natCast_inj, Bool.false_eq_true, Bool.true_eq_false, qcjz, List.getElem?_cons_zero, List.getElem?_cons_succ, qckz, Int.reduceToNat, Int.reduceLE, true_and, and_true, reduceCtorEq, or_false, false_or, or_true, Option.some.injEq, exists_eq_left', Bool.not_true, Bool.not_false, ne_eq, Int.reduceEq, not_true_eq_false, not_false_eq_true, Int.reduceLT, UInt8.reduceLT, UInt8.reduceLE, UInt8.reduceToNat]
          exact fin 0 _ _ hk (by rw [hck, if_neg (by simp only [d6, and_false, not_false_eq_true])]) rfl
      | false =>
        simp (maxSteps := 1000000) (disch := omega) only [h1, h3, h4, lmA, hRt, fam, lm0, lm1, lm2, lm3, lm4, lm5, lm6, lm7, lm8, lm9, lm10, hRo, c2, c3, faP, Nat.zero_add, ld_nd0, c4, ld_nd1, c5, c6, ld_nd2, ld_nd3, ld_nd4, d2, qaaz, qabz, qacz, qadz, qaez, qafz, qagz, qahz, qaiz, qajz, qakz, qalz, qamz, qanz, evOp, qaoz, qapz, qaqz, qarz, qasz, qatz, qauz, qavz,
 ↓reduceIte, Nat.reduceEqDiff, List.nil_append, List.cons_append, List.append_nil, List.map_cons, List.map_nil, qawz, qaxz, qayz, Option.map_some, Option.map_none, qazz, qbaz, qbbz, qbcz, qbdz, qbez, qbfz, qbgz, qbhz, qbiz, qbjz, qbkz, qblz, qbmz, qbnz, qboz,
 qbpz, qbqz, qbrz, qbsz, qbtz, qbuz, qbvz, qbwz, qbxz, qbyz, qbzz, qcaz, qcbz, qccz, qcdz, qcez, qcfz, qcgz, qchz, qciz, beq_true, beq_false, Bool.not_eq_true', decide_eq_true_eq, decide_eq_false_iff_not, decide_true, decide_false,
 Int.toNat_natCast, Int.ofNat_lt, Int.ofNat_le, Int.natCast_inj, Bool.false_eq_true, Bool.true_eq_false, qcjz, List.getElem?_cons_zero, List.getElem?_cons_succ, qckz, Int.reduceToNat, Int.reduceLE, true_and, and_true, reduceCtorEq, or_false, false_or, or_true, Option.some.injEq, exists_eq_left', Bool.not_true, Bool.not_false, ne_eq, Int.reduceEq, not_true_eq_false, not_false_eq_true, Int.reduceLT, UInt8.reduceLT, UInt8.reduceLE, UInt8.reduceToNat]
        exact fin 0 _ _ hk (by rw [hck, if_neg (by simp)]) rfl
  | false =>
    cases nst with
    | true =>
      by_cases d4 : m.sta < 0
      · simp (maxSteps := 1000000) (disch := omega) only [h1, h3, h4, lmA, hRt, fam, lm0, lm1, lm2, lm3, lm4, lm5, lm6, lm7, lm8, lm9, lm10, hRo, c2, c3, faP, Nat.zero_add, ld_nd0, c4, ld_nd1, c5, c6, ld_nd2, ld_nd3, ld_nd4, d4, qaaz, qabz, qacz, qadz, qaez, qafz, qagz, qahz, qaiz, qajz, qakz, qalz, qamz, qanz, evOp, qaoz, qapz, qaqz, qarz, qasz, qatz, qauz, qavz,
 ↓reduceIte, Nat.reduceEqDiff, List.nil_append, List.cons_append, List.append_nil, List.map_cons, List.map_nil, qawz, qaxz, qayz, Option.map_some, Option.map_none, qazz, qbaz, qbbz, qbcz, qbdz, qbez, qbfz, qbgz, qbhz, qbiz, qbjz, qbkz, qblz, qbmz, qbnz, qboz,
 qbpz, qbqz, qbrz, qbsz, qbtz, qbuz, qbvz, qbwz, qbxz, qbyz, qbzz, qcaz, qcbz, qccz, qcdz, qcez, qcfz, qcgz, qchz, qciz, beq_true, beq_false, Bool.not_eq_true', decide_eq_true_eq, decide_eq_false_iff_not, decide_true, decide_false,
 Int.toNat_natCast, Int.ofNat_lt, Int.ofNat_le, Int.natCast_inj, Bool.false_eq_true, Bool.true_eq_false, qcjz, List.getElem?_cons_zero, List.getElem?_cons_succ, qckz, Int.reduceToNat, Int.reduceLE, true_and, and_true, reduceCtorEq, or_false, false_or, or_true, Option.some.injEq, exists_eq_left', Bool.not_true, Bool.not_false, ne_eq, Int.reduceEq, not_true_eq_false, not_false_eq_true, Int.reduceLT, UInt8.reduceLT, UInt8.reduceLE, UInt8.reduceToNat]
        exact fin 131 _ _ hk (by rw [hck, if_pos (.inr ⟨rfl, d4⟩)]) rfl
      rw [if_neg (by simp [d4])] at hck
      cases ti with
      | true =>
        by_cases d6 : 0 ≤ m.sta
        · simp (maxSteps := 1000000) (disch := omega) only [h1, h3, h4, lmA, hRt, fam, lm0, lm1, lm2, lm3, lm4, lm5, lm6, lm7, lm8, lm9, lm10, hRo, c2, c3, faP, Nat.zero_add, ld_nd0, c4, ld_nd1, c5, c6, ld_nd2, ld_nd3, ld_nd4, d4, d6, qaaz, qabz, qacz, qadz, qaez, qafz, qagz, qahz, qaiz, qajz, qakz, qalz, qamz, qanz, evOp, qaoz, qapz, qaqz, qarz, qasz, qatz, qauz, qavz,
 ↓reduceIte, Nat.reduceEqDiff, List.nil_append, List.cons_append, List.append_nil, List.map_cons, List.map_nil, qawz, qaxz, qayz, Option.map_some, Option.map_none, qazz, qbaz, qbbz, qbcz, qbdz, qbez, qbfz, qbgz, qbhz, qbiz, qbjz, qbkz, qblz, qbmz, qbnz, qboz,
 qbpz, qbqz, qbrz, qbsz, qbtz, qbuz, qbvz, qbwz, qbxz, qbyz, qbzz, qcaz, qcbz, qccz, qcdz, qcez, qcfz, qcgz, qchz, qciz, beq_true, beq_false, Bool.not_eq_true', decide_eq_true_eq, decide_eq_false_iff_not, decide_true, decide_false,
 Int.toNat_natCast, Int.ofNat_lt, Int.ofNat_le, Int.natCast_inj, Bool.false_eq_true, Bool.true_eq_false, qcjz, List.getElem?_cons_zero, List.getElem?_cons_succ, qckz, Int.reduceToNat, Int.reduceLE, true_and, and_true, reduceCtorEq, or_false, false_or, or_true, Option.some.injEq, exists_eq_left', Bool.not_true, Bool.not_false, ne_eq, Int.reduceEq, not_true_eq_false, not_false_eq_true, Int.reduceLT, UInt8.reduceLT, UInt8.reduceLE, UInt8.reduceToNat]
          exact fin 132 _ _ hk (by rw [hck, if_pos ⟨rfl, d6⟩]) rfl
        · simp (maxSteps := 1000000) (disch := omega) only [h1, h3, h4, lmA, hRt, fam, lm0, lm1, lm2, lm3, lm4, lm5, lm6, lm7, lm8, lm9, lm10, hRo, c2, c3, faP, Nat.zero_add, ld_nd0, c4, ld_nd1, c5, c6, ld_nd2, ld_nd3, ld_nd4, d4, d6, qaaz, qabz, qacz, qadz, qaez, qafz, qagz, qahz, qaiz, qajz, qakz, qalz, qamz, qanz, evOp, qaoz, qapz, qaqz, qarz, qasz, qatz, qauz, qavz,
 ↓reduceIte, Nat.reduceEqDiff, List.nil_append, List.cons_append, List.append_nil, List.map_cons, List.map_nil, qawz, qaxz, qayz, Option.map_some, Option.map_none, qazz, qbaz, qbbz, qbcz, qbdz, qbez, qbfz, qbgz, qbhz, qbiz, qbjz, qbkz, qblz, qbmz, qbnz, qboz,
 qbpz, qbqz, qbrz, qbsz, qbtz, qbuz, qbvz, qbwz, qbxz, qbyz, qbzz, qcaz, qcbz, qccz, qcdz, qcez, qcfz, qcgz, qchz, qciz, beq_true, beq_false, Bool.not_eq_true', decide_eq_true_eq, decide_eq_false_iff_not, decide_true, decide_false,
 Int.toNat_natCast, Int.ofNat_lt, Int.ofNat_le, Int.natCast_inj, Bool.false_eq_true, Bool.true_eq_false, qcjz, List.getElem?_cons_zero, List.getElem?_cons_succ, qckz, Int.reduceToNat, Int.reduceLE, true_and, and_true, reduceCtorEq, or_false, false_or, or_true, Option.some.injEq, exists_eq_left', Bool.not_true, Bool.not_false, ne_eq, Int.reduceEq, not_true_eq_false, not_false_eq_true, Int.reduceLT, UInt8.reduceLT, UInt8.reduceLE, UInt8.reduceToNat]
          exact fin 0 _ _ hk (by rw [hck, if_neg (by simp only [d6, and_false, not_false_eq_true])]) rfl
      | false =>
        simp (maxSteps := 1000000) (disch := omega) only [h1, h3, h4, lmA, hRt, fam, lm0, lm1, lm2, lm3, lm4, lm5, lm6, lm7, lm8, lm9, lm10, hRo, c2, c3, faP, Nat.zero_add, ld_nd0, c4, ld_nd1, c5, c6, ld_nd2, ld_nd3, ld_nd4, d4, qaaz, qabz, qacz, qadz, qaez, qafz, qagz, qahz, qaiz, qajz, qakz, qalz, qamz, qanz, evOp, qaoz, qapz, qaqz, qarz, qasz, qatz, qauz, qavz,
 ↓reduceIte, Nat.reduceEqDiff, List.nil_append, List.cons_append, List.append_nil, List.map_cons, List.map_nil, qawz, qaxz, qayz, Option.map_some, Option.map_none, qazz, qbaz, qbbz, qbcz, qbdz, qbez, qbfz, qbgz, qbhz, qbiz, qbjz, qbkz, qblz, qbmz, qbnz, qboz,
 qbpz, qbqz, qbrz, qbsz, qbtz, qbuz, qbvz, qbwz, qbxz, qbyz, qbzz, qcaz, qcbz, qccz, qcdz, qcez, qcfz, qcgz, qchz, qciz, beq_true, beq_false, Bool.not_eq_true', decide_eq_true_eq, decide_eq_false_iff_not, decide_true, decide_false,
 Int.toNat_natCast, Int.ofNat_lt, Int.ofNat_le, Int.natCast_inj, Bool.false_eq_true, Bool.true_eq_false, qcjz, List.getElem?_cons_zero, List.getElem?_cons_succ, qckz, Int.reduceToNat, Int.reduceLE, true_and, and_true, reduceCtorEq, or_false, false_or, or_true, Option.some.injEq, exists_eq_left', Bool.not_true, Bool.not_false, ne_eq, Int.reduceEq, not_true_eq_false, not_false_eq_true, Int.reduceLT, UInt8.reduceLT, UInt8.reduceLE, UInt8.reduceToNat]
        exact fin 0 _ _ hk (by rw [hck, if_neg (by simp)]) rfl
    | false =>
      rw [if_neg (by simp)] at hck
      cases ti with
      | true =>
        by_cases d6 : 0 ≤ m.sta
        · simp (maxSteps := 1000000) (disch := omega) only [h1, h3, h4, lmA, hRt, fam, lm0, lm1, lm2, lm3, lm4, lm5, lm6, lm7, lm8, lm9, lm10, hRo, c2, c3, faP, Nat.zero_add, ld_nd0, c4, ld_nd1, c5, c6, ld_nd2, ld_nd3, ld_nd4, c5, d6, qaaz, qabz, qacz, qadz, qaez, qafz, qagz, qahz, qaiz, qajz, qakz, qalz, qamz, qanz, evOp, qaoz, qapz, qaqz, qarz, qasz, qatz, qauz, qavz,
 ↓reduceIte, Nat.reduceEqDiff, List.nil_append, List.cons_append, List.append_nil, List.map_cons, List.map_nil, qawz, qaxz, qayz, Option.map_some, Option.map_none, qazz, qbaz, qbbz, qbcz, qbdz, qbez, qbfz, qbgz, qbhz, qbiz, qbjz, qbkz, qblz, qbmz, qbnz, qboz,
 qbpz, qbqz, qbrz, qbsz, qbtz, qbuz, qbvz, qbwz, qbxz, qbyz, qbzz, qcaz, qcbz, qccz, qcdz, qcez, qcfz, qcgz, qchz, qciz, beq_true, beq_false, Bool.not_eq_true', decide_eq_true_eq, decide_eq_false_iff_not, decide_true, decide_false,
 Int.toNat_natCast, Int.ofNat_lt, Int.ofNat_le, Int.natCast_inj, Bool.false_eq_true, Bool.true_eq_false, qcjz, List.getElem?_cons_zero, List.getElem?_cons_succ, qckz, Int.reduceToNat, Int.reduceLE, true_and, and_true, reduceCtorEq, or_false, false_or, or_true, Option.some.injEq, exists_eq_left', Bool.not_true, Bool.not_false, ne_eq, Int.reduceEq, not_true_eq_false, not_false_eq_true, Int.reduceLT, UInt8.reduceLT, UInt8.reduceLE, UInt8.reduceToNat]
          exact fin 132 _ _ hk (by rw [hck, if_pos ⟨rfl, d6⟩]) rfl
        · simp (maxSteps := 1000000) (disch := omega) only [h1, h3, h4, lmA, hRt, fam, lm0, lm1, lm2, lm3, lm4, lm5, lm6, lm7, lm8, lm9, lm10, hRo, c2, c3, faP, Nat.zero_add, ld_nd0, c4, ld_nd1, c5, c6, ld_nd2, ld_nd3, ld_nd4, c5, d6, qaaz, qabz, qacz, qadz, qaez, qafz, qagz, qahz, qaiz, qajz, qakz, qalz, qamz, qanz, evOp, qaoz, qapz, qaqz, qarz, qasz, qatz, qauz, qavz,
 ↓reduceIte, Nat.reduceEqDiff, List.nil_append, List.cons_append, List.append_nil, List.map_cons, List.map_nil, qawz, qaxz, qayz, Option.map_some, Option.map_none, qazz, qbaz, qbbz, qbcz, qbdz, qbez, qbfz, qbgz, qbhz, qbiz, qbjz, qbkz, qblz, qbmz, qbnz, qboz,
 qbpz, qbqz, qbrz, qbsz, qbtz, qbuz, qbvz, qbwz, qbxz, qbyz, qbzz, qcaz, qcbz, qccz, qcdz, qcez, qcfz, qcgz, qchz, qciz, beq_true, beq_false, Bool.not_eq_true', decide_eq_true_eq, decide_eq_false_iff_not, decide_true, decide_false,
 Int.toNat_natCast, Int.ofNat_lt, Int.ofNat_le, Int.natCast_inj, Bool.false_eq_true, Bool.true_eq_false, qcjz, List.getElem?_cons_zero, List.getElem?_cons_succ, qckz, Int.reduceToNat, Int.reduceLE, true_and, and_true, reduceCtorEq, or_false, false_or, or_true, Option.some.injEq, exists_eq_left', Bool.not_true, Bool.not_false, ne_eq, Int.reduceEq, not_true_eq_false, not_false_eq_true, Int.reduceLT, UInt8.reduceLT, UInt8.reduceLE, UInt8.reduceToNat]
          exact fin 0 _ _ hk (by rw [hck, if_neg (by simp only [d6, and_false, not_false_eq_true])]) rfl
      | false =>
        simp (maxSteps := 1000000) (disch := omega) only [h1, h3, h4, lmA, hRt, fam, lm0, lm1, lm2, lm3, lm4, lm5, lm6, lm7, lm8, lm9, lm10, hRo, c2, c3, faP, Nat.zero_add, ld_nd0, c4, ld_nd1, c5, c6, ld_nd2, ld_nd3, ld_nd4, c5, qaaz, qabz, qacz, qadz, qaez, qafz, qagz, qahz, qaiz, qajz, qakz, qalz, qamz, qanz, evOp, qaoz, qapz, qaqz, qarz, qasz, qatz, qauz, qavz,
 ↓reduceIte, Nat.reduceEqDiff, List.nil_append, List.cons_append, List.append_nil, List.map_cons, List.map_nil, qawz, qaxz, qayz, Option.map_some, Option.map_none, qazz, qbaz, qbbz, qbcz, qbdz, qbez, qbfz, qbgz, qbhz, qbiz, qbjz, qbkz, qblz, qbmz, qbnz, qboz,
 qbpz, qbqz, qbrz, qbsz, qbtz, qbuz, qbvz, qbwz, qbxz, qbyz, qbzz, qcaz, qcbz, qccz, qcdz, qcez, qcfz, qcgz, qchz, qciz, beq_true, beq_false, Bool.not_eq_true', decide_eq_true_eq, decide_eq_false_iff_not, decide_true, decide_false,
 Int.toNat_natCast, Int.ofNat_lt, Int.ofNat_le, Int.natCast_inj, Bool.false_eq_true, Bool.true_eq_false, qcjz, List.getElem?_cons_zero, List.getElem?_cons_succ, qckz, Int.reduceToNat, Int.reduceLE, true_and, and_true, reduceCtorEq, or_false, false_or, or_true, Option.some.injEq, exists_eq_left', Bool.not_true, Bool.not_false, ne_eq, Int.reduceEq, not_true_eq_false, not_false_eq_true, Int.reduceLT, UInt8.reduceLT, UInt8.reduceLE, UInt8.reduceToNat]
        exact fin 0 _ _ hk (by rw [hck, if_neg (by simp)]) rfl

theorem check_att (h : checkM m = 0) (hr : roleOf m.me = 2) : 0 < m.att.length := by
  unfold checkM at h
  by_cases c1 : rightM m = false
  · rw [if_pos c1] at h; simp at h
  rw [if_neg c1, if_neg (by omega)] at h
  by_cases c3 : m.org = [] ∨ (m.att.length : Int) < (needOf m.me).lo
  · rw [if_pos c3] at h; simp at h
  have hlo : (needOf m.me).lo = 1 := by
    rcases role_cases (s := m.me) (by omega) with h0 | h0 | h0 | h0 | h0 | h0 | h0 | h0 <;> rw [h0] at hr ⊢ <;> first | rfl | (simp [roleOf, roleO, roleA] at hr; done)
  rw [hlo] at c3
  have : ¬ ((m.att.length : Int) < 1) := fun q => c3 (.inr q)
  omega
set_option maxHeartbeats 2000000 in
theorem Sender_spec (hv : av.vs 2 = some (m.att.map pV)) (ok : okMD m) : call prog (.fn 185 []) [mV m av] st = some (.tup [.str (senderM m).1, .int .i64 (senderM m).2], st) := by
  refine call_of_W prog_185 ?_
  unfold F_rules_Sender; dsimp only
  generalize hQ1 : endQ st _ _ = Q0
  have fin : ∀ (a : Bs) (b : Int) (E : Env) (S : St), Kept st S → senderM m = (a, b) → E 2 = .str a → E 3 = .int .i64 b → Q0 .ret E S := fun a b E S k h h4 h5 => by
    rw [← hQ1, qblz]; exact retSI h4 h5 k (by rw [h]) (by rw [h])
  obtain ⟨u, hu, hu2, -⟩ := strip_m (m := m) hv
  have hC := fun S : St => Check_spec (st := S) hu2 ok
  have hRo := fun S : St => roleOf_spec (st := S) (l := m.me)
  by_cases c1 : checkM m = 0
  · rw [c1] at hC
    by_cases c2 : roleOf m.me = 2
    · have hia := iaddr_p (k := .i64) (c := 0) hu2 (by omega) (by simpa using check_att c1 c2)
      rw [show (0 : Int).toNat = 0 from rfl] at hia
      simp (maxSteps := 1000000) (disch := omega) only [hu, cells_m, lmA, fam, lm0, lm1, lm2, lm3, lm4, lm5, lm6, lm7, lm8, lm9, lm10, hC, hRo, c2, hia, fa_mk0, ldp0, qaaz, qabz, qacz, qadz, qaez, qafz, qagz, qahz, qaiz, qajz, qakz, qalz, qamz, qanz, evOp, qaoz, qapz, qaqz, qarz, qasz, qatz, qauz, qavz,
 ↓reduceIte, Nat.reduceEqDiff, List.nil_append, List.cons_append, List.append_nil, List.map_cons, List.map_nil, qawz, qaxz, qayz, Option.map_some, Option.map_none, qazz, qbaz, qbbz, qbcz, qbdz, qbez, qbfz, qbgz, qbhz, qbiz, qbjz, qbkz, qblz, qbmz, qbnz, qboz,
 qbpz, qbqz, qbrz, qbsz, qbtz, qbuz, qbvz, qbwz, qbxz, qbyz, qbzz, qcaz, qcbz, qccz, qcdz, qcez, qcfz, qcgz, qchz, qciz, beq_true, beq_false, Bool.not_eq_true', decide_eq_true_eq, decide_eq_false_iff_not, decide_true, decide_false,
 Int.toNat_natCast, Int.ofNat_lt, Int.ofNat_le, Int.natCast_inj, Bool.false_eq_true, Bool.true_eq_false, qcjz, List.getElem?_cons_zero, List.getElem?_cons_succ, qckz, Int.reduceToNat, Int.reduceLE, true_and, and_true, reduceCtorEq, or_false, false_or, or_true, Option.some.injEq, exists_eq_left', Bool.not_true, Bool.not_false, ne_eq, Int.reduceEq, not_true_eq_false, not_false_eq_true, Int.reduceLT, UInt8.reduceLT, UInt8.reduceLE, UInt8.reduceToNat]
      exact fin _ _ _ _ Kept.start (by rw [senderM, if_pos c1, if_pos c2]) rfl rfl
    · simp (maxSteps := 1000000) (disch := omega) only [hu, cells_m, lmA, fam, lm0, lm1, lm2, lm3, lm4, lm5, lm6, lm7, lm8, lm9, lm10, hC, hRo, c2, qaaz, qabz, qacz, qadz, qaez, qafz, qagz, qahz, qaiz, qajz, qakz, qalz, qamz, qanz, evOp, qaoz, qapz, qaqz, qarz, qasz, qatz, qauz, qavz,
 ↓reduceIte, Nat.reduceEqDiff, List.nil_append, List.cons_append, List.append_nil, List.map_cons, List.map_nil, qawz, qaxz, qayz, Option.map_some, Option.map_none, qazz, qbaz, qbbz, qbcz, qbdz, qbez, qbfz, qbgz, qbhz, qbiz, qbjz, qbkz, qblz, qbmz, qbnz, qboz,
 qbpz, qbqz, qbrz, qbsz, qbtz, qbuz, qbvz, qbwz, qbxz, qbyz, qbzz, qcaz, qcbz, qccz, qcdz, qcez, qcfz, qcgz, qchz, qciz, beq_true, beq_false, Bool.not_eq_true', decide_eq_true_eq, decide_eq_false_iff_not, decide_true, decide_false,
 Int.toNat_natCast, Int.ofNat_lt, Int.ofNat_le, Int.natCast_inj, Bool.false_eq_true, Bool.true_eq_false, qcjz, List.getElem?_cons_zero, List.getElem?_cons_succ, qckz, Int.reduceToNat, Int.reduceLE, true_and, and_true, reduceCtorEq, or_false, false_or, or_true, Option.some.injEq, exists_eq_left', Bool.not_true, Bool.not_false, ne_eq, Int.reduceEq, not_true_eq_false, not_false_eq_true, Int.reduceLT, UInt8.reduceLT, UInt8.reduceLE, UInt8.reduceToNat]
      exact fin _ _ _ _ Kept.start (by rw [senderM, if_pos c1, if_neg c2]) rfl rfl
  · simp (maxSteps := 1000000) (disch := omega) only [hu, cells_m, lmA, fam, lm0, lm1, lm2, lm3, lm4, lm5, lm6, lm7, lm8, lm9, lm10, hC, c1, qaaz, qabz, qacz, qadz, qaez, qafz, qagz, qahz, qaiz, qajz, qakz, qalz, qamz, qanz, evOp, qaoz, qapz, qaqz, qarz, qasz, qatz, qauz, qavz,
 ↓reduceIte, Nat.reduceEqDiff, List.nil_append, List.cons_append, List.append_nil, List.map_cons, List.map_nil, qawz, qaxz, qayz, Option.map_some, Option.map_none, qazz, qbaz, qbbz, qbcz, qbdz, qbez, qbfz, qbgz, qbhz, qbiz, qbjz, qbkz, qblz, qbmz, qbnz, qboz,
 qbpz, qbqz, qbrz, qbsz, qbtz, qbuz, qbvz, qbwz, qbxz, qbyz, qbzz, qcaz, qcbz, qccz, qcdz, qcez, qcfz, qcgz, qchz, qciz, beq_true, beq_false, Bool.not_eq_true', decide_eq_true_eq, decide_eq_false_iff_not, decide_true, decide_false,
 Int.toNat_natCast, Int.ofNat_lt, Int.ofNat_le, Int.natCast_inj, Bool.false_eq_true, Bool.true_eq_false, qcjz, List.getElem?_cons_zero, List.getElem?_cons_succ, qckz, Int.reduceToNat, Int.reduceLE, true_and, and_true, reduceCtorEq, or_false, false_or, or_true, Option.some.injEq, exists_eq_left', Bool.not_true, Bool.not_false, ne_eq, Int.reduceEq, not_true_eq_false, not_false_eq_true, Int.reduceLT, UInt8.reduceLT, UInt8.reduceLE, UInt8.reduceToNat]
    exact fin _ _ _ _ Kept.start (by rw [senderM, if_neg c1]) rfl rfl

end Go.Ab
/-
  The document's Right, Check and Sender of a message, walked.
-/
namespace Go.Ab
set_option maxRecDepth 20000
variable {st s : St} {e : Env} {m : MD} {av u : PV}

end Go.Ab
/-
  What must come of fixed calls; the law RulesOrder.
-/
namespace Go.Ab
set_option maxRecDepth 20000
variable {st s : St} {e : Env} {m : MD} {av u : PV}

abbrev md0 : MD := ⟨[], [], 0, 0, 0, [], [], 0, 0, [], []⟩
theorem At.stM {S : St} {b : Nat} {m m' : MD} {av av' : PV} (h : At S b (mC m' av')) (hl : leafOk av = true) (hb : av.inB (b + 1) = true) : ∃ S', storePV S 11 (.ptr b 0) (mV m av) = some S' ∧ Wrote S S' b (mC m av) := by
  refine ⟨_, ?_, wrote_set (ds := mC m av) (lo := if hasTok (mC m av) then min S.low b else S.low) h (by split <;> simp)⟩
  unfold At at h
  have l1 : ∀ x, leafOk (.str x) = true := fun _ => rfl
  have l2 : ∀ k n, leafOk (.int k n) = true := fun _ _ => rfl
  simp [storePV, h, mV, mC, PV.cells, setCells, PV.inB, PV.inB.inBAll, l1, l2, hl, hb]; rfl
theorem At.ldM {S : St} {b : Nat} (h : At S b (mC m av)) : loadPV S true 11 (.ptr b 0) = some (mV m av) := by
  unfold At at h; simp [loadPV, h, readCells, mV, mC]
theorem At.stMe {S : St} {b : Nat} {x : Bs} (h : At S b (mC m av)) : ∃ S', storePV S 1 (.ptr b 0) (.str x) = some S' ∧ Wrote S S' b (mC { m with me := x } av) := by
  obtain ⟨S', h1, h2⟩ := h.st1 (off := 0) (v := .str x) ⟨rfl, rfl⟩ rfl (by simp [mC])
  exact ⟨S', h1, h2⟩
theorem At.stAt {S : St} {b : Nat} (h : At S b (mC m av)) : ∃ S', storePV S 1 (.ptr b 6) .nils = some S' ∧ Wrote S S' b (mC { m with att := [] } .nils) := by
  obtain ⟨S', h1, h2⟩ := h.st1 (off := 6) (v := .nils) ⟨rfl, rfl⟩ rfl (by simp [mC])
  exact ⟨S', h1, h2⟩
theorem leave_msg {S : St} {pv : PV} {xs : List PV} (hk : Kept st S) (h : Own st S 2 pv xs) (hne : xs = [] → pv = .nils) : leave st S (.agg (mC m pv)) = (mV m (newSl st 2 xs), newS st xs.isEmpty) := by
  have e1 := hk.bx; have e2 := hk.lp; have e3 := hk.tk
  rcases h with ⟨rfl, rfl⟩ | ⟨i, rfl, h2, h3⟩
  · simp [leave, mV, mC, PV.inB, PV.inB.inBAll, hk.lw, keepRes, keepVals, keepVal, keepCells, keepLeaf, newSl, newS, e1, e2, e3]
  · by_cases hx : xs = []
    · have := hne hx; cases this
    · simp [leave, mV, mC, PV.inB, PV.inB.inBAll, hk.lw, keepRes, keepVals, keepVal, keepCells, keepLeaf, keepTok, newSl, newS, hx, h3, show ¬ i < st.toks.length by omega, e1, e2, e3, St.tok1]

def methL : List Bs := [sADD, sCAN, sCOU, sDEC, sPUB, sREF, sREP, sREQ]
theorem Methods_spec : call prog (.fn 176 []) [] st = some (.sl 1 (.own st.toks.length) (methL.map .str), st.tok1) := by
  refine call_of_W prog_176 ?_
  unfold F_rules_Methods; dsimp only
  have hl : litFill 1 (List.replicate 8 (.str [])) [(0, .str [65, 68, 68]), (1, .str [67, 65, 78, 67, 69, 76]), (2, .str [67, 79, 85, 78, 84, 69, 82]), (3, .str [68, 69, 67, 76, 73, 78, 69, 67, 79, 85, 78, 84, 69, 82]), (4, .str [80, 85, 66, 76, 73, 83, 72]), (5, .str [82, 69, 70, 82, 69, 83, 72]), (6, .str [82, 69, 80, 76, 89]), (7, .str [82, 69, 81, 85, 69, 83, 84])] = some (methL.map .str) := rfl
  simp (maxSteps := 1000000) (disch := omega) only [hl, freshT_eq, qaaz, qabz, qacz, qadz, qaez, qafz, qagz, qahz, qaiz, qajz, qakz, qalz, qamz, qanz, evOp, qaoz, qapz, qaqz, qarz, qasz, qatz, qauz, qavz,
 ↓reduceIte, Nat.reduceEqDiff, List.nil_append, List.cons_append, List.append_nil, List.map_cons, List.map_nil, qawz, qaxz, qayz, Option.map_some, Option.map_none, qazz, qbaz, qbbz, qbcz, qbdz, qbez, qbfz, qbgz, qbhz, qbiz, qbjz, qbkz, qblz, qbmz, qbnz, qboz,
 qbpz, qbqz, qbrz, qbsz, qbtz, qbuz, qbvz, qbwz, qbxz, qbyz, qbzz, qcaz, qcbz, qccz, qcdz, qcez, qcfz, qcgz, qchz, qciz, beq_true, beq_false, Bool.not_eq_true', decide_eq_true_eq, decide_eq_false_iff_not, decide_true, decide_false,
 Int.toNat_natCast, Int.ofNat_lt, Int.ofNat_le, Int.natCast_inj, Bool.false_eq_true, Bool.true_eq_false, qcjz, List.getElem?_cons_zero, List.getElem?_cons_succ, qckz, Int.reduceToNat, Int.reduceLE, true_and, and_true, reduceCtorEq, or_false, false_or, or_true, Option.some.injEq, exists_eq_left', Bool.not_true, Bool.not_false, ne_eq, Int.reduceEq, not_true_eq_false, not_false_eq_true, Int.reduceLT, UInt8.reduceLT, UInt8.reduceLE, UInt8.reduceToNat]
  refine ⟨.sl 1 (.own st.toks.length) (methL.map .str), by simp [resOf, rvAll, rv1, qavz, notTup, packRes], ?_⟩
  have hk := (Kept.start (st := st)).tok1
  have := hk.leaveOwn1 (esz := 1) (v := .sl 1 (.own st.toks.length) (methL.map .str)) (xs := methL.map .str) (.inr ⟨_, rfl, Nat.le_refl _, by simp [St.tok1]⟩) (fun h => by simp [methL] at h)
  rw [this]; rfl

def alM : MD := ⟨sREQ, [117], 0, 0, -1, [111, 64, 120], [([97, 64, 120], sNEE)], 0, 60, [115], []⟩
theorem Message_spec : ∃ pv, call prog (.fn 192 []) [] st = some (mV alM pv, st.tok1) ∧ pv.vs 2 = some (alM.att.map pV) ∧ leafOk pv = true ∧ ∀ n, pv.inB n = true := by
  refine ⟨.sl 2 (.own st.toks.length) (alM.att.map pV), ?_, by simp [PV.vs], rfl, fun _ => rfl⟩
  refine call_of_W prog_192 ?_
  unfold F_posthornlaw13_Message; dsimp only
  generalize hQ1 : endQ st _ _ = Q0
  obtain ⟨b, hb⟩ : ∃ b, b = st.boxes.length := ⟨_, rfl⟩
  refine W_cut (fun E S => Kept st S ∧ At S b (mC md0 .nils) ∧ E 0 = .ptr b 0) ?_ ?_
  · simp (maxSteps := 1000000) (disch := omega) only [allocPV, ← hb, qaaz, qabz, qacz, qadz, qaez, qafz, qagz, qahz, qaiz, qajz, qakz, qalz, qamz, qanz, evOp, qaoz, qapz, qaqz, qarz, qasz, qatz, qauz, qavz,
 ↓reduceIte, Nat.reduceEqDiff, List.nil_append, List.cons_append, List.append_nil, List.map_cons, List.map_nil, qawz, qaxz, qayz, Option.map_some, Option.map_none, qazz, qbaz, qbbz, qbcz, qbdz, qbez, qbfz, qbgz, qbhz, qbiz, qbjz, qbkz, qblz, qbmz, qbnz, qboz,
 qbpz, qbqz, qbrz, qbsz, qbtz, qbuz, qbvz, qbwz, qbxz, qbyz, qbzz, qcaz, qcbz, qccz, qcdz, qcez, qcfz, qcgz, qchz, qciz, beq_true, beq_false, Bool.not_eq_true', decide_eq_true_eq, decide_eq_false_iff_not, decide_true, decide_false,
 Int.toNat_natCast, Int.ofNat_lt, Int.ofNat_le, Int.natCast_inj, Bool.false_eq_true, Bool.true_eq_false, qcjz, List.getElem?_cons_zero, List.getElem?_cons_succ, qckz, Int.reduceToNat, Int.reduceLE, true_and, and_true, reduceCtorEq, or_false, false_or, or_true, Option.some.injEq, exists_eq_left', Bool.not_true, Bool.not_false, ne_eq, Int.reduceEq, not_true_eq_false, not_false_eq_true, Int.reduceLT, UInt8.reduceLT, UInt8.reduceLE, UInt8.reduceToNat]
    have h1 := Kept.box1 (st := st) (z := mC md0 .nils)
    have h2 := At.last (s := st) (z := mC md0 .nils) (T := st.toks) (Lp := st.loops) (lo := st.boxes.length)
    rw [← hb] at h1 h2
    exact ⟨h1, h2⟩
  rintro e S ⟨hk, hA, h0⟩
  have hp : buildCells [.str [], .str []] [(0, 1, .str [97, 64, 120]), (1, 1, .str [78, 69, 69, 68, 83, 45, 65, 67, 84, 73, 79, 78])] = some [.str [97, 64, 120], .str sNEE] := rfl
  have hl : litFill 2 (List.replicate 1 (.agg [.str [], .str []])) [(0, .agg [.str [97, 64, 120], .str sNEE])] = some (alM.att.map pV) := rfl
  have hm : buildCells [.str [], .str [], .int .i64 0, .int .i64 0, .int .i64 0, .str [], .nils, .int .i64 0, .int .i64 0, .str [], .str []] [(0, 1, .str [82, 69, 81, 85, 69, 83, 84]), (1, 1, .str [117]), (4, 1, .int .i64 (-1)), (5, 1, .str [111, 64, 120]), (6, 1, .sl 2 (.own S.toks.length) (alM.att.map pV)), (7, 1, .int .i64 0), (8, 1, .int .i64 60), (9, 1, .str [115])] = some (mC alM (.sl 2 (.own S.toks.length) (alM.att.map pV))) := rfl
  obtain ⟨S', a1, w1⟩ := At.stM (S := S.tok1) (m := alM) (m' := md0) (av := .sl 2 (.own S.toks.length) (alM.att.map pV)) (av' := .nils) hA rfl rfl
  rw [mV] at a1
  simp (maxSteps := 1000000) (disch := omega) only [h0, hp, hl, freshT_eq, hm, a1, qaaz, qabz, qacz, qadz, qaez, qafz, qagz, qahz, qaiz, qajz, qakz, qalz, qamz, qanz, evOp, qaoz, qapz, qaqz, qarz, qasz, qatz, qauz, qavz,
 ↓reduceIte, Nat.reduceEqDiff, List.nil_append, List.cons_append, List.append_nil, List.map_cons, List.map_nil, qawz, qaxz, qayz, Option.map_some, Option.map_none, qazz, qbaz, qbbz, qbcz, qbdz, qbez, qbfz, qbgz, qbhz, qbiz, qbjz, qbkz, qblz, qbmz, qbnz, qboz,
 qbpz, qbqz, qbrz, qbsz, qbtz, qbuz, qbvz, qbwz, qbxz, qbyz, qbzz, qcaz, qcbz, qccz, qcdz, qcez, qcfz, qcgz, qchz, qciz, beq_true, beq_false, Bool.not_eq_true', decide_eq_true_eq, decide_eq_false_iff_not, decide_true, decide_false,
 Int.toNat_natCast, Int.ofNat_lt, Int.ofNat_le, Int.natCast_inj, Bool.false_eq_true, Bool.true_eq_false, qcjz, List.getElem?_cons_zero, List.getElem?_cons_succ, qckz, Int.reduceToNat, Int.reduceLE, true_and, and_true, reduceCtorEq, or_false, false_or, or_true, Option.some.injEq, exists_eq_left', Bool.not_true, Bool.not_false, ne_eq, Int.reduceEq, not_true_eq_false, not_false_eq_true, Int.reduceLT, UInt8.reduceLT, UInt8.reduceLE, UInt8.reduceToNat]
  rw [← hQ1, qblz]
  have hk' := w1.kp st hk.tok1 (by omega)
  refine ⟨.agg (mC alM (.sl 2 (.own S.toks.length) (alM.att.map pV))), ?_, ?_⟩
  · have := w1.at_.ldM
    simp only [resOf, rvAll, rv1, qavz, h0, Nat.reduceEqDiff, if_false, this]
    rfl
  · have := leave_msg (m := alM) hk' (pv := .sl 2 (.own S.toks.length) (alM.att.map pV)) (xs := alM.att.map pV) (.inr ⟨_, rfl, hk.tl, by rw [w1.tk]; simp [St.tok1]⟩) (fun h => by simp [alM] at h)
    rw [this]; rfl

theorem al_send : senderM alM = ([111, 64, 120], 0) := by decide +kernel
theorem al_check : checkM { { alM with me := sREP } with att := [] } = 131 := by decide +kernel
theorem al_ok : okMD alM := ⟨by decide, by decide, by decide, by decide, by decide, by decide, by decide⟩
theorem al_ok2 : okMD { { alM with me := sREP } with att := [] } := ⟨by decide, by decide, by decide, by decide, by decide, by decide, by decide⟩

set_option maxHeartbeats 4000000 in
theorem alive14_spec : call prog (.fn 175 []) [] st = some (.bool true, st) := by
  refine call_of_W prog_175 ?_
  unfold F_posthornlaw14_alive; dsimp only
  generalize hQ1 : endQ st _ _ = Q0
  have fin : ∀ (E : Env) (S : St), Kept st S → E 0 = .bool true → Q0 .ret E S := fun E S k h => by
    rw [← hQ1, qblz]; exact retB h k rfl
  refine W_cut (fun E S => Kept st S) ?_ ?_
  · simp (maxSteps := 1000000) (disch := omega) only [qaaz, qabz, qacz, qadz, qaez, qafz, qagz, qahz, qaiz, qajz, qakz, qalz, qamz, qanz, evOp, qaoz, qapz, qaqz, qarz, qasz, qatz, qauz, qavz,
 ↓reduceIte, Nat.reduceEqDiff, List.nil_append, List.cons_append, List.append_nil, List.map_cons, List.map_nil, qawz, qaxz, qayz, Option.map_some, Option.map_none, qazz, qbaz, qbbz, qbcz, qbdz, qbez, qbfz, qbgz, qbhz, qbiz, qbjz, qbkz, qblz, qbmz, qbnz, qboz,
 qbpz, qbqz, qbrz, qbsz, qbtz, qbuz, qbvz, qbwz, qbxz, qbyz, qbzz, qcaz, qcbz, qccz, qcdz, qcez, qcfz, qcgz, qchz, qciz, beq_true, beq_false, Bool.not_eq_true', decide_eq_true_eq, decide_eq_false_iff_not, decide_true, decide_false,
 Int.toNat_natCast, Int.ofNat_lt, Int.ofNat_le, Int.natCast_inj, Bool.false_eq_true, Bool.true_eq_false, qcjz, List.getElem?_cons_zero, List.getElem?_cons_succ, qckz, Int.reduceToNat, Int.reduceLE, true_and, and_true, reduceCtorEq, or_false, false_or, or_true, Option.some.injEq, exists_eq_left', Bool.not_true, Bool.not_false, ne_eq, Int.reduceEq, not_true_eq_false, not_false_eq_true, Int.reduceLT, UInt8.reduceLT, UInt8.reduceLE, UInt8.reduceToNat]
    exact Kept.start
  rintro e S hk
  obtain ⟨b, hb⟩ : ∃ b, b = S.boxes.length := ⟨_, rfl⟩
  have hle : st.boxes.length ≤ b := by have := hk.bl; omega
  refine W_cut (fun E S => ∃ pv, Kept st S ∧ At S b (mC alM pv) ∧ pv.vs 2 = some (alM.att.map pV) ∧ E 1 = .ptr b 0) ?_ ?_
  · obtain ⟨pv, c1, c2, c3, c4⟩ := Message_spec (st := S)
    have hA := At.last (s := S.tok1) (z := mC md0 .nils) (T := S.tok1.toks) (Lp := S.tok1.loops) (lo := S.tok1.low)
    have hb' : S.tok1.boxes.length = b := hb.symm
    rw [hb'] at hA
    obtain ⟨S', a1, w1⟩ := hA.stM (m := alM) (av := pv) c3 (c4 _)
    have a1' : storePV ⟨S.tok1.boxes ++ [[.str [], .str [], .int .i64 0, .int .i64 0, .int .i64 0, .str [], .nils, .int .i64 0, .int .i64 0, .str [], .str []]], S.tok1.toks, S.tok1.loops, S.tok1.low⟩ 11 (.ptr b 0) (mV alM pv) = some S' := a1
    simp (maxSteps := 1000000) (disch := omega) only [c1, allocPV, hb', a1', qaaz, qabz, qacz, qadz, qaez, qafz, qagz, qahz, qaiz, qajz, qakz, qalz, qamz, qanz, evOp, qaoz, qapz, qaqz, qarz, qasz, qatz, qauz, qavz,
 ↓reduceIte, Nat.reduceEqDiff, List.nil_append, List.cons_append, List.append_nil, List.map_cons, List.map_nil, qawz, qaxz, qayz, Option.map_some, Option.map_none, qazz, qbaz, qbbz, qbcz, qbdz, qbez, qbfz, qbgz, qbhz, qbiz, qbjz, qbkz, qblz, qbmz, qbnz, qboz,
 qbpz, qbqz, qbrz, qbsz, qbtz, qbuz, qbvz, qbwz, qbxz, qbyz, qbzz, qcaz, qcbz, qccz, qcdz, qcez, qcfz, qcgz, qchz, qciz, beq_true, beq_false, Bool.not_eq_true', decide_eq_true_eq, decide_eq_false_iff_not, decide_true, decide_false,
 Int.toNat_natCast, Int.ofNat_lt, Int.ofNat_le, Int.natCast_inj, Bool.false_eq_true, Bool.true_eq_false, qcjz, List.getElem?_cons_zero, List.getElem?_cons_succ, qckz, Int.reduceToNat, Int.reduceLE, true_and, and_true, reduceCtorEq, or_false, false_or, or_true, Option.some.injEq, exists_eq_left', Bool.not_true, Bool.not_false, ne_eq, Int.reduceEq, not_true_eq_false, not_false_eq_true, Int.reduceLT, UInt8.reduceLT, UInt8.reduceLE, UInt8.reduceToNat]
    exact ⟨pv, w1.kp st hk.tok1.alloc' hle, w1.at_, c2⟩
  clear hb hk
  rintro e S ⟨pv, hk, hA, hv, h1⟩
  have hS := fun S : St => Sender_spec (st := S) hv al_ok
  rw [al_send] at hS
  refine W_cut (fun E S => Kept st S ∧ At S b (mC alM pv) ∧ E 1 = .ptr b 0 ∧ E 2 = .str [111, 64, 120] ∧ E 3 = .int .i64 0) ?_ ?_
  · simp (maxSteps := 1000000) (disch := omega) only [h1, hA.ldM, hS, qaaz, qabz, qacz, qadz, qaez, qafz, qagz, qahz, qaiz, qajz, qakz, qalz, qamz, qanz, evOp, qaoz, qapz, qaqz, qarz, qasz, qatz, qauz, qavz,
 ↓reduceIte, Nat.reduceEqDiff, List.nil_append, List.cons_append, List.append_nil, List.map_cons, List.map_nil, qawz, qaxz, qayz, Option.map_some, Option.map_none, qazz, qbaz, qbbz, qbcz, qbdz, qbez, qbfz, qbgz, qbhz, qbiz, qbjz, qbkz, qblz, qbmz, qbnz, qboz,
 qbpz, qbqz, qbrz, qbsz, qbtz, qbuz, qbvz, qbwz, qbxz, qbyz, qbzz, qcaz, qcbz, qccz, qcdz, qcez, qcfz, qcgz, qchz, qciz, beq_true, beq_false, Bool.not_eq_true', decide_eq_true_eq, decide_eq_false_iff_not, decide_true, decide_false,
 Int.toNat_natCast, Int.ofNat_lt, Int.ofNat_le, Int.natCast_inj, Bool.false_eq_true, Bool.true_eq_false, qcjz, List.getElem?_cons_zero, List.getElem?_cons_succ, qckz, Int.reduceToNat, Int.reduceLE, true_and, and_true, reduceCtorEq, or_false, false_or, or_true, Option.some.injEq, exists_eq_left', Bool.not_true, Bool.not_false, ne_eq, Int.reduceEq, not_true_eq_false, not_false_eq_true, Int.reduceLT, UInt8.reduceLT, UInt8.reduceLE, UInt8.reduceToNat]
    exact ⟨hk, hA⟩
  clear hk hA h1 hS
  rintro e S ⟨hk, hA, h1, h2, h3⟩
  refine W_cut (fun E S => Kept st S ∧ At S b (mC { { alM with me := sREP } with att := [] } .nils) ∧ E 1 = .ptr b 0 ∧ E 2 = .str [111, 64, 120] ∧ E 3 = .int .i64 0) ?_ ?_
  · obtain ⟨S1, a1, w1⟩ := hA.stMe (x := sREP)
    obtain ⟨S2, a2, w2⟩ := w1.at_.stAt
    simp (maxSteps := 1000000) (disch := omega) only [h1, h2, h3, faP, Nat.zero_add, a1, a2, qaaz, qabz, qacz, qadz, qaez, qafz, qagz, qahz, qaiz, qajz, qakz, qalz, qamz, qanz, evOp, qaoz, qapz, qaqz, qarz, qasz, qatz, qauz, qavz,
 ↓reduceIte, Nat.reduceEqDiff, List.nil_append, List.cons_append, List.append_nil, List.map_cons, List.map_nil, qawz, qaxz, qayz, Option.map_some, Option.map_none, qazz, qbaz, qbbz, qbcz, qbdz, qbez, qbfz, qbgz, qbhz, qbiz, qbjz, qbkz, qblz, qbmz, qbnz, qboz,
 qbpz, qbqz, qbrz, qbsz, qbtz, qbuz, qbvz, qbwz, qbxz, qbyz, qbzz, qcaz, qcbz, qccz, qcdz, qcez, qcfz, qcgz, qchz, qciz, beq_true, beq_false, Bool.not_eq_true', decide_eq_true_eq, decide_eq_false_iff_not, decide_true, decide_false,
 Int.toNat_natCast, Int.ofNat_lt, Int.ofNat_le, Int.natCast_inj, Bool.false_eq_true, Bool.true_eq_false, qcjz, List.getElem?_cons_zero, List.getElem?_cons_succ, qckz, Int.reduceToNat, Int.reduceLE, true_and, and_true, reduceCtorEq, or_false, false_or, or_true, Option.some.injEq, exists_eq_left', Bool.not_true, Bool.not_false, ne_eq, Int.reduceEq, not_true_eq_false, not_false_eq_true, Int.reduceLT, UInt8.reduceLT, UInt8.reduceLE, UInt8.reduceToNat]
    exact ⟨w2.kp st (w1.kp st hk hle) hle, w2.at_⟩
  clear hk hA h1 h2 h3
  rintro e S ⟨hk, hA, h1, h2, h3⟩
  have hC := fun S : St => Check_spec (st := S) (m := { { alM with me := sREP } with att := [] }) (av := .nils) (by simp [PV.vs]) al_ok2
  rw [al_check] at hC
  have hN : ∀ S : St, call prog (.fn 182 []) [.agg [.int .i64 1, .int .i64 0], .agg [.int .i64 0, .int .i64 9]] S = some (.bool true, S) := fun S => Newer_spec
  have hR : ∀ S : St, call prog (.fn 180 []) [.str [82, 69, 80, 76, 89]] S = some (.int .i64 2, S) := fun S => roleOf_spec
  have hb1 : buildCells [.int .i64 0, .int .i64 0] [(0, 1, .int .i64 1)] = some [.int .i64 1, .int .i64 0] := rfl
  have hb2 : buildCells [.int .i64 0, .int .i64 0] [(1, 1, .int .i64 9)] = some [.int .i64 0, .int .i64 9] := rfl
  have hlen : ∀ t, lenPV false (.sl 1 (.own t) (methL.map .str)) = some (.int .i64 8) := fun _ => rfl
  simp (maxSteps := 1000000) (disch := omega) only [h1, h2, h3, hA.ldM, hC, hN, hR, hb1, hb2, Methods_spec, hlen, qaaz, qabz, qacz, qadz, qaez, qafz, qagz, qahz, qaiz, qajz, qakz, qalz, qamz, qanz, evOp, qaoz, qapz, qaqz, qarz, qasz, qatz, qauz, qavz,
 ↓reduceIte, Nat.reduceEqDiff, List.nil_append, List.cons_append, List.append_nil, List.map_cons, List.map_nil, qawz, qaxz, qayz, Option.map_some, Option.map_none, qazz, qbaz, qbbz, qbcz, qbdz, qbez, qbfz, qbgz, qbhz, qbiz, qbjz, qbkz, qblz, qbmz, qbnz, qboz,
 qbpz, qbqz, qbrz, qbsz, qbtz, qbuz, qbvz, qbwz, qbxz, qbyz, qbzz, qcaz, qcbz, qccz, qcdz, qcez, qcfz, qcgz, qchz, qciz, beq_true, beq_false, Bool.not_eq_true', decide_eq_true_eq, decide_eq_false_iff_not, decide_true, decide_false,
 Int.toNat_natCast, Int.ofNat_lt, Int.ofNat_le, Int.natCast_inj, Bool.false_eq_true, Bool.true_eq_false, qcjz, List.getElem?_cons_zero, List.getElem?_cons_succ, qckz, Int.reduceToNat, Int.reduceLE, true_and, and_true, reduceCtorEq, or_false, false_or, or_true, Option.some.injEq, exists_eq_left', Bool.not_true, Bool.not_false, ne_eq, Int.reduceEq, not_true_eq_false, not_false_eq_true, Int.reduceLT, UInt8.reduceLT, UInt8.reduceLE, UInt8.reduceToNat]
  exact fin _ _ hk.tok1 rfl

theorem newer_one {a b c d : Int} : (newerB a b c d && newerB c d a b) = false ∧ (newerB a b c d || newerB c d a b) = !(decide (a = c) && decide (b = d)) ∧ newerB a b a b = false := by
  unfold newerB
  refine ⟨?_, ?_, ?_⟩
  · rw [Bool.and_eq_false_iff]
    by_cases h : (decide (c < a) || decide (a = c) && decide (d < b)) = true
    · refine .inr ?_
      simp at h ⊢; omega
    · exact .inl (by simpa using h)
  · rw [Bool.eq_iff_iff]
    simp; omega
  · simp
theorem newer_trans {a b c d f g : Int} (h1 : newerB a b c d = true) (h2 : newerB c d f g = true) : newerB a b f g = true := by
  simp [newerB] at *; omega

set_option maxHeartbeats 4000000 in
theorem law_RulesOrder {a b c d f g : Int} : ∃ s', call prog (.fn 183 []) [mkV a b, mkV c d, mkV f g] ⟨[], [], [], 0⟩ = some (.bool true, s') := by
  refine law_of_W prog_183 rfl ?_
  unfold F_posthornlaw14_RulesOrder; dsimp only
  have halv := fun S : St => alive14_spec (st := S)
  have n1 : ∀ S : St, call prog (.fn 182 []) [.agg [.int .i64 a, .int .i64 b], .agg [.int .i64 c, .int .i64 d]] S = some (.bool (newerB a b c d), S) := fun S => Newer_spec
  have n2 : ∀ S : St, call prog (.fn 182 []) [.agg [.int .i64 c, .int .i64 d], .agg [.int .i64 a, .int .i64 b]] S = some (.bool (newerB c d a b), S) := fun S => Newer_spec
  have n3 : ∀ S : St, call prog (.fn 182 []) [.agg [.int .i64 a, .int .i64 b], .agg [.int .i64 a, .int .i64 b]] S = some (.bool (newerB a b a b), S) := fun S => Newer_spec
  have n4 : ∀ S : St, call prog (.fn 182 []) [.agg [.int .i64 c, .int .i64 d], .agg [.int .i64 f, .int .i64 g]] S = some (.bool (newerB c d f g), S) := fun S => Newer_spec
  have n5 : ∀ S : St, call prog (.fn 182 []) [.agg [.int .i64 a, .int .i64 b], .agg [.int .i64 f, .int .i64 g]] S = some (.bool (newerB a b f g), S) := fun S => Newer_spec
  obtain ⟨o1, o2, o3⟩ := newer_one (a := a) (b := b) (c := c) (d := d)
  have o4 := newer_trans (a := a) (b := b) (c := c) (d := d) (f := f) (g := g)
  have hne : binPV .neq (.struct [.i, .i]) (.agg [.int .i64 a, .int .i64 b]) (.agg [.int .i64 c, .int .i64 d]) = some (.bool (newerB a b c d || newerB c d a b)) := by rw [o2]; exact neq_mk
  obtain ⟨x, hx⟩ : ∃ x, x = newerB a b c d := ⟨_, rfl⟩
  obtain ⟨y, hy⟩ : ∃ y, y = newerB c d a b := ⟨_, rfl⟩
  obtain ⟨z, hz⟩ : ∃ z, z = newerB c d f g := ⟨_, rfl⟩
  obtain ⟨w, hw⟩ : ∃ w, w = newerB a b f g := ⟨_, rfl⟩
  rw [o3] at n3
  simp only [← hx, ← hy, ← hz, ← hw] at n1 n2 n4 n5 o1 o4 hne
  clear hx hy hz hw o2 o3
  cases x <;> cases y <;> cases z <;> cases w <;> (first | (exfalso; revert o1 o4; decide) | skip) <;> simp (maxSteps := 1000000) (disch := omega) only [mkV, strip_mk, cells_agg, lc_mk, n1, n2, n3, n4, n5, hne, halv, Bool.or_self, Bool.or_true, Bool.true_or, Bool.or_false, Bool.false_or, qaaz, qabz, qacz, qadz, qaez, qafz, qagz, qahz, qaiz, qajz, qakz, qalz, qamz, qanz, evOp, qaoz, qapz, qaqz, qarz, qasz, qatz, qauz, qavz,
 ↓reduceIte, Nat.reduceEqDiff, List.nil_append, List.cons_append, List.append_nil, List.map_cons, List.map_nil, qawz, qaxz, qayz, Option.map_some, Option.map_none, qazz, qbaz, qbbz, qbcz, qbdz, qbez, qbfz, qbgz, qbhz, qbiz, qbjz, qbkz, qblz, qbmz, qbnz, qboz,
 qbpz, qbqz, qbrz, qbsz, qbtz, qbuz, qbvz, qbwz, qbxz, qbyz, qbzz, qcaz, qcbz, qccz, qcdz, qcez, qcfz, qcgz, qchz, qciz, beq_true, beq_false, Bool.not_eq_true', decide_eq_true_eq, decide_eq_false_iff_not, decide_true, decide_false,
 Int.toNat_natCast, Int.ofNat_lt, Int.ofNat_le, Int.natCast_inj, Bool.false_eq_true, Bool.true_eq_false, qcjz, List.getElem?_cons_zero, List.getElem?_cons_succ, qckz, Int.reduceToNat, Int.reduceLE, true_and, and_true, reduceCtorEq, or_false, false_or, or_true, Option.some.injEq, exists_eq_left', Bool.not_true, Bool.not_false, ne_eq, Int.reduceEq, not_true_eq_false, not_false_eq_true, Int.reduceLT, UInt8.reduceLT, UInt8.reduceLE, UInt8.reduceToNat]
end Go.Ab
/-
  The laws RulesRows, RulesSender, RulesOthers, RulesChecks, RulesSends.
-/
namespace Go.Ab
set_option maxRecDepth 20000
variable {st s : St} {e : Env} {m : MD} {av u : PV}

structure CheckOk (m : MD) : Prop where
  right : rightM m = true
  role : ¬ roleOf m.me = 0
  org : ¬ m.org = []
  lo : (needOf m.me).lo ≤ (m.att.length : Int)
  hi : (m.att.length : Int) ≤ (needOf m.me).hi
  part : ¬ partB m = true
  miss : ¬ (((needOf m.me).re = true ∧ m.recur < 0) ∨ ((needOf m.me).st = true ∧ m.sta < 0))
  more : ¬ ((needOf m.me).ti = true ∧ 0 ≤ m.sta)
end Go.Ab
/-
  Messages and marks that come as arguments.
-/
namespace Go.Ab
set_option maxRecDepth 20000

def isI64 (P : Program) (t : TypeId) : Bool := match P.underlying t with
  | some (.int .i64) => true
  | _ => false
theorem isI64_eq {P : Program} {t : TypeId} (h : isI64 P t = true) : P.underlying t = some (.int .i64) := by
  unfold isI64 at h
  split at h
  · rename_i h'; exact h'
  · cases h
def markT (P : Program) (t : TypeId) : Bool := match fieldsT P t with
  | some fs => match fs.toList with
    | [f0, f1] => isI64 P f0.type && isI64 P f1.type
    | _ => false
  | none => false
theorem HasTy.mark {P : Program} {t : TypeId} {q : PV} (h : HasTy P t q) (hs0 : markT P t = true) : ∃ a b : Int, q = mkV a b := by
  unfold markT fieldsT at hs0
  obtain ⟨fs, ht⟩ : ∃ fs, P.underlying t = some (.struct fs) := by
    cases ht : P.underlying t with
    | none => simp [ht] at hs0
    | some d => cases d <;> first | exact ⟨_, rfl⟩ | (simp [ht] at hs0; done)
  simp only [ht] at hs0
  obtain ⟨fl⟩ := fs
  match fl, hs0, ht with
  | [f0, f1], hs0, ht =>
    simp only [Bool.and_eq_true] at hs0
    obtain ⟨s0, s1⟩ := hs0
    cases h with
    | agg xs ht' hl hx =>
      rw [ht] at ht'; cases ht'
      match xs, hl, hx with
      | [x0, x1], _, hx =>
        obtain ⟨a0, rfl, -⟩ := HasTy.int' (hx 0 f0 x0 rfl rfl) (isI64_eq s0) (by decide)
        obtain ⟨a1, rfl, -⟩ := HasTy.int' (hx 1 f1 x1 rfl rfl) (isI64_eq s1) (by decide)
        exact ⟨a0, a1, rfl⟩
    | bool _ ht' => rw [ht] at ht'; cases ht'
    | int _ ht' => rw [ht] at ht'; cases ht'
    | u8 _ ht' => rw [ht] at ht'; cases ht'
    | str _ ht' => rw [ht] at ht'; cases ht'
    | nils ht' => rw [ht] at ht'; cases ht'
    | bys _ ht' => rw [ht] at ht'; cases ht'
    | sl _ ht' => rw [ht] at ht'; cases ht'
end Go.Ab
/-
  The laws of rules with arguments as they come.
-/
namespace Go.Ab
variable {P : Program} {t el : TypeId} {q q' : PV} {x : Bs}

theorem arg_RulesOrder {q1 q2 q3 : PV} (h1 : HasTy P t q1) (h2 : HasTy P t q2) (h3 : HasTy P t q3) (hs : markT P t = true) : ∃ s', call prog (.fn 183 []) [q1, q2, q3] ⟨[], [], [], 0⟩ = some (.bool true, s') := by
  obtain ⟨a, b, rfl⟩ := HasTy.mark h1 hs
  obtain ⟨c, d, rfl⟩ := HasTy.mark h2 hs
  obtain ⟨f, g, rfl⟩ := HasTy.mark h3 hs
  exact law_RulesOrder
end Go.Ab
/-
  The library's searches as primitives, out of the shelf's contracts.
-/
namespace Go.Ab
open Go.Shelf Go.Proofs
variable {P : Program} {g : GMap} {ρ : Go.Shelf.Ren}

end Go.Ab
/-
  A Builder's text: the walk of the library's function, its end said whole (after the shelf's own proof).
-/
namespace Go.Proofs
open Go.Shelf Go.RowKit
variable {P : Program} {ρ : Ren}

structure CCLay (P : Program) (ρ : Ren) : Prop where
  mixed : P.follows .mixedOrders = true
  f240 : P.funcs[ρ.f 240]? = some (Body.n240 ρ)
  f276 : P.funcs[ρ.f 276]? = some (Body.n276 ρ)
  t4 : P.underlying (ρ.t 4) = some (TypeDesc.bool)
  a4 : ∀ w, (isAgg (ρ.t 4)).run P w = .ok false w
  z4 : ∀ w, (Go.sizeOf (ρ.t 4)).run P w = .ok 1 w
  v4 : ∀ w, (zeroValue (ρ.t 4)).run P w = .ok (Value.bool false) w
  t70 : P.underlying (ρ.t 70) = some (TypeDesc.pointer (ρ.t 72))
  a70 : ∀ w, (isAgg (ρ.t 70)).run P w = .ok false w
  z70 : ∀ w, (Go.sizeOf (ρ.t 70)).run P w = .ok 1 w
  v70 : ∀ w, (zeroValue (ρ.t 70)).run P w = .ok (Value.pointer none) w
  t72 : P.underlying (ρ.t 72) = some (TypeDesc.struct #[{ name := "addr", type := ρ.t 70, offset := 0, embedded := false, tag := "", pkgPath := "strings", byteOffset := 0 }, { name := "buf", type := ρ.t 37, offset := 1, embedded := false, tag := "", pkgPath := "strings", byteOffset := 8 }])
  a72 : ∀ w, (isAgg (ρ.t 72)).run P w = .ok true w
  z72 : ∀ w, (Go.sizeOf (ρ.t 72)).run P w = .ok 2 w
  v72 : ∀ w, (zeroValue (ρ.t 72)).run P w = .ok (Value.agg #[Value.pointer none, Value.slice none 0 0]) w
  t164 : P.underlying (ρ.t 164) = some (TypeDesc.unsafePointer)
  a164 : ∀ w, (isAgg (ρ.t 164)).run P w = .ok false w
  z164 : ∀ w, (Go.sizeOf (ρ.t 164)).run P w = .ok 1 w
  v164 : ∀ w, (zeroValue (ρ.t 164)).run P w = .ok (Value.pointer none) w

end Go.Proofs
/-
  The library's functions on texts as primitives, out of the shelf's contracts.
-/
namespace Go.Ab
open Go.Shelf Go.Proofs
variable {P : Program} {g : GMap} {ρ : Go.Shelf.Ren}

theorem primStrIndex (L : Lays.n219 P ρ) (hm : ∀ κ, g.inv κ → ∃ m, κ.C (ρ.g 1) 0 = some (.int .i64 m)) {pf : Func} (hpf : P.funcs[ρ.f 219]? = some pf) (hb : pf.body.isSome = true) (hn : pf.name ≠ "runtime.NumGoroutine") : PrimOK P g (ρ.f 219) pStrIndex := by
  refine prim_of_calls hpf hb hn (fun κ w args ps v hi hC hsz hargs hp => ?_)
  obtain ⟨m, hm⟩ := hm κ hi
  have hmc := hC _ _ _ hm
  unfold pStrIndex at hp
  split at hp
  · rename_i a b
    split at hp
    · rename_i hlen
      cases hp
      obtain ⟨u1, u2, rfl⟩ : ∃ u1 u2, args = #[u1, u2] := by
        obtain ⟨l⟩ := args
        match l, hsz with
        | [u1, u2], _ => exact ⟨u1, u2, rfl⟩
      have r1 := hargs 0 u1 _ rfl rfl
      have r2 := hargs 1 u2 _ rfl rfl
      cases r1 with | str sa _ ha => cases r2 with | str sb _ hb =>
      refine (Any.stringslite_Index L sa sb m w (by rw [← ha] at hlen; simpa using hlen) hmc).mono ?_
      rintro e w' ⟨rfl, rfl⟩
      exact ⟨_, rfl, fun κ' => by rw [ha, hb]; exact .int .i64 _ (by decide), rfl, rfl, rfl, rfl⟩
    · cases hp
  · cases hp

theorem primStrIndexByte (L : Lays.n137 P ρ) {pf : Func} (hpf : P.funcs[ρ.f 137]? = some pf) (hb : pf.body.isSome = true) (hn : pf.name ≠ "runtime.NumGoroutine") : PrimOK P g (ρ.f 137) pStrIndexByte := by
  refine prim_of_calls hpf hb hn (fun κ w args ps v hi hC hsz hargs hp => ?_)
  unfold pStrIndexByte at hp
  split at hp
  · rename_i a c
    cases hp
    obtain ⟨u1, u2, rfl⟩ : ∃ u1 u2, args = #[u1, u2] := by
      obtain ⟨l⟩ := args
      match l, hsz with
      | [u1, u2], _ => exact ⟨u1, u2, rfl⟩
    have r1 := hargs 0 u1 _ rfl rfl
    have r2 := hargs 1 u2 _ rfl rfl
    cases r1 with | str sa _ ha => cases r2 with | b8 _ n hn =>
    refine (Any.strings_IndexByte L sa n w).mono ?_
    rintro e w' ⟨rfl, rfl⟩
    refine ⟨_, rfl, fun κ' => ?_, rfl, rfl, rfl, rfl⟩
    have : n.toNat.toUInt8 = c := by rw [hn]; simp
    rw [ha, this]; exact .int .i64 _ (by decide)
  · cases hp

theorem SR.kill {base : Nat} {κ : K} {w w' : World} {st : St} (h : SR P g base κ w st) {i blk e ce : Nat} {rs : Array Value} {el : TypeId} {fz fz' : Nat × Nat} (hi : st.toks[i]? = some true) (hτ : κ.τ[i]? = some (blk, e, ce))
    (hw : w.heap[blk]? = some (.cells rs el fz)) (hw' : w'.heap = (setBlk w blk rs el fz').heap) : SR P g base κ w' { st with toks := st.toks.set i false } := by
  have hk := h.tk i blk e ce hi hτ
  suffices hs : SR P g base κ (setBlk w blk rs el fz') { st with toks := st.toks.set i false } from hs.heap hw'
  have hcell : ∀ b i, (setBlk w blk rs el fz').cell? ⟨b, i, none⟩ = w.cell? ⟨b, i, none⟩ := fun b i => by
    by_cases hb : b = blk
    · subst hb
      have hlt := (Array.getElem?_eq_some_iff.1 hw).1
      have h2 : (setBlk w b rs el fz').heap[b]? = some (.cells rs el fz') := by simp [setBlk, hlt]
      simp only [World.cell?]
      rw [h2, hw]
    · exact cell_setBlk_other hb
  have hobj : ∀ (k : Nat) (o : Obj), w.heap[k]? = some o → isCells o = false → (setBlk w blk rs el fz').heap[k]? = some o := fun k o ho hc => by
    rw [setBlk_other]
    · exact ho
    · rintro rfl; rw [hw] at ho; cases ho; simp [isCells] at hc
  have hset : ∀ j : Nat, (st.toks.set i false)[j]? = some true → st.toks[j]? = some true ∧ j ≠ i := fun j hj => by
    by_cases hji : j = i
    · subst hji
      rw [List.getElem?_set] at hj
      simp at hj
    · rw [List.getElem?_set_ne (fun h => hji h.symm)] at hj
      exact ⟨hj, hji⟩
  refine { cC := fun b i v hc => by rw [hcell]; exact h.cC b i v hc, sh := fun b t hb => (h.sh b t hb).imp fun n hn => (by rw [shape_setBlk hw rfl]; exact hn), bl := h.bl, bn := h.bn, mx := fun b k cs h1 h2 hm => (h.mx b k cs h1 h2 hm).setBlk hw, mz := h.mz, bx := fun b k cs h1 h2 hm => ?_, tl := by simp [h.tl], tk := fun j k e ce h1 h2 => ?_,
           td := fun a b ba ea ca bb eb cb h1 h2 h3 h4 h5 => h.td a b ba ea ca bb eb cb (hset a h1).1 (hset b h2).1 h3 h4 h5, ll := h.ll, ln := h.ln, lb := h.lb, lp := fun k l D r h1 h2 => (h.lp k l D r h1 h2).mono (K.le.refl _) hobj, hb := by simpa [setBlk] using h.hb, gv := h.gv }
  · have hx := h.bx b k cs h1 h2 hm
    have hne : k ≠ blk := by rintro rfl; exact hk.nb (List.mem_of_getElem? h2)
    obtain ⟨rs', hc, h3, h4⟩ := hx.ex
    exact ⟨hx.ge, hx.nc, ⟨rs', hc.congr (setBlk_other hne), h3, h4⟩, hx.lf, hx.lw, fun hm => by rw [← hx.sb hm]; exact shape_congr (setBlk_other hne)⟩
  · obtain ⟨q1, q2⟩ := hset j h1
    have hx := h.tk j k e ce q1 h2
    have hne : k ≠ blk := h.td j i k e ce blk _ _ q1 hi h2 hτ q2
    obtain ⟨rs', hc, h3⟩ := hx.ex
    exact ⟨hx.ge, hx.nb, hx.nc, ⟨rs', hc.congr (setBlk_other hne), h3⟩⟩

end Go.Ab
/-
  strings.Split as a primitive: a new row of texts.
-/
namespace Go.Ab
open Go.Shelf Go.Proofs
variable {P : Program} {g : GMap} {ρ : Go.Shelf.Ren} {base : Nat}

theorem prim_of_lays {f' : FuncId} {p : List PV → Option PV} {pf : Func} (hpf : P.funcs[f']? = some pf) (hb : pf.body.isSome = true) (hn : pf.name ≠ "runtime.NumGoroutine")
    (h : ∀ (κ : K) (w : World) (args : Array Value) (ps : List PV) (v : PV), g.inv κ → (∀ b i v, κ.C b i = some v → w.cell? ⟨b, i, none⟩ = some v) → args.size = ps.length → (∀ (i : Nat) (u : Value) (q : PV), args[i]? = some u → ps[i]? = some q → R g κ u q) → p ps = some v →
      ∃ (z : Value) (rs : Array Value) (el : TypeId), Calls P f' args w (fun e w' => e = .returned z ∧ w' = w.alloc (.cells rs el)) ∧ R g (κ.addC w.heap.size fun i => rs[i]?) z v) : PrimOK P g f' p := by
  intro base κ w st args ps v hsr hsz hargs hp F hF nn o a next Q hnext
  have hrun : (callFunc f' args).run P w = .ok (.enter f' args) w := by
    have hb2 : pf.body.isNone = false := by
      cases hbb : pf.body with
      | none => rw [hbb] at hb; cases hb
      | some c => rfl
    have hn2 : (pf.name == "runtime.NumGoroutine") = false := by simpa using hn
    unfold callFunc
    simp only [Sem.run_bind, Go.program, Sem.run, Result.andThen, hpf, hn2, hb2]
    rfl
  rw [hrun]
  refine ⟨hF.deep, callsIn_of_calls hF ?_⟩
  obtain ⟨z, rs, el, hc, hr⟩ := h κ w args ps v hsr.gv hsr.cC hsz hargs hp
  refine hc.mono ?_
  rintro e w' ⟨rfl, rfl⟩
  obtain ⟨hle, hs⟩ := hsr.addC (w' := w.alloc (.cells rs el)) rs el (0, 0) rfl
  exact hnext _ z _ hle rfl hs hr (Fr.push hsr.hb rfl rfl rfl rfl)

theorem occ_one {c : UInt8} {s : List UInt8} {j : Nat} : Lib.occAt s [c] j = true → s[j]? = some c := fun h => Lib.occAt_head rfl h
theorem index_one_cases (c : UInt8) (s : List UInt8) : (c ∉ s ∧ Lib.index s [c] = -1) ∨ ∃ n r, s = n ++ c :: r ∧ c ∉ n ∧ Lib.index s [c] = n.length := by
  rcases Lib.index_spec s [c] with ⟨h1, h2⟩ | ⟨i, h1, h2, h3, h4⟩
  · refine .inl ⟨fun hm => ?_, h1⟩
    obtain ⟨j, hj, e⟩ := List.mem_iff_getElem.1 hm
    have := h2 j (by omega)
    rw [Lib.occAt_iff_take _ _ _ (by simp; omega)] at this
    rw [List.drop_eq_getElem_cons hj] at this
    simp [e] at this
  · have hi := occ_one h3
    have hlt := (List.getElem?_eq_some_iff.1 hi).1
    have he := (List.getElem?_eq_some_iff.1 hi).2
    refine .inr ⟨s.take i, s.drop (i + 1), ?_, fun hm => ?_, ?_⟩
    · rw [← he, ← List.drop_eq_getElem_cons hlt, List.take_append_drop]
    · obtain ⟨j, hj, e⟩ := List.mem_iff_getElem.1 hm
      simp only [List.length_take] at hj
      simp only [List.getElem_take] at e
      have := h4 j (by omega)
      rw [Lib.occAt_iff_take _ _ _ (by simp; omega)] at this
      rw [List.drop_eq_getElem_cons (show j < s.length by omega)] at this
      simp [e] at this
    · rw [h1]; simp; omega
theorem splitOn_none {c : UInt8} : ∀ (n acc : List UInt8), c ∉ n → splitOn c acc n = [acc ++ n] := by
  intro n
  induction n with
  | nil => intro acc _; simp [splitOn]
  | cons d n ih =>
    intro acc h
    simp only [List.mem_cons, not_or] at h
    rw [splitOn, if_neg (fun e => h.1 e.symm), ih _ h.2]; simp
theorem splitOn_hit {c : UInt8} {r : List UInt8} : ∀ (n acc : List UInt8), c ∉ n → splitOn c acc (n ++ c :: r) = (acc ++ n) :: splitOn c [] r := by
  intro n
  induction n with
  | nil => intro acc _; simp [splitOn]
  | cons d n ih =>
    intro acc h
    simp only [List.mem_cons, not_or] at h
    rw [List.cons_append, splitOn, if_neg (fun e => h.1 e.symm), ih _ h.2]; simp
theorem splitK_on {c : UInt8} : ∀ (f : Nat) (s : List UInt8), s.length < f → Lib.splitK [c] 0 (Lib.countFrom [c] f s) s = splitOn c [] s := by
  intro f
  induction f with
  | zero => intro s h; omega
  | succ f ih =>
    intro s h
    rcases index_one_cases c s with ⟨h1, h2⟩ | ⟨n, r, h1, h2, h3⟩
    · rw [splitOn_none s [] h1]
      simp [Lib.countFrom, h2, Lib.splitK]
    · have hne : (Lib.index s [c] == -1) = false := by rw [h3, beq_eq_false_iff_ne]; omega
      have hd : s.drop (n.length + 1) = r := by rw [h1, ← List.drop_drop, List.drop_left]; rfl
      have ht : s.take n.length = n := by rw [h1, List.take_left]
      have hc : Lib.countFrom [c] (f + 1) s = Lib.countFrom [c] f r + 1 := by
        simp only [Lib.countFrom, hne]
        rw [h3]
        simp only [Int.toNat_natCast, List.length_singleton, hd]
        simp; omega
      have hl := congrArg List.length h1
      simp only [List.length_append, List.length_cons] at hl
      rw [hc, Lib.splitK, hne, h3]
      simp only [Int.toNat_natCast, List.length_singleton, Nat.add_zero, ht, hd]
      rw [ih r (by omega), h1, splitOn_hit n [] h2]
      simp
theorem primStrSplit (L : Lays.n146 P ρ) (hi9 : (P.info? (ρ.t 9)).map (fun i => (i.zero, i.size, i.bytes)) = some (some (.string ByteArray.empty), 1, 16)) (hm : ∀ κ, g.inv κ → ∃ m, κ.C (ρ.g 1) 0 = some (.int .i64 m)) {pf : Func} (hpf : P.funcs[ρ.f 146]? = some pf) (hb : pf.body.isSome = true) (hn : pf.name ≠ "runtime.NumGoroutine") : PrimOK P g (ρ.f 146) pStrSplit := by
  refine prim_of_lays hpf hb hn (fun κ w args ps v hi hC hsz hargs hp => ?_)
  obtain ⟨m, hm⟩ := hm κ hi
  have hmc := hC _ _ _ hm
  unfold pStrSplit at hp
  split at hp
  · rename_i a c
    split at hp
    · rename_i hlen
      cases hp
      obtain ⟨u1, u2, rfl⟩ : ∃ u1 u2, args = #[u1, u2] := by
        obtain ⟨l⟩ := args
        match l, hsz with
        | [u1, u2], _ => exact ⟨u1, u2, rfl⟩
      have r1 := hargs 0 u1 _ rfl rfl
      have r2 := hargs 1 u2 _ rfl rfl
      cases r1 with | str sa _ ha => cases r2 with | str sb _ hb2 =>
      have hsa : sa.size = a.length := by rw [← ha]; simp
      have hsb : sb.size = 1 := by
        have := congrArg List.length hb2
        simpa using this
      refine ⟨_, _, _, Any.strings_Split L hi9 sa sb m w (by omega) hmc (by omega), ?_⟩
      -- the pieces
      obtain ⟨bs, hbs⟩ : ∃ bs, bs = Lib.splitB sb 0 (Lib.countB sa sb) sa := ⟨_, rfl⟩
      have hdat : bs.map (·.data.toList) = splitOn c [] a := by
        rw [hbs, Lib.splitB_data, hb2, ha]
        have hcnt : Lib.countB sa sb = Lib.countFrom [c] (a.length + 1) a := by
          show Lib.count sa.data.toList sb.data.toList = _
          rw [hb2, ha]; rfl
        rw [hcnt]
        exact splitK_on _ _ (by omega)
      have hlenb : bs.length = Lib.countB sa sb + 1 := by rw [hbs]; exact Lib.splitB_all sb (by omega) 0 _ sa rfl
      have hlen2 : (splitOn c [] a).length = bs.length := by rw [← hdat]; simp
      rw [← hbs, ← hlenb]
      have hflat : flat ((splitOn c [] a).map PV.str) = (splitOn c [] a).map PV.str := by
        generalize splitOn c [] a = xs
        induction xs with
        | nil => rfl
        | cons x xs ih => simp only [List.map_cons, flat, List.flatMap_cons, PV.cells] at ih ⊢; rw [ih]; rfl
      have hgetR : ∀ (i : Nat) (v : Value) (p : PV), (bs.map Value.string)[i]? = some v → ((splitOn c [] a).map PV.str)[i]? = some p → ∀ κ', R g κ' v p := by
        intro i v p h1 h2 κ'
        rw [← hdat] at h2
        simp only [List.getElem?_map, Option.map_eq_some_iff] at h1 h2
        obtain ⟨b, e1, rfl⟩ := h1
        obtain ⟨y, ⟨b2, e2, rfl⟩, rfl⟩ := h2
        rw [e1] at e2; cases e2
        exact .str b _ rfl
      refine .sl w.heap.size 0 bs.length bs.length 1 .no _ (bs.map Value.string) (by simp [hlen2]) (Nat.le_refl _) (fun x hx => ?_) (by rw [hflat]; simp [hlen2]) (fun i v hv => ?_) (fun i v p h1 h2 => ?_) ?_ ?_ trivial
      · obtain ⟨y, _, rfl⟩ := List.mem_map.1 hx; rfl
      · have hne : (bs.map Value.string).toArray[i]? = some v := by simpa using hv
        simp only [K.addC, Nat.zero_add, if_pos]
        rw [hne]
      · rw [hflat] at h2; exact hgetR i v p h1 h2 _
      · generalize splitOn c [] a = xs
        induction xs with
        | nil => rfl
        | cons x xs ih => simp [dataAll, PV.data, ih]
      · rw [hflat, List.all_eq_true]
        intro x hx
        obtain ⟨y, _, rfl⟩ := List.mem_map.1 hx; rfl
    · cases hp
  · cases hp
end Go.Ab
/-
  A row that lists variables: the wrap, the world's shape and what the listed variables hold kept.
-/
namespace Go.Ab
open Go
variable {H : Type} {enc : TypeId × Value → H}

theorem returns_laid_shaped {a : Assume} {C : Checked} {os : Os} {f : FuncId} {fn : Func} {s : ChangeSpec} {conds : List PathCond} {apart fresh handsOn again : Bool} (X : World → Prop) (hX : ∀ w w' : World, w.heap = w'.heap → X w → X w')
    (own : ownKnob C.prog.godebug = none) (started : os.Started) (noInit : C.prog.inits.idxOf? f = none) (hfn : C.prog.funcs[f]? = some fn)
    (witness : ∃ (w : World) (tape : Tape) (i : Input), w.os = os ∧ (w.forCall tape i).Shaped C.prog ∧ i.vars = [] ∧ Input.okWide C.prog (w.forCall tape i) .any w.heap.size f i ∧
      ((s.pre enc C.prog fn conds apart (w.forCall tape i).memory i.args ∧ X (w.forCall tape i).memory) ∧ sizedMet enc C.prog fn (OpenSpec.ofChange s) apart (w.forCall tape i).memory i.args) ∧ a.holds C.prog (lone (Frame.enter C.prog f i.args .normal) [] (w.forCall tape i)))
    (contract : ∀ (W : World) (base : Nat) (args : Array Value) (ds gs : List (DataW H)) (before : List MemPlace),
      (∀ (j : Nat) t v, fn.params[j]? = some t → args[j]? = some v → Value.okWide C.prog W .any base t v) →
      DataW.Whole enc C.prog fn.params.toList s.vars apart W args.toList ds gs before →
      X W →
      (DataW.weightsEach C.prog (fn.params.toList ++ s.plain.varTypes C.prog) (ds ++ gs)).all (· ≤ reachBytes) = true →
      W.ShapedOpen C.prog →
      a.holds C.prog (lone (Frame.enter C.prog f args .normal) [] W) →
      Calls C.prog f args W fun e W' => ∃ v, e = .returned v ∧ s.post enc C.prog fn apart fresh handsOn again W args v W') :
    ReturnsInHanded a C os f .any (fun w args => (s.pre enc C.prog fn conds apart w args ∧ X w) ∧ sizedMet enc C.prog fn (OpenSpec.ofChange s) apart w args) (s.post enc C.prog fn apart fresh handsOn again) := by
  refine returnsInHanded_of_calls own started noInit witness ?_
  intro w tape i _ hshape _ hok hpre hholds
  obtain ⟨_, _, _, fn2, hfn2, _, _, _, _, hval⟩ := hok
  obtain rfl : fn2 = fn := Option.some.inj (hfn2.symm.trans hfn)
  obtain ⟨⟨⟨ds, gs, before, hwhole, _⟩, hlaid⟩, hsized⟩ := hpre
  have hlaid2 : X (w.forCall tape i) := hX _ _ (by rfl) hlaid
  have hwhole2 := DataW.Whole.of_heap (w' := w.forCall tape i) (by rfl) hwhole
  have hrun := contract _ w.heap.size i.args ds gs before hval hwhole2 hlaid2 (hsized.weights hwhole) hshape hholds
  refine hrun.mono ?_
  rintro e W2 ⟨v, rfl, hpost⟩
  exact ChangeSpec.post_blind hpost
end Go.Ab
