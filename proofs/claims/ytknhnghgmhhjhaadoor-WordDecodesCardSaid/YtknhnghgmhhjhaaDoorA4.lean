/-
  Words of a header: a text's words one by one; the law WordOthers.
-/
import Derived.Test.YtknhnghgmhhjhaaDoorA3
import Derived.Lib.IndexMore
namespace Go.Ab
set_option linter.unusedVariables false
set_option linter.unusedSimpArgs false
set_option maxRecDepth 20000
variable {st s : St} {e : Env}

/-- A text's words, each read by 'one', blanks between but where both are words of signs. -/
def decG (one : Bs → Bs × Bool) : Bool → Bool → List Bs → Bs
  | _, _, [] => []
  | fst, last, x :: r => (if fst = false ∧ ((one x).2 && last) = false then [32] else []) ++ ((if (one x).2 then (one x).1 else x) ++ decG one false (one x).2 r)
def decW (one : Bs → Bs × Bool) (s : Bs) : Bs := decG one true false (splitOn 32 [] s)

set_option maxHeartbeats 4000000 in
theorem Decode_of {one : Bs → Bs × Bool} {s : Bs} (hl : s.length ≤ 100000) (hone : ∀ x ∈ splitOn 32 [] s, (one x).1.length ≤ 100000 ∧ ∀ S : St, call prog (.fn 227 []) [.str x] S = some (.tup [.str (one x).1, .bool (one x).2], S)) :
    call prog (.fn 229 []) [.str s] st = some (.str (decW one s), st) := by
  refine call_of_W prog_229 ?_
  unfold F_word_Decode; dsimp only
  obtain ⟨xs, hxs⟩ : ∃ xs, xs = splitOn 32 [] s := ⟨_, rfl⟩
  have hsp : ∀ S : St, call prog (.fn 133 []) [.str s, .str [32]] S = some (.sl 1 .no (xs.map .str), S) := fun S => by rw [hxs]; exact Split_spec (by omega)
  have hnum := split_num (sep := 32) s []
  have hlen := split_len (sep := 32) s []
  rw [← hxs] at hone hnum hlen
  simp only [List.length_nil, Nat.zero_add] at hlen
  obtain ⟨T, hT⟩ : ∃ T, T = decG one true false xs := ⟨_, rfl⟩
  have hTT : decW one s = T := by unfold decW; rw [← hxs, hT]
  rw [hTT]
  obtain ⟨n, hn⟩ : ∃ n, n = xs.length := ⟨_, rfl⟩
  have hln : lenPV false (.sl 1 .no (xs.map .str)) = some (.int .i64 (n : Int)) := by rw [hn]; simp [lenPV]
  obtain ⟨v, hv⟩ : ∃ v, v = PV.sl 1 .no (xs.map .str) := ⟨_, rfl⟩
  have hvs : v.vs 1 = some (xs.map .str) := by rw [hv]; simp [PV.vs]
  rw [← hv] at hsp hln
  simp (maxSteps := 1000000) (disch := omega) only [allocPV, hsp, hln, qaaz, qabz, qacz, qadz, qaez, qafz, qagz, qahz, qaiz, qajz, qakz, qalz, qamz, qanz, evOp, qaoz, qapz, qaqz, qarz, qasz, qatz, qauz, qavz,
 ↓reduceIte, Nat.reduceEqDiff, List.nil_append, List.cons_append, List.append_nil, List.map_cons, List.map_nil, qawz, qaxz, qayz, Option.map_some, Option.map_none, qazz, qbaz, qbbz, qbcz, qbdz, qbez, qbfz, qbgz, qbhz, qbiz, qbjz, qbkz, qblz, qbmz, qbnz, qboz,
 qbpz, qbqz, qbrz, qbsz, qbtz, qbuz, qbvz, qbwz, qbxz, qbyz, qbzz, qcaz, qcbz, qccz, qcdz, qcez, qcfz, qcgz, qchz, qciz, beq_true, beq_false, Bool.not_eq_true', decide_eq_true_eq, decide_eq_false_iff_not, decide_true, decide_false,
 Int.toNat_natCast, Int.ofNat_lt, Int.ofNat_le, Int.natCast_inj, Bool.false_eq_true, Bool.true_eq_false, qcjz, List.getElem?_cons_zero, List.getElem?_cons_succ, qckz, Int.reduceToNat, Int.reduceLE, true_and, and_true, reduceCtorEq, or_false, false_or, or_true, Option.some.injEq, exists_eq_left', Bool.not_true, Bool.not_false, ne_eq, Int.reduceEq, not_true_eq_false, not_false_eq_true, Int.reduceLT, UInt8.reduceLT, UInt8.reduceLE, UInt8.reduceToNat]
  obtain ⟨Q0, hQ0⟩ : ∃ Q0 : Ex → Env → St → Prop, Q0 = endQ st [.tmp 2] (.str T, st) := ⟨_, rfl⟩
  rw [← hQ0]
  obtain ⟨I, hI⟩ : ∃ I : Nat → Env → St → Prop, I = fun k E S => ∃ (i : Nat) (acc : Bs) (x : PV) (last : Bool), k = n - i ∧ i ≤ n ∧ Kept st S ∧ Bu S st.boxes.length x acc ∧ (∀ t, tokOf x = some t → st.toks.length ≤ t) ∧ (acc = [] → x = .nils) ∧ acc.length ≤ i * 100001 ∧ T = acc ++ decG one (decide (i = 0)) last (xs.drop i) ∧ E 3 = .ptr st.boxes.length 0 ∧ E 4 = .bool last ∧ E 10 = v ∧ E 11 = .int .i64 (n : Int) ∧ E 12 = .int .i64 (i : Int) := ⟨_, rfl⟩
  refine W_loop I ?_ (n := n) (by
    rw [hI]
    exact ⟨0, [], .nils, false, rfl, by omega, Kept.start.alloc, ⟨.inl (by simp), .inl ⟨rfl, rfl⟩⟩, fun t h => (by cases h), fun _ => rfl, by simp, hT, rfl, rfl, rfl, rfl, rfl⟩)
  intro k E S hh
  rw [hI] at hh
  obtain ⟨i, acc, x, last, rfl, hi, hk, hb, hm, hz, hal, hTT', h3, h4, h10, h11, h12⟩ := hh
  have hroom : room = 68719476736 := rfl
  by_cases hlt : i < n
  · have hixs : i < xs.length := by omega
    obtain ⟨w, hw⟩ : ∃ w, w = xs.getD i [] := ⟨_, rfl⟩
    have hwm : w ∈ xs := by rw [hw]; simp [List.getD, hixs, List.getElem_mem hixs]
    have hd : xs.drop i = w :: xs.drop (i + 1) := by rw [List.drop_eq_getElem_cons hixs, hw]; simp [List.getD, hixs]
    have hia : iaddrPV 1 v (.int .i64 (i : Int)) = some (.cp [.str w]) := by rw [hw]; exact iaddr_t hvs (by omega) (by simpa using hixs)
    obtain ⟨ho1, ho2⟩ := hone w hwm
    have hwl := hlen w hwm
    rw [hd] at hTT'
    obtain ⟨ok, hok⟩ : ∃ ok, ok = (one w).2 := ⟨_, rfl⟩
    obtain ⟨m, hm2⟩ : ∃ m, m = if ok then (one w).1 else w := ⟨_, rfl⟩
    have hml : m.length ≤ 100000 := by rw [hm2]; split <;> omega
    have hstep : decG one (decide (i = 0)) last (w :: xs.drop (i + 1)) = (if decide (i = 0) = false ∧ (ok && last) = false then [32] else []) ++ (m ++ decG one false ok (xs.drop (i + 1))) := by
      rw [decG, ← hok, hm2]
    rw [hstep] at hTT'
    have hia2 : i * 100001 ≤ 100002 * 100001 := Nat.mul_le_mul_right _ (by omega)
    -- the rest of a round
    have next : ∀ (S2 : St) (x2 : PV) (a2 : Bs) (E2 : Env), Kept st S2 → Bu S2 st.boxes.length x2 a2 → (∀ t, tokOf x2 = some t → st.toks.length ≤ t) → (a2 = [] → x2 = .nils) → a2 = acc ++ ((if decide (i = 0) = false ∧ (ok && last) = false then [32] else []) ++ m) →
        E2 3 = .ptr st.boxes.length 0 → E2 4 = .bool ok → E2 10 = v → E2 11 = .int .i64 (n : Int) → E2 12 = .int .i64 ((i + 1 : Nat) : Int) → ∃ m, m < n - i ∧ I m E2 S2 := fun S2 x2 a2 E2 q1 q2 q3 q4 q5 k3 k4 k10 k11 k12 => by
      refine ⟨n - (i + 1), by omega, ?_⟩
      rw [hI]
      refine ⟨i + 1, a2, x2, ok, rfl, by omega, q1, q2, q3, q4, ?_, ?_, k3, k4, k10, k11, k12⟩
      · rw [q5]
        have : (if decide (i = 0) = false ∧ (ok && last) = false then [(32 : UInt8)] else []).length ≤ 1 := by split <;> simp
        simp only [List.length_append]; omega
      · rw [hTT', q5]
        simp
    have one1 : ∀ S : St, call prog (.fn 227 []) [.str w] S = some (.tup [.str (one w).1, .bool ok], S) := fun S => by rw [hok]; exact ho2 S
    by_cases hbl : decide (i = 0) = false ∧ (ok && last) = false
    · obtain ⟨hi0, hol⟩ := hbl
      have hip : (0 : Int) < (i : Int) := by have := of_decide_eq_false hi0; omega
      rw [if_pos ⟨hi0, hol⟩] at next
      obtain ⟨z, s2, b1, b2⟩ := WriteByte_spec (c := 32) hb (by omega)
      obtain ⟨k1, k2⟩ := hk.step b2 (Nat.le_refl _) hm
      obtain ⟨y, s3, a1, a2, a3⟩ := WriteString_spec2 (m := m) (b2.bu hb.lt) (by simp only [List.length_append, List.length_cons, List.length_nil]; omega)
      obtain ⟨k3, k4⟩ := k1.step a2 (Nat.le_refl _) k2
      have hlt2 : st.boxes.length < s2.boxes.length := (b2.bu hb.lt).lt
      cases ok with
      | true =>
        cases last with
        | true => simp at hol
        | false =>
          simp only [if_true] at hm2
          rw [hm2] at a1
          simp (maxSteps := 1000000) (disch := omega) only [h3, h4, h10, h11, h12, hlt, hia, one1, hip, b1, a1, add_n, loopQ_normal, qaaz, qabz, qacz, qadz, qaez, qafz, qagz, qahz, qaiz, qajz, qakz, qalz, qamz, qanz, evOp, qaoz, qapz, qaqz, qarz, qasz, qatz, qauz, qavz,
 ↓reduceIte, Nat.reduceEqDiff, List.nil_append, List.cons_append, List.append_nil, List.map_cons, List.map_nil, qawz, qaxz, qayz, Option.map_some, Option.map_none, qazz, qbaz, qbbz, qbcz, qbdz, qbez, qbfz, qbgz, qbhz, qbiz, qbjz, qbkz, qblz, qbmz, qbnz, qboz,
 qbpz, qbqz, qbrz, qbsz, qbtz, qbuz, qbvz, qbwz, qbxz, qbyz, qbzz, qcaz, qcbz, qccz, qcdz, qcez, qcfz, qcgz, qchz, qciz, beq_true, beq_false, Bool.not_eq_true', decide_eq_true_eq, decide_eq_false_iff_not, decide_true, decide_false,
 Int.toNat_natCast, Int.ofNat_lt, Int.ofNat_le, Int.natCast_inj, Bool.false_eq_true, Bool.true_eq_false, qcjz, List.getElem?_cons_zero, List.getElem?_cons_succ, qckz, Int.reduceToNat, Int.reduceLE, true_and, and_true, reduceCtorEq, or_false, false_or, or_true, Option.some.injEq, exists_eq_left', Bool.not_true, Bool.not_false, ne_eq, Int.reduceEq, not_true_eq_false, not_false_eq_true, Int.reduceLT, UInt8.reduceLT, UInt8.reduceLE, UInt8.reduceToNat]
          exact next _ y _ _ k3 (a2.bu hlt2) k4 (fun h => by simp at h) (by simp) h3 rfl h10 h11 rfl
      | false =>
        simp only [Bool.false_eq_true, if_false] at hm2
        rw [hm2] at a1
        simp (maxSteps := 1000000) (disch := omega) only [h3, h4, h10, h11, h12, hlt, hia, one1, hip, b1, a1, add_n, loopQ_normal, qaaz, qabz, qacz, qadz, qaez, qafz, qagz, qahz, qaiz, qajz, qakz, qalz, qamz, qanz, evOp, qaoz, qapz, qaqz, qarz, qasz, qatz, qauz, qavz,
 ↓reduceIte, Nat.reduceEqDiff, List.nil_append, List.cons_append, List.append_nil, List.map_cons, List.map_nil, qawz, qaxz, qayz, Option.map_some, Option.map_none, qazz, qbaz, qbbz, qbcz, qbdz, qbez, qbfz, qbgz, qbhz, qbiz, qbjz, qbkz, qblz, qbmz, qbnz, qboz,
 qbpz, qbqz, qbrz, qbsz, qbtz, qbuz, qbvz, qbwz, qbxz, qbyz, qbzz, qcaz, qcbz, qccz, qcdz, qcez, qcfz, qcgz, qchz, qciz, beq_true, beq_false, Bool.not_eq_true', decide_eq_true_eq, decide_eq_false_iff_not, decide_true, decide_false,
 Int.toNat_natCast, Int.ofNat_lt, Int.ofNat_le, Int.natCast_inj, Bool.false_eq_true, Bool.true_eq_false, qcjz, List.getElem?_cons_zero, List.getElem?_cons_succ, qckz, Int.reduceToNat, Int.reduceLE, true_and, and_true, reduceCtorEq, or_false, false_or, or_true, Option.some.injEq, exists_eq_left', Bool.not_true, Bool.not_false, ne_eq, Int.reduceEq, not_true_eq_false, not_false_eq_true, Int.reduceLT, UInt8.reduceLT, UInt8.reduceLE, UInt8.reduceToNat]
        exact next _ y _ _ k3 (a2.bu hlt2) k4 (fun h => by simp at h) (by simp) h3 rfl h10 h11 rfl
    · rw [if_neg hbl] at next
      obtain ⟨y, s3, a1, a2, a3⟩ := WriteString_spec2 (m := m) hb (by omega)
      obtain ⟨k3, k4⟩ := hk.step a2 (Nat.le_refl _) hm
      have hz2 : acc ++ m = [] → y = .nils := fun h => by
        obtain ⟨h1, h2⟩ := List.append_eq_nil_iff.1 h
        exact a3 (hz h1) h2
      by_cases hi0 : i = 0
      · have hip : ¬ (0 : Int) < (i : Int) := by omega
        cases ok with
        | true =>
          simp only [if_true] at hm2
          rw [hm2] at a1
          simp (maxSteps := 1000000) (disch := omega) only [h3, h4, h10, h11, h12, hlt, hia, one1, hip, a1, add_n, loopQ_normal, qaaz, qabz, qacz, qadz, qaez, qafz, qagz, qahz, qaiz, qajz, qakz, qalz, qamz, qanz, evOp, qaoz, qapz, qaqz, qarz, qasz, qatz, qauz, qavz,
 ↓reduceIte, Nat.reduceEqDiff, List.nil_append, List.cons_append, List.append_nil, List.map_cons, List.map_nil, qawz, qaxz, qayz, Option.map_some, Option.map_none, qazz, qbaz, qbbz, qbcz, qbdz, qbez, qbfz, qbgz, qbhz, qbiz, qbjz, qbkz, qblz, qbmz, qbnz, qboz,
 qbpz, qbqz, qbrz, qbsz, qbtz, qbuz, qbvz, qbwz, qbxz, qbyz, qbzz, qcaz, qcbz, qccz, qcdz, qcez, qcfz, qcgz, qchz, qciz, beq_true, beq_false, Bool.not_eq_true', decide_eq_true_eq, decide_eq_false_iff_not, decide_true, decide_false,
 Int.toNat_natCast, Int.ofNat_lt, Int.ofNat_le, Int.natCast_inj, Bool.false_eq_true, Bool.true_eq_false, qcjz, List.getElem?_cons_zero, List.getElem?_cons_succ, qckz, Int.reduceToNat, Int.reduceLE, true_and, and_true, reduceCtorEq, or_false, false_or, or_true, Option.some.injEq, exists_eq_left', Bool.not_true, Bool.not_false, ne_eq, Int.reduceEq, not_true_eq_false, not_false_eq_true, Int.reduceLT, UInt8.reduceLT, UInt8.reduceLE, UInt8.reduceToNat]
          exact next _ y _ _ k3 (a2.bu hb.lt) k4 hz2 (by simp) h3 rfl h10 h11 rfl
        | false =>
          simp only [Bool.false_eq_true, if_false] at hm2
          rw [hm2] at a1
          simp (maxSteps := 1000000) (disch := omega) only [h3, h4, h10, h11, h12, hlt, hia, one1, hip, a1, add_n, loopQ_normal, qaaz, qabz, qacz, qadz, qaez, qafz, qagz, qahz, qaiz, qajz, qakz, qalz, qamz, qanz, evOp, qaoz, qapz, qaqz, qarz, qasz, qatz, qauz, qavz,
 ↓reduceIte, Nat.reduceEqDiff, List.nil_append, List.cons_append, List.append_nil, List.map_cons, List.map_nil, qawz, qaxz, qayz, Option.map_some, Option.map_none, qazz, qbaz, qbbz, qbcz, qbdz, qbez, qbfz, qbgz, qbhz, qbiz, qbjz, qbkz, qblz, qbmz, qbnz, qboz,
 qbpz, qbqz, qbrz, qbsz, qbtz, qbuz, qbvz, qbwz, qbxz, qbyz, qbzz, qcaz, qcbz, qccz, qcdz, qcez, qcfz, qcgz, qchz, qciz, beq_true, beq_false, Bool.not_eq_true', decide_eq_true_eq, decide_eq_false_iff_not, decide_true, decide_false,
 Int.toNat_natCast, Int.ofNat_lt, Int.ofNat_le, Int.natCast_inj, Bool.false_eq_true, Bool.true_eq_false, qcjz, List.getElem?_cons_zero, List.getElem?_cons_succ, qckz, Int.reduceToNat, Int.reduceLE, true_and, and_true, reduceCtorEq, or_false, false_or, or_true, Option.some.injEq, exists_eq_left', Bool.not_true, Bool.not_false, ne_eq, Int.reduceEq, not_true_eq_false, not_false_eq_true, Int.reduceLT, UInt8.reduceLT, UInt8.reduceLE, UInt8.reduceToNat]
          exact next _ y _ _ k3 (a2.bu hb.lt) k4 hz2 (by simp) h3 rfl h10 h11 rfl
      · have hip : (0 : Int) < (i : Int) := by omega
        have hol : ok = true ∧ last = true := by
          cases ok <;> cases last <;> simp [hi0] at hbl ⊢
        obtain ⟨rfl, rfl⟩ := hol
        simp only [if_true] at hm2
        rw [hm2] at a1
        simp (maxSteps := 1000000) (disch := omega) only [h3, h4, h10, h11, h12, hlt, hia, one1, hip, a1, add_n, loopQ_normal, qaaz, qabz, qacz, qadz, qaez, qafz, qagz, qahz, qaiz, qajz, qakz, qalz, qamz, qanz, evOp, qaoz, qapz, qaqz, qarz, qasz, qatz, qauz, qavz,
 ↓reduceIte, Nat.reduceEqDiff, List.nil_append, List.cons_append, List.append_nil, List.map_cons, List.map_nil, qawz, qaxz, qayz, Option.map_some, Option.map_none, qazz, qbaz, qbbz, qbcz, qbdz, qbez, qbfz, qbgz, qbhz, qbiz, qbjz, qbkz, qblz, qbmz, qbnz, qboz,
 qbpz, qbqz, qbrz, qbsz, qbtz, qbuz, qbvz, qbwz, qbxz, qbyz, qbzz, qcaz, qcbz, qccz, qcdz, qcez, qcfz, qcgz, qchz, qciz, beq_true, beq_false, Bool.not_eq_true', decide_eq_true_eq, decide_eq_false_iff_not, decide_true, decide_false,
 Int.toNat_natCast, Int.ofNat_lt, Int.ofNat_le, Int.natCast_inj, Bool.false_eq_true, Bool.true_eq_false, qcjz, List.getElem?_cons_zero, List.getElem?_cons_succ, qckz, Int.reduceToNat, Int.reduceLE, true_and, and_true, reduceCtorEq, or_false, false_or, or_true, Option.some.injEq, exists_eq_left', Bool.not_true, Bool.not_false, ne_eq, Int.reduceEq, not_true_eq_false, not_false_eq_true, Int.reduceLT, UInt8.reduceLT, UInt8.reduceLE, UInt8.reduceToNat]
        exact next _ y _ _ k3 (a2.bu hb.lt) k4 hz2 (by simp) h3 rfl h10 h11 rfl
  · have hin : i = n := by omega
    have hnil : xs.drop i = [] := List.drop_of_length_le (by omega)
    rw [hnil, decG, List.append_nil] at hTT'
    obtain ⟨s3, b1, k3⟩ := hk.string (BString_spec hb hz (by have : i * 100001 ≤ 100002 * 100001 := Nat.mul_le_mul_right _ (by omega); omega)) hm
    simp (maxSteps := 1000000) (disch := omega) only [h3, h4, h10, h11, h12, hlt, b1, qaaz, qabz, qacz, qadz, qaez, qafz, qagz, qahz, qaiz, qajz, qakz, qalz, qamz, qanz, evOp, qaoz, qapz, qaqz, qarz, qasz, qatz, qauz, qavz,
 ↓reduceIte, Nat.reduceEqDiff, List.nil_append, List.cons_append, List.append_nil, List.map_cons, List.map_nil, qawz, qaxz, qayz, Option.map_some, Option.map_none, qazz, qbaz, qbbz, qbcz, qbdz, qbez, qbfz, qbgz, qbhz, qbiz, qbjz, qbkz, qblz, qbmz, qbnz, qboz,
 qbpz, qbqz, qbrz, qbsz, qbtz, qbuz, qbvz, qbwz, qbxz, qbyz, qbzz, qcaz, qcbz, qccz, qcdz, qcez, qcfz, qcgz, qchz, qciz, beq_true, beq_false, Bool.not_eq_true', decide_eq_true_eq, decide_eq_false_iff_not, decide_true, decide_false,
 Int.toNat_natCast, Int.ofNat_lt, Int.ofNat_le, Int.natCast_inj, Bool.false_eq_true, Bool.true_eq_false, qcjz, List.getElem?_cons_zero, List.getElem?_cons_succ, qckz, Int.reduceToNat, Int.reduceLE, true_and, and_true, reduceCtorEq, or_false, false_or, or_true, Option.some.injEq, exists_eq_left', Bool.not_true, Bool.not_false, ne_eq, Int.reduceEq, not_true_eq_false, not_false_eq_true, Int.reduceLT, UInt8.reduceLT, UInt8.reduceLE, UInt8.reduceToNat]
    rw [hQ0, qblz, hTT']
    exact retS rfl k3 rfl

end Go.Ab

/-
  The law WordOthers.
-/
namespace Go.Ab
set_option linter.unusedVariables false
set_option linter.unusedSimpArgs false
set_option maxRecDepth 20000
variable {st s : St} {e : Env}

theorem join_split {c : UInt8} : ∀ (s acc : Bs), ∃ x r, splitOn c acc s = x :: r ∧ x ++ r.flatMap (fun y => c :: y) = acc ++ s
  | [], acc => ⟨acc, [], rfl, by simp⟩
  | d :: s, acc => by
    rw [splitOn]
    by_cases h : d = c
    · subst h
      obtain ⟨x, r, h1, h2⟩ := join_split (c := d) s []
      rw [if_pos rfl, h1]
      refine ⟨acc, x :: r, rfl, ?_⟩
      simp only [List.flatMap_cons, List.cons_append, h2, List.nil_append]
    · obtain ⟨x, r, h1, h2⟩ := join_split (c := c) s (acc ++ [d])
      rw [if_neg h, h1]
      exact ⟨x, r, rfl, by rw [h2]; simp⟩
end Go.Ab

/-
  Signs of six digits: written, walked.
-/
namespace Go.Ab
set_option linter.unusedVariables false
set_option linter.unusedSimpArgs false
set_option maxRecDepth 20000
variable {st s : St} {e : Env}

theorem wrapU32 {n : Int} (h1 : 0 ≤ n) (h2 : n < 4294967296) : IntKind.u32.wrap n = n := by
  unfold IntKind.wrap
  simp only [IntKind.signed, IntKind.bits]
  simp
  omega
theorem shl32 {ek : EK} {p k : Nat} (hk : k ≤ 31) (h : p * 2 ^ k < 4294967296) : binPV .shl ek (.int .u32 (p : Int)) (.int .u64 (k : Int)) = some (.int .u32 ((p * 2 ^ k : Nat) : Int)) := by
  simp only [binPV, shI]
  rw [if_neg (by omega)]
  have h6 : min (k : Int).toNat IntKind.u32.bits = k := by
    show min (k : Int).toNat 32 = k
    omega
  have : (p : Int) * 2 ^ (min (k : Int).toNat IntKind.u32.bits) = ((p * 2 ^ k : Nat) : Int) := by rw [h6]; push_cast; rfl
  simp only [this]
  rw [wrapU32 (by omega) (by omega)]
theorem or32 {ek : EK} {p q k : Nat} (h : p * 2 ^ k < 4294967296) (hq : q < 2 ^ k) (hs : p * 2 ^ k + q < 4294967296) : binPV .or ek (.int .u32 ((p * 2 ^ k : Nat) : Int)) (.int .u32 (q : Int)) = some (.int .u32 ((p * 2 ^ k + q : Nat) : Int)) := by
  simp only [binPV, binI, if_true]
  have h3 : (BitVec.ofInt IntKind.u32.bits ((p * 2 ^ k : Nat) : Int) ||| BitVec.ofInt IntKind.u32.bits (q : Int)).toNat = p * 2 ^ k + q := by
    show (BitVec.ofInt 32 ((p * 2 ^ k : Nat) : Int) ||| BitVec.ofInt 32 (q : Int)).toNat = _
    rw [BitVec.ofInt_natCast, BitVec.ofInt_natCast, BitVec.toNat_or, BitVec.toNat_ofNat, BitVec.toNat_ofNat, Nat.mod_eq_of_lt (by omega), Nat.mod_eq_of_lt (by omega)]
    have := Nat.two_pow_add_eq_or_of_lt (i := k) (b := q) hq p
    rw [Nat.mul_comm] at this
    exact this.symm
  rw [h3, wrapU32 (by omega) (by omega)]
theorem shr32 {ek : EK} {k' : IntKind} {p k : Nat} (hk : k ≤ 31) : binPV .shr ek (.int .u32 (p : Int)) (.int k' (k : Int)) = some (.int .u32 ((p / 2 ^ k : Nat) : Int)) := by
  have h6 : min (k : Int).toNat IntKind.u32.bits = k := by
    show min (k : Int).toNat 32 = k
    omega
  have e1 : (p : Int).fdiv (2 ^ (min (k : Int).toNat IntKind.u32.bits)) = ((p / 2 ^ k : Nat) : Int) := by
    rw [h6, Int.fdiv_eq_ediv_of_nonneg _ (Int.le_of_lt (Int.pow_pos (by decide)))]; push_cast; rfl
  simp only [binPV, shI, e1]
  rw [if_neg (by omega)]
/-- Three bytes as a number. -/
def v3 (r : Bs) : Nat := (r.getD 0 0).toNat * 2 ^ 16 + (r.getD 1 0).toNat * 2 ^ 8 + (r.getD 2 0).toNat
theorem Bu.alloc {b : Nat} {x : PV} {l : Bs} {z : List PV} (h : Bu s b x l) : Bu ⟨s.boxes ++ [z], s.toks, s.loops, s.low⟩ b x l := by
  have hlt := h.lt
  refine ⟨?_, h.lv.move fun _ _ => rfl⟩
  rw [List.getElem?_append_left hlt]; exact h.bx

end Go.Ab

/-
  Signs of six digits: read, walked.
-/
namespace Go.Ab
set_option linter.unusedVariables false
set_option linter.unusedSimpArgs false
set_option maxRecDepth 20000
variable {st s : St} {e : Env}

/-! ### A call of which something is said -/
def endX (st : St) (rs : List RV) (R : PV × St → Prop) : Ex → Env → St → Prop := fun x e1 st1 => (x = .normal ∨ x = .ret) ∧ ∃ rv, resOf e1 st1 rs = some rv ∧ R (leave st st1 rv)
theorem call_ex {f : Nat} {args : List PV} {fn : ACFn} {R : PV × St → Prop} (hA : prog f = some (.code fn))
    (h : W prog fn.body (env0 args) { st with low := st.boxes.length } (endX st fn.results R)) : ∃ r, call prog (.fn f []) args st = some r ∧ R r := by
  obtain ⟨⟨x, e1, st1⟩, h1, h2, rv, h3, h4⟩ := h
  refine ⟨_, ?_, h4⟩
  rw [call_fn hA, List.append_nil, h1]
  rcases h2 with rfl | rfl
  · simp only [finish]; simp only at h3 h4; rw [h3]; rfl
  · simp only [finish]; simp only at h3 h4; rw [h3]; rfl

/-- What must come of signs that are read. -/
def decOK (st : St) (s : Bs) (r : PV × St) : Prop := ∃ (y : PV) (f0 f1 : Int), r.1 = .tup [y, .agg [.int .i64 f0, .int .i64 f1]] ∧ (r.2 = st ∨ r.2 = st.tok1) ∧
  (match dec64 s with | some b => f1 = 0 ∧ y.by = some b | none => f1 ≠ 0 ∧ ∃ b, y.by = some b)

theorem dec_leave {y : PV} {l : Bs} {f0 f1 : Int} {S : St} (hk : Kept st S) (hy : Mine st S y l ∨ y = .bys .no l) :
    ∃ y', (leave st S (.tup [y, .agg [.int .i64 f0, .int .i64 f1]])).1 = .tup [y', .agg [.int .i64 f0, .int .i64 f1]] ∧ ((leave st S (.tup [y, .agg [.int .i64 f0, .int .i64 f1]])).2 = st ∨ (leave st S (.tup [y, .agg [.int .i64 f0, .int .i64 f1]])).2 = st.tok1) ∧ y'.by = some l := by
  have e1 := hk.bx; have e2 := hk.lp; have e3 := hk.tk; have e4 := hk.lw
  rcases hy with ⟨⟨rfl, rfl⟩ | ⟨i, rfl, hi⟩, hm⟩ | rfl
  · refine ⟨.nils, ?_⟩
    simp [leave, PV.inB, PV.inB.inBAll, e4, keepRes, keepVals, keepVal, keepLeaf, keepCells, e1, e2, e3, PV.by]
  · have hge := hm i rfl
    refine ⟨.bys (.own st.toks.length) l, ?_⟩
    simp [leave, PV.inB, PV.inB.inBAll, e4, keepRes, keepVals, keepVal, keepLeaf, keepCells, keepTok, hi, show ¬ i < st.toks.length by omega, e1, e2, e3, PV.by, St.tok1]
  · refine ⟨.bys .no l, ?_⟩
    simp [leave, PV.inB, PV.inB.inBAll, e4, keepRes, keepVals, keepVal, keepLeaf, keepCells, keepTok, e1, e2, e3, PV.by]

/-- How a call that reads signs ends. -/
theorem dec_end {E : Env} {S : St} {s0 : Bs} {y : PV} {l : Bs} {f0 f1 : Int} (hk : Kept st S) (hbx : S.boxes = st.boxes ++ [[.int .i64 f0, .int .i64 f1]]) (h2 : E 2 = y) (h3 : E 3 = .ptr st.boxes.length 0)
    (hy : Mine st S y l ∨ y = .bys .no l) (hr : match dec64 s0 with | some b => f1 = 0 ∧ l = b | none => f1 ≠ 0) : endX st [.tmp 2, .cell 3 true 2] (decOK st s0) .ret E S := by
  refine ⟨.inr rfl, .tup [y, .agg [.int .i64 f0, .int .i64 f1]], ?_, ?_⟩
  · have hnt : notTup y = true := by
      rcases hy with ⟨⟨rfl, _⟩ | ⟨i, rfl, _⟩, _⟩ | rfl <;> rfl
    have hag : notTup (.agg [.int .i64 f0, .int .i64 f1]) = true := rfl
    simp [resOf, rvAll, rv1, h2, h3, loadPV, hbx, readCells, hnt, hag, packRes]
  · obtain ⟨y', a1, a2, a3⟩ := dec_leave (f0 := f0) (f1 := f1) hk hy
    refine ⟨y', f0, f1, a1, a2, ?_⟩
    cases hd : dec64 s0 with
    | none => rw [hd] at hr; exact ⟨hr, l, a3⟩
    | some b => rw [hd] at hr; exact ⟨hr.1, by rw [a3, hr.2]⟩
theorem flt_store {S : St} {B : List (List PV)} {a c f0 f1 : Int} (hbx : S.boxes = B ++ [[.int .i64 a, .int .i64 c]]) : storePV S 2 (.ptr B.length 0) (.agg [.int .i64 f0, .int .i64 f1]) = some ⟨B ++ [[.int .i64 f0, .int .i64 f1]], S.toks, S.loops, S.low⟩ := by
  simp [storePV, hbx, PV.cells, PV.inB, PV.inB.inBAll, setCells, hasTok, tokOf, leafOk]
theorem Kept.box {S : St} {z : List PV} (h : Kept st S) (hbx : S.boxes.length = st.boxes.length + 1) : Kept st ⟨st.boxes ++ [z], S.toks, S.loops, S.low⟩ := ⟨by simp, h.lp, h.lw, h.tk⟩

/-! ### A sign's number -/
def sgV (c : UInt8) : Int := match sgI c with | some v => (v : Int) | none => 4294967295
theorem sg_index (c : UInt8) : Lib.indexByte sgns c = (match sgI c with | some v => (v : Int) | none => -1) := by
  have := all8 (p := fun c => Lib.indexByte sgns c == (match sgI c with | some v => (v : Int) | none => -1)) (by kernel_rfl) c
  simpa only [beq_iff_eq] using this
theorem retKB {k : IntKind} {a b : Nat} {t u : Int} {p q : Bool} (ha : e a = .int k t) (hb : e b = .bool p) (hk : Kept st s) (h1 : t = u) (h2 : p = q) : ∃ rv, resOf e s [.tmp a, .tmp b] = some rv ∧ leave st s rv = (.tup [.int k u, .bool q], st) := by
  subst h1 h2; exact retV2 ha hb rfl rfl hk ⟨fun _ => rfl, fun _ _ => rfl⟩
theorem value_spec {c : UInt8} : call prog (.fn 250 []) [.b8 c] st = some (.tup [.int .u32 (sgV c), .bool (sgI c).isSome], st) := by
  refine call_of_W prog_250 ?_
  unfold F_bits_value; dsimp only
  have hix : ∀ S : St, call prog (.fn 78 []) [.str sgns, .b8 c] S = some (.int .i64 (Lib.indexByte sgns c), S) := fun S => by rw [call_prim prog_78]; simp [pStrIndexByte]
  have hsg : ([65, 66, 67, 68, 69, 70, 71, 72, 73, 74, 75, 76, 77, 78, 79, 80, 81, 82, 83, 84, 85, 86, 87, 88, 89, 90, 97, 98, 99, 100, 101, 102, 103, 104, 105, 106, 107, 108, 109, 110, 111, 112, 113, 114, 115, 116, 117, 118, 119, 120, 121, 122, 48, 49, 50, 51, 52, 53, 54, 55, 56, 57, 43, 47] : Bs) = sgns := rfl
  rw [sg_index] at hix
  cases h : sgI c with
  | none =>
    simp only [h] at hix
    have hc : cIntPV .u32 (.int .i64 (-1)) = some (.int .u32 4294967295) := rfl
    simp (maxSteps := 1000000) (disch := omega) only [hsg, hix, hc, Int.reduceNeg, qaaz, qabz, qacz, qadz, qaez, qafz, qagz, qahz, qaiz, qajz, qakz, qalz, qamz, qanz, evOp, qaoz, qapz, qaqz, qarz, qasz, qatz, qauz, qavz,
 ↓reduceIte, Nat.reduceEqDiff, List.nil_append, List.cons_append, List.append_nil, List.map_cons, List.map_nil, qawz, qaxz, qayz, Option.map_some, Option.map_none, qazz, qbaz, qbbz, qbcz, qbdz, qbez, qbfz, qbgz, qbhz, qbiz, qbjz, qbkz, qblz, qbmz, qbnz, qboz,
 qbpz, qbqz, qbrz, qbsz, qbtz, qbuz, qbvz, qbwz, qbxz, qbyz, qbzz, qcaz, qcbz, qccz, qcdz, qcez, qcfz, qcgz, qchz, qciz, beq_true, beq_false, Bool.not_eq_true', decide_eq_true_eq, decide_eq_false_iff_not, decide_true, decide_false,
 Int.toNat_natCast, Int.ofNat_lt, Int.ofNat_le, Int.natCast_inj, Bool.false_eq_true, Bool.true_eq_false, qcjz, List.getElem?_cons_zero, List.getElem?_cons_succ, qckz, Int.reduceToNat, Int.reduceLE, true_and, and_true, reduceCtorEq, or_false, false_or, or_true, Option.some.injEq, exists_eq_left', Bool.not_true, Bool.not_false, ne_eq, Int.reduceEq, not_true_eq_false, not_false_eq_true, Int.reduceLT, UInt8.reduceLT, UInt8.reduceLE, UInt8.reduceToNat]
    exact retKB rfl rfl Kept.start (by simp [sgV, h]) rfl
  | some v =>
    simp only [h] at hix
    have hv := sgI_lt h
    have hc : cIntPV .u32 (.int .i64 (v : Int)) = some (.int .u32 (v : Int)) := by
      simp only [cIntPV, Option.some.injEq]; rw [wrapU32 (by omega) (by omega)]
    have h0 : (0 : Int) ≤ (v : Int) := by omega
    simp (maxSteps := 1000000) (disch := omega) only [hsg, hix, hc, h0, qaaz, qabz, qacz, qadz, qaez, qafz, qagz, qahz, qaiz, qajz, qakz, qalz, qamz, qanz, evOp, qaoz, qapz, qaqz, qarz, qasz, qatz, qauz, qavz,
 ↓reduceIte, Nat.reduceEqDiff, List.nil_append, List.cons_append, List.append_nil, List.map_cons, List.map_nil, qawz, qaxz, qayz, Option.map_some, Option.map_none, qazz, qbaz, qbbz, qbcz, qbdz, qbez, qbfz, qbgz, qbhz, qbiz, qbjz, qbkz, qblz, qbmz, qbnz, qboz,
 qbpz, qbqz, qbrz, qbsz, qbtz, qbuz, qbvz, qbwz, qbxz, qbyz, qbzz, qcaz, qcbz, qccz, qcdz, qcez, qcfz, qcgz, qchz, qciz, beq_true, beq_false, Bool.not_eq_true', decide_eq_true_eq, decide_eq_false_iff_not, decide_true, decide_false,
 Int.toNat_natCast, Int.ofNat_lt, Int.ofNat_le, Int.natCast_inj, Bool.false_eq_true, Bool.true_eq_false, qcjz, List.getElem?_cons_zero, List.getElem?_cons_succ, qckz, Int.reduceToNat, Int.reduceLE, true_and, and_true, reduceCtorEq, or_false, false_or, or_true, Option.some.injEq, exists_eq_left', Bool.not_true, Bool.not_false, ne_eq, Int.reduceEq, not_true_eq_false, not_false_eq_true, Int.reduceLT, UInt8.reduceLT, UInt8.reduceLE, UInt8.reduceToNat]
    exact retKB rfl rfl Kept.start (by simp [sgV, h]) rfl

theorem Kept.push3 {v : PV} {l : Bs} {c d f : UInt8} (hk : Kept st s) (h : Mine st s v l) (hl : l.length + 3 ≤ room) :
    ∃ v' s', Ab.app8 s.tok1 v (.bys (.own s.toks.length) [c, d, f]) = some (v', s') ∧ Kept st s' ∧ Mine st s' v' (l ++ [c, d, f]) ∧ s'.boxes = s.boxes := by
  obtain ⟨v', s', a1, a2, a3⟩ := hk.tok1.app8 h.tok1 (y := .bys (.own s.toks.length) [c, d, f]) (m := [c, d, f]) rfl (by simpa using hl)
  refine ⟨v', s', a1, a2, a3, ?_⟩
  exact (app8_eq a1).1
theorem c8_u32 {n : Nat} : cIntPV .u8 (.int .u32 (n : Int)) = some (.b8 (UInt8.ofNat n)) := by
  simp only [cIntPV, Option.some.injEq, PV.b8.injEq]
  have : (IntKind.u8.wrap (n : Int)).toNat = n % 256 := by
    rw [u8_wrap]; omega
  rw [this]
  apply UInt8.toNat.inj
  simp
theorem slcT_all {t : Tok} {l : Bs} {k : IntKind} : slcTPV (.bys t l) (.int k (l.length : Int)) = some (.bys t l) := by
  simp [slcTPV, intOf]
theorem slcT_cut {t : Tok} {l : Bs} {k : IntKind} {n : Nat} (h : n < l.length) : slcTPV (.bys t l) (.int k (n : Int)) = some (.bys .no (l.take n)) := by
  have h1 : ¬ ((n : Int) = (l.length : Int)) := by omega
  have h2 : (n : Int) ≤ (l.length : Int) := by omega
  have h3 : ¬ n = l.length := by omega
  simp [slcTPV, intOf, h1, h2, h3]

theorem dec6_step' {D D' : D6} {c : UInt8} {r : Bs} (h : ¬ (c = 13 ∧ r.head? = some 10)) (h1 : d6one D c = some D') : dec6 D (c :: r) = dec6 D' r := by
  cases r with
  | nil => simp only [dec6, h1]
  | cons d r => rw [dec6, if_neg (fun q => h ⟨q.1, by simp [q.2]⟩), h1]
theorem dec6_bad {D : D6} {c : UInt8} {r : Bs} (h : ¬ (c = 13 ∧ r.head? = some 10)) (h1 : d6one D c = none) : dec6 D (c :: r) = none := by
  cases r with
  | nil => simp only [dec6, h1]
  | cons d r => rw [dec6, if_neg (fun q => h ⟨q.1, by simp [q.2]⟩), h1]
end Go.Ab

/-
  Signs of six digits: read, the loop.
-/
namespace Go.Ab
set_option linter.unusedVariables false
set_option linter.unusedSimpArgs false
set_option maxRecDepth 20000
variable {st s : St} {e : Env}

structure DInv (D : D6) : Prop where
  p2 : D.pads ≤ 2
  p1 : D.pads = 1 → D.n % 4 = 3 ∨ D.n % 4 = 0
  p0 : D.pads = 2 → D.n % 4 = 0
  v0 : D.n % 4 = 0 → D.v = 0
  v1 : D.n % 4 = 1 → D.v < 64
  v2 : D.n % 4 = 2 → D.v < 4096
  v3 : D.n % 4 = 3 → D.v < 262144
theorem DInv.lt {D : D6} (h : DInv D) : D.v < 262144 := by
  have := h.v0; have := h.v1; have := h.v2; have := h.v3
  have : D.n % 4 = 0 ∨ D.n % 4 = 1 ∨ D.n % 4 = 2 ∨ D.n % 4 = 3 := by omega
  omega
/-- What the bytes that were read lie in. -/
def VO (st S : St) (D : D6) (vo : PV) : Prop := ((D.pads = 0 ∨ D.n % 4 ≠ 0) ∧ Mine st S vo D.out) ∨ ((D.pads ≠ 0 ∧ D.n % 4 = 0) ∧ vo = .bys .no D.out)
theorem VO.or {S : St} {D : D6} {vo : PV} (h : VO st S D vo) : Mine st S vo D.out ∨ vo = .bys .no D.out := by
  rcases h with ⟨_, h⟩ | ⟨_, h⟩
  · exact .inl h
  · exact .inr h

set_option maxHeartbeats 8000000 in
theorem bDecode_spec {s : Bs} (hl : s.length ≤ 1000000) : ∃ r, call prog (.fn 241 []) [.str s] st = some r ∧ decOK st s r := by
  refine call_ex prog_241 ?_
  unfold F_bits_Decode; dsimp only
  obtain ⟨Q0, hQ0⟩ : ∃ Q0 : Ex → Env → St → Prop, Q0 = endX st [.tmp 2, .cell 3 true 2] (decOK st s) := ⟨_, rfl⟩
  rw [← hQ0]
  have e1 : ¬ (2097152 : Int) < (s.length : Int) := by omega
  have hroom : room = 68719476736 := rfl
  have bad : ∀ (E : Env) (S : St) (f0 f1 : Int), Kept st S → S.boxes = st.boxes ++ [[.int .i64 f0, .int .i64 f1]] → E 2 = .nils → E 3 = .ptr st.boxes.length 0 → f1 ≠ 0 → dec64 s = none → Q0 .ret E S := fun E S f0 f1 k hbx h2 h3 hf hd => by
    rw [hQ0]
    exact dec_end k hbx h2 h3 (l := []) (.inl Mine.nil) (by rw [hd]; exact hf)
  simp (maxSteps := 1000000) (disch := omega) only [len_s, e1, allocPV, qaaz, qabz, qacz, qadz, qaez, qafz, qagz, qahz, qaiz, qajz, qakz, qalz, qamz, qanz, evOp, qaoz, qapz, qaqz, qarz, qasz, qatz, qauz, qavz,
 ↓reduceIte, Nat.reduceEqDiff, List.nil_append, List.cons_append, List.append_nil, List.map_cons, List.map_nil, qawz, qaxz, qayz, Option.map_some, Option.map_none, qazz, qbaz, qbbz, qbcz, qbdz, qbez, qbfz, qbgz, qbhz, qbiz, qbjz, qbkz, qblz, qbmz, qbnz, qboz,
 qbpz, qbqz, qbrz, qbsz, qbtz, qbuz, qbvz, qbwz, qbxz, qbyz, qbzz, qcaz, qcbz, qccz, qcdz, qcez, qcfz, qcgz, qchz, qciz, beq_true, beq_false, Bool.not_eq_true', decide_eq_true_eq, decide_eq_false_iff_not, decide_true, decide_false,
 Int.toNat_natCast, Int.ofNat_lt, Int.ofNat_le, Int.natCast_inj, Bool.false_eq_true, Bool.true_eq_false, qcjz, List.getElem?_cons_zero, List.getElem?_cons_succ, qckz, Int.reduceToNat, Int.reduceLE, true_and, and_true, reduceCtorEq, or_false, false_or, or_true, Option.some.injEq, exists_eq_left', Bool.not_true, Bool.not_false, ne_eq, Int.reduceEq, not_true_eq_false, not_false_eq_true, Int.reduceLT, UInt8.reduceLT, UInt8.reduceLE, UInt8.reduceToNat]
  obtain ⟨I, hI⟩ : ∃ I : Nat → Env → St → Prop, I = fun k E S => ∃ (i : Nat) (D : D6) (vo : PV) (last : Int), k = s.length - i ∧ i ≤ s.length ∧ Kept st S ∧ S.boxes = st.boxes ++ [[.int .i64 0, .int .i64 0]] ∧ dec64 s = dec6 D (s.drop i) ∧ DInv D ∧ VO st S D vo ∧ D.out.length ≤ 3 * i ∧ D.n ≤ i ∧
      E 0 = .str s ∧ E 3 = .ptr st.boxes.length 0 ∧ E 4 = vo ∧ E 5 = .int .u32 (D.v : Int) ∧ E 6 = .int .i64 (D.n : Int) ∧ E 7 = .int .i64 (D.pads : Int) ∧ E 8 = .int .i64 last ∧ E 9 = .int .i64 (i : Int) := ⟨_, rfl⟩
  refine W_loop I ?_ (n := s.length) (by
    rw [hI]
    exact ⟨0, ⟨[], 0, 0, 0⟩, .nils, 0, rfl, by omega, Kept.start.alloc, rfl, rfl, ⟨by simp, by simp, by simp, by simp, by simp, by simp, by simp⟩, .inl ⟨.inl rfl, Mine.nil⟩, by simp, by simp, rfl, rfl, rfl, rfl, rfl, rfl, rfl, rfl⟩)
  intro k E S hh
  rw [hI] at hh
  obtain ⟨i, D, vo, last, rfl, hi, hk, hbx, hd, hD, hvo, hol, hni, h0, h3, h4, h5, h6, h7, h8, h9⟩ := hh
  have hfs : ∀ f0 f1 : Int, storePV S 2 (.ptr st.boxes.length 0) (.agg [.int .i64 f0, .int .i64 f1]) = some ⟨st.boxes ++ [[.int .i64 f0, .int .i64 f1]], S.toks, S.loops, S.low⟩ := fun f0 f1 => flt_store hbx
  have hkb : ∀ z : List PV, Kept st ⟨st.boxes ++ [z], S.toks, S.loops, S.low⟩ := fun z => hk.box (by rw [hbx]; simp)
  have bd : ∀ f0 f1 : Int, buildCells [.int .i64 0, .int .i64 0] [(0, 1, .int .i64 f0), (1, 1, .int .i64 f1)] = some [.int .i64 f0, .int .i64 f1] := fun f0 f1 => build2 Leaf_int Leaf_int
  have bd0 : buildCells [.int .i64 0, .int .i64 0] [] = some [.int .i64 0, .int .i64 0] := rfl
  by_cases hlt : i < s.length
  · obtain ⟨c, hc⟩ : ∃ c, c = s.getD i 0 := ⟨_, rfl⟩
    have hdr : s.drop i = c :: s.drop (i + 1) := by rw [List.drop_eq_getElem_cons hlt, hc]; simp [List.getD, hlt]
    rw [hdr] at hd
    by_cases hcr : c = 13 ∧ i + 1 < s.length ∧ s.getD (i + 1) 0 = 10
    · -- a line's end is passed over
      obtain ⟨c1, c2, c3⟩ := hcr
      have hdr2 : s.drop (i + 1) = 10 :: s.drop (i + 2) := by rw [List.drop_eq_getElem_cons c2]; congr 1; simpa [List.getD, c2] using c3
      rw [hdr2, c1, dec6, if_pos ⟨rfl, rfl⟩] at hd
      simp (maxSteps := 1000000) (disch := omega) only [h0, h3, h4, h5, h6, h7, h8, h9, len_s, hlt, idx_s, ← hc, eq_true c1, c2, eq_true c3, add_n, loopQ_normal, qaaz, qabz, qacz, qadz, qaez, qafz, qagz, qahz, qaiz, qajz, qakz, qalz, qamz, qanz, evOp, qaoz, qapz, qaqz, qarz, qasz, qatz, qauz, qavz,
 ↓reduceIte, Nat.reduceEqDiff, List.nil_append, List.cons_append, List.append_nil, List.map_cons, List.map_nil, qawz, qaxz, qayz, Option.map_some, Option.map_none, qazz, qbaz, qbbz, qbcz, qbdz, qbez, qbfz, qbgz, qbhz, qbiz, qbjz, qbkz, qblz, qbmz, qbnz, qboz,
 qbpz, qbqz, qbrz, qbsz, qbtz, qbuz, qbvz, qbwz, qbxz, qbyz, qbzz, qcaz, qcbz, qccz, qcdz, qcez, qcfz, qcgz, qchz, qciz, beq_true, beq_false, Bool.not_eq_true', decide_eq_true_eq, decide_eq_false_iff_not, decide_true, decide_false,
 Int.toNat_natCast, Int.ofNat_lt, Int.ofNat_le, Int.natCast_inj, Bool.false_eq_true, Bool.true_eq_false, qcjz, List.getElem?_cons_zero, List.getElem?_cons_succ, qckz, Int.reduceToNat, Int.reduceLE, true_and, and_true, reduceCtorEq, or_false, false_or, or_true, Option.some.injEq, exists_eq_left', Bool.not_true, Bool.not_false, ne_eq, Int.reduceEq, not_true_eq_false, not_false_eq_true, Int.reduceLT, UInt8.reduceLT, UInt8.reduceLE, UInt8.reduceToNat]
      refine ⟨s.length - (i + 2), by omega, ?_⟩
      rw [hI]
      exact ⟨i + 2, D, vo, last, rfl, by omega, hk, hbx, hd, hD, hvo, by omega, by omega, h0, h3, h4, h5, h6, h7, h8, rfl⟩
    · have hncr : ¬ (c = 13 ∧ (s.drop (i + 1)).head? = some 10) := fun ⟨q1, q2⟩ => hcr ⟨q1, by
        rcases Nat.lt_or_ge (i + 1) s.length with h | h
        · refine ⟨h, ?_⟩
          rw [List.drop_eq_getElem_cons h] at q2
          simpa [List.getD, h] using q2
        · rw [List.drop_of_length_le h] at q2; simp at q2⟩
      have hval := fun S : St => value_spec (st := S) (c := c)
      -- behind the sign's number
      have hCI : ∃ CI : Env → St → Prop, CI = fun E2 S2 => S2 = S ∧ ∃ (d pads' : Nat) (last' : Int), d < 64 ∧ d6one D c = d6put D (D.v * 64 + d) pads' ∧ pads' ≤ 2 ∧ (pads' = 1 → D.n % 4 = 2 ∨ D.n % 4 = 3) ∧ (pads' = 2 → D.n % 4 = 3) ∧ (D.pads = 0 ∨ D.n % 4 ≠ 0) ∧
          E2 0 = .str s ∧ E2 3 = .ptr st.boxes.length 0 ∧ E2 4 = vo ∧ E2 5 = .int .u32 (D.v : Int) ∧ E2 6 = .int .i64 (D.n : Int) ∧ E2 7 = .int .i64 (pads' : Int) ∧ E2 8 = .int .i64 last' ∧ E2 9 = .int .i64 (i : Int) ∧ E2 11 = .int .u32 (d : Int) := ⟨_, rfl⟩
      obtain ⟨CI, hCI⟩ := hCI
      have hrn : binPV .rem .no (.int .i64 (D.n : Int)) (.int .i64 4) = some (.int .i64 ((D.n % 4 : Nat) : Int)) := rem_n (c := 4) (by omega)
      have sgn61 : sgI 61 = none := by kernel_rfl
      simp (maxSteps := 1000000) (disch := omega) only [h0, h3, h4, h5, h6, h7, h8, h9, len_s, hlt, qaaz, qabz, qacz, qaez, qafz, qagz, qahz, qaiz, qajz, qakz, qalz, qamz, qanz, evOp, qaoz, qapz, qaqz, qarz, qasz, qatz, qauz, qavz,
 ↓reduceIte, Nat.reduceEqDiff, List.nil_append, List.cons_append, List.append_nil, List.map_cons, List.map_nil, qawz, qaxz, qayz, Option.map_some, Option.map_none, qazz, qbaz, qbbz, qbcz, qbdz, qbez, qbfz, qbgz, qbhz, qbiz, qbjz, qbkz, qblz, qbmz, qbnz, qboz,
 qbpz, qbqz, qbrz, qbsz, qbtz, qbuz, qbvz, qbwz, qbxz, qbyz, qbzz, qcaz, qcbz, qccz, qcdz, qcez, qcfz, qcgz, qchz, qciz, beq_true, beq_false, Bool.not_eq_true', decide_eq_true_eq, decide_eq_false_iff_not, decide_true, decide_false,
 Int.toNat_natCast, Int.ofNat_lt, Int.ofNat_le, Int.natCast_inj, Bool.false_eq_true, Bool.true_eq_false, qcjz, List.getElem?_cons_zero, List.getElem?_cons_succ, qckz, Int.reduceToNat, Int.reduceLE, true_and, and_true, reduceCtorEq, or_false, false_or, or_true, Option.some.injEq, exists_eq_left', Bool.not_true, Bool.not_false, ne_eq, Int.reduceEq, not_true_eq_false, not_false_eq_true, Int.reduceLT, UInt8.reduceLT, UInt8.reduceLE, UInt8.reduceToNat]
      rw [qadz]
      by_cases c13 : c = 13
      · have hs13 : sgI c = none := by rw [c13]; kernel_rfl
        have c61 : ¬ c = 61 := by rw [c13]; decide
        have hbad : dec64 s = none := by rw [hd]; exact dec6_bad hncr (by simp [d6one, hs13, c61])
        simp only [hs13, Option.isSome_none] at hval
        by_cases hle : i + 1 < s.length
        · have c10 : ¬ s.getD (i + 1) 0 = 10 := fun h => hcr ⟨c13, hle, h⟩
          simp (maxSteps := 1000000) (disch := omega) only [h0, h3, h4, h5, h6, h7, h8, h9, len_s, hlt, idx_s, ← hc, eq_true c13, hle, c10, c61, hval, add_n, bd, hfs, qaaz, qabz, qacz, qadz, qaez, qafz, qagz, qahz, qaiz, qajz, qakz, qalz, qamz, qanz, evOp, qaoz, qapz, qaqz, qarz, qasz, qatz, qauz, qavz,
 ↓reduceIte, Nat.reduceEqDiff, List.nil_append, List.cons_append, List.append_nil, List.map_cons, List.map_nil, qawz, qaxz, qayz, Option.map_some, Option.map_none, qazz, qbaz, qbbz, qbcz, qbdz, qbez, qbfz, qbgz, qbhz, qbiz, qbjz, qbkz, qblz, qbmz, qbnz, qboz,
 qbpz, qbqz, qbrz, qbsz, qbtz, qbuz, qbvz, qbwz, qbxz, qbyz, qbzz, qcaz, qcbz, qccz, qcdz, qcez, qcfz, qcgz, qchz, qciz, beq_true, beq_false, Bool.not_eq_true', decide_eq_true_eq, decide_eq_false_iff_not, decide_true, decide_false,
 Int.toNat_natCast, Int.ofNat_lt, Int.ofNat_le, Int.natCast_inj, Bool.false_eq_true, Bool.true_eq_false, qcjz, List.getElem?_cons_zero, List.getElem?_cons_succ, qckz, Int.reduceToNat, Int.reduceLE, true_and, and_true, reduceCtorEq, or_false, false_or, or_true, Option.some.injEq, exists_eq_left', Bool.not_true, Bool.not_false, ne_eq, Int.reduceEq, not_true_eq_false, not_false_eq_true, Int.reduceLT, UInt8.reduceLT, UInt8.reduceLE, UInt8.reduceToNat]
          exact bad _ _ _ _ (hkb _) rfl rfl h3 (by decide) hbad
        · simp (maxSteps := 1000000) (disch := omega) only [h0, h3, h4, h5, h6, h7, h8, h9, len_s, hlt, idx_s, ← hc, eq_true c13, hle, c61, hval, add_n, bd, hfs, qaaz, qabz, qacz, qadz, qaez, qafz, qagz, qahz, qaiz, qajz, qakz, qalz, qamz, qanz, evOp, qaoz, qapz, qaqz, qarz, qasz, qatz, qauz, qavz,
 ↓reduceIte, Nat.reduceEqDiff, List.nil_append, List.cons_append, List.append_nil, List.map_cons, List.map_nil, qawz, qaxz, qayz, Option.map_some, Option.map_none, qazz, qbaz, qbbz, qbcz, qbdz, qbez, qbfz, qbgz, qbhz, qbiz, qbjz, qbkz, qblz, qbmz, qbnz, qboz,
 qbpz, qbqz, qbrz, qbsz, qbtz, qbuz, qbvz, qbwz, qbxz, qbyz, qbzz, qcaz, qcbz, qccz, qcdz, qcez, qcfz, qcgz, qchz, qciz, beq_true, beq_false, Bool.not_eq_true', decide_eq_true_eq, decide_eq_false_iff_not, decide_true, decide_false,
 Int.toNat_natCast, Int.ofNat_lt, Int.ofNat_le, Int.natCast_inj, Bool.false_eq_true, Bool.true_eq_false, qcjz, List.getElem?_cons_zero, List.getElem?_cons_succ, qckz, Int.reduceToNat, Int.reduceLE, true_and, and_true, reduceCtorEq, or_false, false_or, or_true, Option.some.injEq, exists_eq_left', Bool.not_true, Bool.not_false, ne_eq, Int.reduceEq, not_true_eq_false, not_false_eq_true, Int.reduceLT, UInt8.reduceLT, UInt8.reduceLE, UInt8.reduceToNat]
          exact bad _ _ _ _ (hkb _) rfl rfl h3 (by decide) hbad
      · simp (maxSteps := 1000000) (disch := omega) only [h0, h3, h4, h5, h6, h7, h8, h9, len_s, hlt, idx_s, ← hc, c13, hval, qaaz, qabz, qacz, qaez, qafz, qagz, qahz, qaiz, qajz, qakz, qalz, qamz, qanz, evOp, qaoz, qapz, qaqz, qarz, qasz, qatz, qauz, qavz,
 ↓reduceIte, Nat.reduceEqDiff, List.nil_append, List.cons_append, List.append_nil, List.map_cons, List.map_nil, qawz, qaxz, qayz, Option.map_some, Option.map_none, qazz, qbaz, qbbz, qbcz, qbdz, qbez, qbfz, qbgz, qbhz, qbiz, qbjz, qbkz, qblz, qbmz, qbnz, qboz,
 qbpz, qbqz, qbrz, qbsz, qbtz, qbuz, qbvz, qbwz, qbxz, qbyz, qbzz, qcaz, qcbz, qccz, qcdz, qcez, qcfz, qcgz, qchz, qciz, beq_true, beq_false, Bool.not_eq_true', decide_eq_true_eq, decide_eq_false_iff_not, decide_true, decide_false,
 Int.toNat_natCast, Int.ofNat_lt, Int.ofNat_le, Int.natCast_inj, Bool.false_eq_true, Bool.true_eq_false, qcjz, List.getElem?_cons_zero, List.getElem?_cons_succ, qckz, Int.reduceToNat, Int.reduceLE, true_and, and_true, reduceCtorEq, or_false, false_or, or_true, Option.some.injEq, exists_eq_left', Bool.not_true, Bool.not_false, ne_eq, Int.reduceEq, not_true_eq_false, not_false_eq_true, Int.reduceLT, UInt8.reduceLT, UInt8.reduceLE, UInt8.reduceToNat]
        refine W_mono (Q := fun x E2 S2 => (x = .normal ∧ CI E2 S2) ∨ (x = .ret ∧ Q0 .ret E2 S2)) ?_ ?_
        · -- which sign it is
          cases hs : sgI c with
          | none =>
            by_cases c61 : c = 61
            · by_cases hn2 : D.n % 4 < 2
              · have hbad : dec64 s = none := by rw [hd]; exact dec6_bad hncr (by unfold d6one; rw [hs]; simp [c61, hn2])
                have hn2' : ((D.n % 4 : Nat) : Int) < 2 := by omega
                simp (maxSteps := 1000000) (disch := omega) only [h0, h3, h4, h5, h6, h7, h8, h9, eq_true c61, hn2', hrn, Option.isSome_none, bd, hfs, qaaz, qabz, qacz, qadz, qaez, qafz, qagz, qahz, qaiz, qajz, qakz, qalz, qamz, qanz, evOp, qaoz, qapz, qaqz, qarz, qasz, qatz, qauz, qavz,
 ↓reduceIte, Nat.reduceEqDiff, List.nil_append, List.cons_append, List.append_nil, List.map_cons, List.map_nil, qawz, qaxz, qayz, Option.map_some, Option.map_none, qazz, qbaz, qbbz, qbcz, qbdz, qbez, qbfz, qbgz, qbhz, qbiz, qbjz, qbkz, qblz, qbmz, qbnz, qboz,
 qbpz, qbqz, qbrz, qbsz, qbtz, qbuz, qbvz, qbwz, qbxz, qbyz, qbzz, qcaz, qcbz, qccz, qcdz, qcez, qcfz, qcgz, qchz, qciz, beq_true, beq_false, Bool.not_eq_true', decide_eq_true_eq, decide_eq_false_iff_not, decide_true, decide_false,
 Int.toNat_natCast, Int.ofNat_lt, Int.ofNat_le, Int.natCast_inj, Bool.false_eq_true, Bool.true_eq_false, qcjz, List.getElem?_cons_zero, List.getElem?_cons_succ, qckz, Int.reduceToNat, Int.reduceLE, true_and, and_true, reduceCtorEq, or_false, false_or, or_true, Option.some.injEq, exists_eq_left', Bool.not_true, Bool.not_false, ne_eq, Int.reduceEq, not_true_eq_false, not_false_eq_true, Int.reduceLT, UInt8.reduceLT, UInt8.reduceLE, UInt8.reduceToNat]
                exact .inr (bad _ _ _ _ (hkb _) rfl rfl h3 (by decide) hbad)
              · have hn2' : ¬ ((D.n % 4 : Nat) : Int) < 2 := by omega
                have q1 := hD.p2; have q2 := hD.p1; have q3 := hD.p0
                simp (maxSteps := 1000000) (disch := omega) only [h0, h3, h4, h5, h6, h7, h8, h9, eq_true c61, hn2', hrn, Option.isSome_none, add_n, qaaz, qabz, qacz, qadz, qaez, qafz, qagz, qahz, qaiz, qajz, qakz, qalz, qamz, qanz, evOp, qaoz, qapz, qaqz, qarz, qasz, qatz, qauz, qavz,
 ↓reduceIte, Nat.reduceEqDiff, List.nil_append, List.cons_append, List.append_nil, List.map_cons, List.map_nil, qawz, qaxz, qayz, Option.map_some, Option.map_none, qazz, qbaz, qbbz, qbcz, qbdz, qbez, qbfz, qbgz, qbhz, qbiz, qbjz, qbkz, qblz, qbmz, qbnz, qboz,
 qbpz, qbqz, qbrz, qbsz, qbtz, qbuz, qbvz, qbwz, qbxz, qbyz, qbzz, qcaz, qcbz, qccz, qcdz, qcez, qcfz, qcgz, qchz, qciz, beq_true, beq_false, Bool.not_eq_true', decide_eq_true_eq, decide_eq_false_iff_not, decide_true, decide_false,
 Int.toNat_natCast, Int.ofNat_lt, Int.ofNat_le, Int.natCast_inj, Bool.false_eq_true, Bool.true_eq_false, qcjz, List.getElem?_cons_zero, List.getElem?_cons_succ, qckz, Int.reduceToNat, Int.reduceLE, true_and, and_true, reduceCtorEq, or_false, false_or, or_true, Option.some.injEq, exists_eq_left', Bool.not_true, Bool.not_false, ne_eq, Int.reduceEq, not_true_eq_false, not_false_eq_true, Int.reduceLT, UInt8.reduceLT, UInt8.reduceLE, UInt8.reduceToNat]
                refine .inl ?_
                rw [hCI]
                refine ⟨rfl, 0, D.pads + 1, last, by omega, ?_, by omega, by omega, by omega, by omega, h0, h3, h4, h5, h6, rfl, h8, h9, rfl⟩
                have : (61 : UInt8) = c := c61.symm
                unfold d6one; rw [hs]; simp [c61, hn2]
            · have hbad : dec64 s = none := by rw [hd]; exact dec6_bad hncr (by simp [d6one, hs, c61])
              simp (maxSteps := 1000000) (disch := omega) only [h0, h3, h4, h5, h6, h7, h8, h9, c61, Option.isSome_none, bd, hfs, qaaz, qabz, qacz, qadz, qaez, qafz, qagz, qahz, qaiz, qajz, qakz, qalz, qamz, qanz, evOp, qaoz, qapz, qaqz, qarz, qasz, qatz, qauz, qavz,
 ↓reduceIte, Nat.reduceEqDiff, List.nil_append, List.cons_append, List.append_nil, List.map_cons, List.map_nil, qawz, qaxz, qayz, Option.map_some, Option.map_none, qazz, qbaz, qbbz, qbcz, qbdz, qbez, qbfz, qbgz, qbhz, qbiz, qbjz, qbkz, qblz, qbmz, qbnz, qboz,
 qbpz, qbqz, qbrz, qbsz, qbtz, qbuz, qbvz, qbwz, qbxz, qbyz, qbzz, qcaz, qcbz, qccz, qcdz, qcez, qcfz, qcgz, qchz, qciz, beq_true, beq_false, Bool.not_eq_true', decide_eq_true_eq, decide_eq_false_iff_not, decide_true, decide_false,
 Int.toNat_natCast, Int.ofNat_lt, Int.ofNat_le, Int.natCast_inj, Bool.false_eq_true, Bool.true_eq_false, qcjz, List.getElem?_cons_zero, List.getElem?_cons_succ, qckz, Int.reduceToNat, Int.reduceLE, true_and, and_true, reduceCtorEq, or_false, false_or, or_true, Option.some.injEq, exists_eq_left', Bool.not_true, Bool.not_false, ne_eq, Int.reduceEq, not_true_eq_false, not_false_eq_true, Int.reduceLT, UInt8.reduceLT, UInt8.reduceLE, UInt8.reduceToNat]
              exact .inr (bad _ _ _ _ (hkb _) rfl rfl h3 (by decide) hbad)
          | some v =>
            have hv := sgI_lt hs
            have c61 : ¬ c = 61 := fun h => by rw [h, sgn61] at hs; cases hs
            have hsv : sgV c = (v : Int) := by simp [sgV, hs]
            by_cases hp : 0 < D.pads
            · have hbad : dec64 s = none := by rw [hd]; exact dec6_bad hncr (by simp [d6one, hs, hp])
              have hp' : (0 : Int) < (D.pads : Int) := by omega
              simp (maxSteps := 1000000) (disch := omega) only [h0, h3, h4, h5, h6, h7, h8, h9, c61, hp', Option.isSome_some, bd, hfs, qaaz, qabz, qacz, qadz, qaez, qafz, qagz, qahz, qaiz, qajz, qakz, qalz, qamz, qanz, evOp, qaoz, qapz, qaqz, qarz, qasz, qatz, qauz, qavz,
 ↓reduceIte, Nat.reduceEqDiff, List.nil_append, List.cons_append, List.append_nil, List.map_cons, List.map_nil, qawz, qaxz, qayz, Option.map_some, Option.map_none, qazz, qbaz, qbbz, qbcz, qbdz, qbez, qbfz, qbgz, qbhz, qbiz, qbjz, qbkz, qblz, qbmz, qbnz, qboz,
 qbpz, qbqz, qbrz, qbsz, qbtz, qbuz, qbvz, qbwz, qbxz, qbyz, qbzz, qcaz, qcbz, qccz, qcdz, qcez, qcfz, qcgz, qchz, qciz, beq_true, beq_false, Bool.not_eq_true', decide_eq_true_eq, decide_eq_false_iff_not, decide_true, decide_false,
 Int.toNat_natCast, Int.ofNat_lt, Int.ofNat_le, Int.natCast_inj, Bool.false_eq_true, Bool.true_eq_false, qcjz, List.getElem?_cons_zero, List.getElem?_cons_succ, qckz, Int.reduceToNat, Int.reduceLE, true_and, and_true, reduceCtorEq, or_false, false_or, or_true, Option.some.injEq, exists_eq_left', Bool.not_true, Bool.not_false, ne_eq, Int.reduceEq, not_true_eq_false, not_false_eq_true, Int.reduceLT, UInt8.reduceLT, UInt8.reduceLE, UInt8.reduceToNat]
              exact .inr (bad _ _ _ _ (hkb _) rfl rfl h3 (by decide) hbad)
            · have hp' : ¬ (0 : Int) < (D.pads : Int) := by omega
              simp (maxSteps := 1000000) (disch := omega) only [h0, h3, h4, h5, h6, h7, h8, h9, c61, hp', Option.isSome_some, qaaz, qabz, qacz, qadz, qaez, qafz, qagz, qahz, qaiz, qajz, qakz, qalz, qamz, qanz, evOp, qaoz, qapz, qaqz, qarz, qasz, qatz, qauz, qavz,
 ↓reduceIte, Nat.reduceEqDiff, List.nil_append, List.cons_append, List.append_nil, List.map_cons, List.map_nil, qawz, qaxz, qayz, Option.map_some, Option.map_none, qazz, qbaz, qbbz, qbcz, qbdz, qbez, qbfz, qbgz, qbhz, qbiz, qbjz, qbkz, qblz, qbmz, qbnz, qboz,
 qbpz, qbqz, qbrz, qbsz, qbtz, qbuz, qbvz, qbwz, qbxz, qbyz, qbzz, qcaz, qcbz, qccz, qcdz, qcez, qcfz, qcgz, qchz, qciz, beq_true, beq_false, Bool.not_eq_true', decide_eq_true_eq, decide_eq_false_iff_not, decide_true, decide_false,
 Int.toNat_natCast, Int.ofNat_lt, Int.ofNat_le, Int.natCast_inj, Bool.false_eq_true, Bool.true_eq_false, qcjz, List.getElem?_cons_zero, List.getElem?_cons_succ, qckz, Int.reduceToNat, Int.reduceLE, true_and, and_true, reduceCtorEq, or_false, false_or, or_true, Option.some.injEq, exists_eq_left', Bool.not_true, Bool.not_false, ne_eq, Int.reduceEq, not_true_eq_false, not_false_eq_true, Int.reduceLT, UInt8.reduceLT, UInt8.reduceLE, UInt8.reduceToNat]
              refine .inl ?_
              rw [hCI]
              refine ⟨rfl, v, D.pads, (i : Int), hv, ?_, by omega, by omega, by omega, by omega, h0, h3, h4, h5, h6, h7, rfl, h9, by rw [← hsv]; rfl⟩
              simp only [d6one, hs, if_neg hp]
        · intro xx E2 S2 hx
          rcases hx with ⟨rfl, hci⟩ | ⟨rfl, hq⟩
          · rw [hCI] at hci
            obtain ⟨rfl, d, pads', last', hdl, hd1, hp2, hp1, hp0, hpn, g0, g3, g4, g5, g6, g7, g8, g9, g11⟩ := hci
            have hvl := hD.lt
            obtain ⟨nv, hnv⟩ : ∃ nv, nv = D.v * 64 + d := ⟨_, rfl⟩
            have q1 : binPV .shl .no (.int .u32 (D.v : Int)) (.int .u64 6) = some (.int .u32 ((D.v * 2 ^ 6 : Nat) : Int)) := shl32 (k := 6) (by omega) (by omega)
            have q2 : binPV .or .no (.int .u32 ((D.v * 2 ^ 6 : Nat) : Int)) (.int .u32 (d : Int)) = some (.int .u32 (nv : Int)) := by
              rw [or32 (k := 6) (by omega) (by omega) (by omega), hnv]
            have q3 : binPV .rem .no (.int .i64 ((D.n + 1 : Nat) : Int)) (.int .i64 4) = some (.int .i64 (((D.n + 1) % 4 : Nat) : Int)) := rem_n (c := 4) (by omega)
            rw [← hnv] at hd1
            have hMine : Mine st S2 vo D.out := by
              rcases hvo with ⟨_, h⟩ | ⟨⟨h1, h2⟩, _⟩
              · exact h
              · omega
            have nvl : nv < 16777216 := by omega
            by_cases hm : (D.n + 1) % 4 = 0
            · -- four signs
              have hm' : (((D.n + 1) % 4 : Nat) : Int) = 0 := by omega
              have r1 : binPV .shr .no (.int .u32 (nv : Int)) (.int .u64 16) = some (.int .u32 ((nv / 2 ^ 16 : Nat) : Int)) := shr32 (k := 16) (by omega)
              have r2 : binPV .shr .no (.int .u32 (nv : Int)) (.int .u64 8) = some (.int .u32 ((nv / 2 ^ 8 : Nat) : Int)) := shr32 (k := 8) (by omega)
              obtain ⟨v', S3, a1, a2, a3, a4⟩ := hk.push3 (c := UInt8.ofNat (nv / 2 ^ 16)) (d := UInt8.ofNat (nv / 2 ^ 8)) (f := UInt8.ofNat nv) hMine (by omega)
              obtain ⟨x3, hx3⟩ : ∃ x3 : Bs, x3 = [UInt8.ofNat (nv / 2 ^ 16), UInt8.ofNat (nv / 2 ^ 8), UInt8.ofNat nv] := ⟨_, rfl⟩
              have hx3' : [d6b nv 16, d6b nv 8, d6b nv 0] = x3 := by rw [hx3]; simp [d6b]
              have hx3l : x3.length = 3 := by rw [hx3]; rfl
              rw [← hx3] at a1 a3
              have hput : d6put D nv pads' = (if 0 < pads' ∧ (x3.drop (3 - pads')).getD 0 0 ≠ 0 then none else some ⟨D.out ++ x3.take (3 - pads'), 0, D.n + 1, pads'⟩) := by
                unfold d6put; rw [if_pos hm, hx3']
              rw [hput] at hd1
              obtain ⟨L, hL⟩ : ∃ L, L = D.out ++ x3 := ⟨_, rfl⟩
              have hLl : L.length = D.out.length + 3 := by rw [hL]; simp [hx3l]
              rw [← hL] at a3
              have a5 := a3.by
              obtain ⟨t, rfl⟩ : ∃ t, v' = .bys t L := by
                rcases by_cases' a5 with ⟨_, h⟩ | h
                · rw [h] at hLl; simp at hLl
                · exact h
              have hbx3 : S3.boxes = st.boxes ++ [[.int .i64 0, .int .i64 0]] := by rw [a4, hbx]
              have ha1 : app8 ⟨S2.boxes, S2.toks ++ [true], S2.loops, S2.low⟩ vo (.bys (.own S2.toks.length) x3) = some (.bys t L, S3) := a1
              have hl8 : lit8Fill (List.replicate 3 0) [(0, .b8 (UInt8.ofNat (nv / 2 ^ 16))), (1, .b8 (UInt8.ofNat (nv / 2 ^ 8))), (2, .b8 (UInt8.ofNat nv))] = some x3 := by rw [hx3]; rfl
              have hlenL : lenPV false (.bys t L) = some (.int .i64 (L.length : Int)) := rfl
              by_cases hpp : 0 < pads'
              · have hpp' : (0 : Int) < (pads' : Int) := by omega
                have hsb : binPV .sub .no (.int .i64 (L.length : Int)) (.int .i64 (pads' : Int)) = some (.int .i64 ((L.length - pads' : Nat) : Int)) := by
                  rw [sub_n (by omega) (by omega) (by omega), Int.toNat_natCast]
                have hsl : slcPV 1 (.bys t L) (some (.int .i64 ((L.length - pads' : Nat) : Int))) none none = some ((PV.bys t L).dropB (L.length - pads')) := by
                  rw [slc_lo a5 (by omega) (by omega), Int.toNat_natCast]
                have hdb := dropB_by (i := L.length - pads') a5
                have hdr3 : L.drop (L.length - pads') = x3.drop (3 - pads') := by
                  rw [hL, List.drop_append, List.drop_of_length_le (by simp; omega), List.nil_append]
                  congr 1; simp; omega
                have hia : iaddrPV 1 ((PV.bys t L).dropB (L.length - pads')) (.int .i64 0) = some (.cp [.b8 ((x3.drop (3 - pads')).getD 0 0)]) := by
                  rw [iaddr_by hdb (by omega) (by simp; omega), hdr3]; rfl
                by_cases htl : (x3.drop (3 - pads')).getD 0 0 = 0
                · rw [if_neg (by simp only [not_and, Decidable.not_not]; exact fun _ => htl)] at hd1
                  rw [dec6_step' hncr hd1] at hd
                  have hsT : slcTPV (.bys t L) (.int .i64 ((L.length - pads' : Nat) : Int)) = some (.bys .no (L.take (L.length - pads'))) := slcT_cut (by omega)
                  have htk : L.take (L.length - pads') = D.out ++ x3.take (3 - pads') := by
                    rw [hL, List.take_append, List.take_of_length_le (by simp; omega)]
                    congr 2; simp; omega
                  rw [htk] at hsT
                  simp (maxSteps := 1000000) (disch := omega) only [g0, g3, g4, g5, g6, g7, g8, g9, g11, q1, q2, q3, eq_true hm', r1, r2, c8_u32, hl8, freshT, ha1, hpp', hlenL, hsb, hsl, hia, htl, hsT, add_n, loopQ_normal, qaaz, qabz, qacz, qadz, qaez, qafz, qagz, qahz, qaiz, qajz, qakz, qalz, qamz, qanz, evOp, qaoz, qapz, qaqz, qarz, qasz, qatz, qauz, qavz,
 ↓reduceIte, Nat.reduceEqDiff, List.nil_append, List.cons_append, List.append_nil, List.map_cons, List.map_nil, qawz, qaxz, qayz, Option.map_some, Option.map_none, qazz, qbaz, qbbz, qbcz, qbdz, qbez, qbfz, qbgz, qbhz, qbiz, qbjz, qbkz, qblz, qbmz, qbnz, qboz,
 qbpz, qbqz, qbrz, qbsz, qbtz, qbuz, qbvz, qbwz, qbxz, qbyz, qbzz, qcaz, qcbz, qccz, qcdz, qcez, qcfz, qcgz, qchz, qciz, beq_true, beq_false, Bool.not_eq_true', decide_eq_true_eq, decide_eq_false_iff_not, decide_true, decide_false,
 Int.toNat_natCast, Int.ofNat_lt, Int.ofNat_le, Int.natCast_inj, Bool.false_eq_true, Bool.true_eq_false, qcjz, List.getElem?_cons_zero, List.getElem?_cons_succ, qckz, Int.reduceToNat, Int.reduceLE, true_and, and_true, reduceCtorEq, or_false, false_or, or_true, Option.some.injEq, exists_eq_left', Bool.not_true, Bool.not_false, ne_eq, Int.reduceEq, not_true_eq_false, not_false_eq_true, Int.reduceLT, UInt8.reduceLT, UInt8.reduceLE, UInt8.reduceToNat]
                  refine ⟨s.length - (i + 1), by omega, ?_⟩
                  rw [hI]
                  refine ⟨i + 1, ⟨D.out ++ x3.take (3 - pads'), 0, D.n + 1, pads'⟩, _, last', rfl, by omega, a2, hbx3, hd, ⟨hp2, fun h => by simp only at h ⊢; omega, fun h => by simp only at h ⊢; omega, fun _ => rfl, fun _ => by simp, fun _ => by simp, fun _ => by simp⟩, .inr ⟨⟨by simp only; omega, hm⟩, rfl⟩, by simp; omega, by simp only; omega, g0, g3, rfl, rfl, rfl, g7, g8, rfl⟩
                · have hbad : dec64 s = none := by
                    rw [hd]; refine dec6_bad hncr ?_
                    rw [hd1, if_pos ⟨hpp, htl⟩]
                  have hfs3 : ∀ f0 f1 : Int, storePV S3 2 (.ptr st.boxes.length 0) (.agg [.int .i64 f0, .int .i64 f1]) = some ⟨st.boxes ++ [[.int .i64 f0, .int .i64 f1]], S3.toks, S3.loops, S3.low⟩ := fun f0 f1 => flt_store hbx3
                  simp (maxSteps := 1000000) (disch := omega) only [g0, g3, g4, g5, g6, g7, g8, g9, g11, q1, q2, q3, eq_true hm', r1, r2, c8_u32, hl8, freshT, ha1, hpp', hlenL, hsb, hsl, hia, htl, bd, hfs3, add_n, loopQ_normal, qaaz, qabz, qacz, qadz, qaez, qafz, qagz, qahz, qaiz, qajz, qakz, qalz, qamz, qanz, evOp, qaoz, qapz, qaqz, qarz, qasz, qatz, qauz, qavz,
 ↓reduceIte, Nat.reduceEqDiff, List.nil_append, List.cons_append, List.append_nil, List.map_cons, List.map_nil, qawz, qaxz, qayz, Option.map_some, Option.map_none, qazz, qbaz, qbbz, qbcz, qbdz, qbez, qbfz, qbgz, qbhz, qbiz, qbjz, qbkz, qblz, qbmz, qbnz, qboz,
 qbpz, qbqz, qbrz, qbsz, qbtz, qbuz, qbvz, qbwz, qbxz, qbyz, qbzz, qcaz, qcbz, qccz, qcdz, qcez, qcfz, qcgz, qchz, qciz, beq_true, beq_false, Bool.not_eq_true', decide_eq_true_eq, decide_eq_false_iff_not, decide_true, decide_false,
 Int.toNat_natCast, Int.ofNat_lt, Int.ofNat_le, Int.natCast_inj, Bool.false_eq_true, Bool.true_eq_false, qcjz, List.getElem?_cons_zero, List.getElem?_cons_succ, qckz, Int.reduceToNat, Int.reduceLE, true_and, and_true, reduceCtorEq, or_false, false_or, or_true, Option.some.injEq, exists_eq_left', Bool.not_true, Bool.not_false, ne_eq, Int.reduceEq, not_true_eq_false, not_false_eq_true, Int.reduceLT, UInt8.reduceLT, UInt8.reduceLE, UInt8.reduceToNat]
                  exact bad _ _ _ _ (a2.box (by rw [hbx3]; simp)) rfl rfl g3 (by decide) hbad
              · have hpz : pads' = 0 := by omega
                subst hpz
                rw [if_neg (by simp)] at hd1
                rw [dec6_step' hncr hd1] at hd
                have hx30 : x3.take (3 - 0) = x3 := List.take_of_length_le (by omega)
                rw [hx30, ← hL] at hd
                have hsb : binPV .sub .no (.int .i64 (L.length : Int)) (.int .i64 ((0 : Nat) : Int)) = some (.int .i64 (L.length : Int)) := by
                  rw [sub_n (by omega) (by omega) (by omega)]; rfl
                have hsT : slcTPV (.bys t L) (.int .i64 (L.length : Int)) = some (.bys t L) := slcT_all
                have h00 : ¬ (0 : Int) < ((0 : Nat) : Int) := by omega
                simp (maxSteps := 1000000) (disch := omega) only [g0, g3, g4, g5, g6, g7, g8, g9, g11, q1, q2, q3, eq_true hm', r1, r2, c8_u32, hl8, freshT, ha1, h00, hlenL, hsb, hsT, add_n, loopQ_normal, qaaz, qabz, qacz, qadz, qaez, qafz, qagz, qahz, qaiz, qajz, qakz, qalz, qamz, qanz, evOp, qaoz, qapz, qaqz, qarz, qasz, qatz, qauz, qavz,
 ↓reduceIte, Nat.reduceEqDiff, List.nil_append, List.cons_append, List.append_nil, List.map_cons, List.map_nil, qawz, qaxz, qayz, Option.map_some, Option.map_none, qazz, qbaz, qbbz, qbcz, qbdz, qbez, qbfz, qbgz, qbhz, qbiz, qbjz, qbkz, qblz, qbmz, qbnz, qboz,
 qbpz, qbqz, qbrz, qbsz, qbtz, qbuz, qbvz, qbwz, qbxz, qbyz, qbzz, qcaz, qcbz, qccz, qcdz, qcez, qcfz, qcgz, qchz, qciz, beq_true, beq_false, Bool.not_eq_true', decide_eq_true_eq, decide_eq_false_iff_not, decide_true, decide_false,
 Int.toNat_natCast, Int.ofNat_lt, Int.ofNat_le, Int.natCast_inj, Bool.false_eq_true, Bool.true_eq_false, qcjz, List.getElem?_cons_zero, List.getElem?_cons_succ, qckz, Int.reduceToNat, Int.reduceLE, true_and, and_true, reduceCtorEq, or_false, false_or, or_true, Option.some.injEq, exists_eq_left', Bool.not_true, Bool.not_false, ne_eq, Int.reduceEq, not_true_eq_false, not_false_eq_true, Int.reduceLT, UInt8.reduceLT, UInt8.reduceLE, UInt8.reduceToNat]
                refine ⟨s.length - (i + 1), by omega, ?_⟩
                rw [hI]
                refine ⟨i + 1, ⟨L, 0, D.n + 1, 0⟩, _, last', rfl, by omega, a2, hbx3, hd, ⟨by simp, by simp, by simp, fun _ => rfl, fun _ => by simp, fun _ => by simp, fun _ => by simp⟩, .inl ⟨.inl rfl, a3⟩, by simp only; omega, by simp only; omega, g0, g3, rfl, rfl, rfl, g7, g8, rfl⟩
            · have hm' : ¬ (((D.n + 1) % 4 : Nat) : Int) = 0 := by omega
              have hput : d6put D nv pads' = some ⟨D.out, nv, D.n + 1, pads'⟩ := by unfold d6put; rw [if_neg hm]
              rw [hput] at hd1
              rw [dec6_step' hncr hd1] at hd
              have w1 := hD.v0; have w2 := hD.v1; have w3 := hD.v2; have w4 := hD.v3
              simp (maxSteps := 1000000) (disch := omega) only [g0, g3, g4, g5, g6, g7, g8, g9, g11, q1, q2, q3, hm', add_n, loopQ_normal, qaaz, qabz, qacz, qadz, qaez, qafz, qagz, qahz, qaiz, qajz, qakz, qalz, qamz, qanz, evOp, qaoz, qapz, qaqz, qarz, qasz, qatz, qauz, qavz,
 ↓reduceIte, Nat.reduceEqDiff, List.nil_append, List.cons_append, List.append_nil, List.map_cons, List.map_nil, qawz, qaxz, qayz, Option.map_some, Option.map_none, qazz, qbaz, qbbz, qbcz, qbdz, qbez, qbfz, qbgz, qbhz, qbiz, qbjz, qbkz, qblz, qbmz, qbnz, qboz,
 qbpz, qbqz, qbrz, qbsz, qbtz, qbuz, qbvz, qbwz, qbxz, qbyz, qbzz, qcaz, qcbz, qccz, qcdz, qcez, qcfz, qcgz, qchz, qciz, beq_true, beq_false, Bool.not_eq_true', decide_eq_true_eq, decide_eq_false_iff_not, decide_true, decide_false,
 Int.toNat_natCast, Int.ofNat_lt, Int.ofNat_le, Int.natCast_inj, Bool.false_eq_true, Bool.true_eq_false, qcjz, List.getElem?_cons_zero, List.getElem?_cons_succ, qckz, Int.reduceToNat, Int.reduceLE, true_and, and_true, reduceCtorEq, or_false, false_or, or_true, Option.some.injEq, exists_eq_left', Bool.not_true, Bool.not_false, ne_eq, Int.reduceEq, not_true_eq_false, not_false_eq_true, Int.reduceLT, UInt8.reduceLT, UInt8.reduceLE, UInt8.reduceToNat]
              refine ⟨s.length - (i + 1), by omega, ?_⟩
              rw [hI]
              refine ⟨i + 1, ⟨D.out, nv, D.n + 1, pads'⟩, vo, last', rfl, by omega, hk, hbx, hd, ⟨hp2, fun h => by simp only at h ⊢; omega, fun h => by simp only at h ⊢; omega, fun h => by simp only at h ⊢; omega, fun h => by simp only at h ⊢; omega, fun h => by simp only at h ⊢; omega, fun h => by simp only at h ⊢; omega⟩, .inl ⟨.inr hm, hMine⟩, by simp only; omega, by simp only; omega, g0, g3, g4, rfl, rfl, g7, g8, rfl⟩
          · simp only [qbaz, qbez, qbiz]
            exact hq
  · obtain rfl : i = s.length := by omega
    rw [List.drop_length, dec6] at hd
    have hr : binPV .rem .no (.int .i64 (D.n : Int)) (.int .i64 4) = some (.int .i64 ((D.n % 4 : Nat) : Int)) := rem_n (c := 4) (by omega)
    by_cases hn : D.n % 4 = 0
    · rw [if_pos hn] at hd
      have hn' : ((D.n % 4 : Nat) : Int) = 0 := by omega
      simp (maxSteps := 1000000) (disch := omega) only [h0, h3, h4, h5, h6, h7, h8, h9, len_s, hlt, hr, eq_true hn', bd0, hfs, qaaz, qabz, qacz, qadz, qaez, qafz, qagz, qahz, qaiz, qajz, qakz, qalz, qamz, qanz, evOp, qaoz, qapz, qaqz, qarz, qasz, qatz, qauz, qavz,
 ↓reduceIte, Nat.reduceEqDiff, List.nil_append, List.cons_append, List.append_nil, List.map_cons, List.map_nil, qawz, qaxz, qayz, Option.map_some, Option.map_none, qazz, qbaz, qbbz, qbcz, qbdz, qbez, qbfz, qbgz, qbhz, qbiz, qbjz, qbkz, qblz, qbmz, qbnz, qboz,
 qbpz, qbqz, qbrz, qbsz, qbtz, qbuz, qbvz, qbwz, qbxz, qbyz, qbzz, qcaz, qcbz, qccz, qcdz, qcez, qcfz, qcgz, qchz, qciz, beq_true, beq_false, Bool.not_eq_true', decide_eq_true_eq, decide_eq_false_iff_not, decide_true, decide_false,
 Int.toNat_natCast, Int.ofNat_lt, Int.ofNat_le, Int.natCast_inj, Bool.false_eq_true, Bool.true_eq_false, qcjz, List.getElem?_cons_zero, List.getElem?_cons_succ, qckz, Int.reduceToNat, Int.reduceLE, true_and, and_true, reduceCtorEq, or_false, false_or, or_true, Option.some.injEq, exists_eq_left', Bool.not_true, Bool.not_false, ne_eq, Int.reduceEq, not_true_eq_false, not_false_eq_true, Int.reduceLT, UInt8.reduceLT, UInt8.reduceLE, UInt8.reduceToNat]
      rw [hQ0]
      refine dec_end (hkb _) rfl rfl h3 (y := vo) (l := D.out) ?_ (by rw [hd]; exact ⟨rfl, rfl⟩)
      rcases hvo.or with ⟨h1, h2⟩ | h1
      · exact .inl ⟨h1.move fun _ _ => rfl, h2⟩
      · exact .inr h1
    · rw [if_neg hn] at hd
      have hn' : ¬ ((D.n % 4 : Nat) : Int) = 0 := by omega
      simp (maxSteps := 1000000) (disch := omega) only [h0, h3, h4, h5, h6, h7, h8, h9, len_s, hlt, hr, hn', bd, hfs, qaaz, qabz, qacz, qadz, qaez, qafz, qagz, qahz, qaiz, qajz, qakz, qalz, qamz, qanz, evOp, qaoz, qapz, qaqz, qarz, qasz, qatz, qauz, qavz,
 ↓reduceIte, Nat.reduceEqDiff, List.nil_append, List.cons_append, List.append_nil, List.map_cons, List.map_nil, qawz, qaxz, qayz, Option.map_some, Option.map_none, qazz, qbaz, qbbz, qbcz, qbdz, qbez, qbfz, qbgz, qbhz, qbiz, qbjz, qbkz, qblz, qbmz, qbnz, qboz,
 qbpz, qbqz, qbrz, qbsz, qbtz, qbuz, qbvz, qbwz, qbxz, qbyz, qbzz, qcaz, qcbz, qccz, qcdz, qcez, qcfz, qcgz, qchz, qciz, beq_true, beq_false, Bool.not_eq_true', decide_eq_true_eq, decide_eq_false_iff_not, decide_true, decide_false,
 Int.toNat_natCast, Int.ofNat_lt, Int.ofNat_le, Int.natCast_inj, Bool.false_eq_true, Bool.true_eq_false, qcjz, List.getElem?_cons_zero, List.getElem?_cons_succ, qckz, Int.reduceToNat, Int.reduceLE, true_and, and_true, reduceCtorEq, or_false, false_or, or_true, Option.some.injEq, exists_eq_left', Bool.not_true, Bool.not_false, ne_eq, Int.reduceEq, not_true_eq_false, not_false_eq_true, Int.reduceLT, UInt8.reduceLT, UInt8.reduceLE, UInt8.reduceToNat]
      exact bad _ _ _ _ (hkb _) rfl rfl h3 (by decide) hd
end Go.Ab

/-
  strings.HasSuffix.
-/
namespace Go.Ab
set_option linter.unusedVariables false
set_option linter.unusedSimpArgs false
variable {st s : St} {e : Env}

theorem slHasSuffix_spec {a b : Bs} (ha : a.length ≤ 9000000000000000000) : call prog (.fn 136 []) [.str a, .str b] st = some (.bool (decide (b <:+ a)), st) := by
  refine call_of_W prog_136 ?_
  unfold F_internal_stringslite_HasSuffix; dsimp only
  by_cases h : b.length ≤ a.length
  · have hsub : ∀ ek, binPV .sub ek (.int .i64 (a.length : Int)) (.int .i64 (b.length : Int)) = some (.int .i64 ((a.length - b.length : Nat) : Int)) := fun ek => by
      rw [sub_n (by omega) (by simpa using h) (by omega)]; rfl
    simp (maxSteps := 1000000) (disch := omega) only [len_s, h, hsub, slc_s_lo, qaaz, qabz, qacz, qadz, qaez, qafz, qagz, qahz, qaiz, qajz, qakz, qalz, qamz, qanz, evOp, qaoz, qapz, qaqz, qarz, qasz, qatz, qauz, qavz,
 ↓reduceIte, Nat.reduceEqDiff, List.nil_append, List.cons_append, List.append_nil, List.map_cons, List.map_nil, qawz, qaxz, qayz, Option.map_some, Option.map_none, qazz, qbaz, qbbz, qbcz, qbdz, qbez, qbfz, qbgz, qbhz, qbiz, qbjz, qbkz, qblz, qbmz, qbnz, qboz,
 qbpz, qbqz, qbrz, qbsz, qbtz, qbuz, qbvz, qbwz, qbxz, qbyz, qbzz, qcaz, qcbz, qccz, qcdz, qcez, qcfz, qcgz, qchz, qciz, beq_true, beq_false, Bool.not_eq_true', decide_eq_true_eq, decide_eq_false_iff_not, decide_true, decide_false,
 Int.toNat_natCast, Int.ofNat_lt, Int.ofNat_le, Int.natCast_inj, Bool.false_eq_true, Bool.true_eq_false, qcjz, List.getElem?_cons_zero, List.getElem?_cons_succ, qckz, Int.reduceToNat, Int.reduceLE, true_and, and_true, reduceCtorEq, or_false, false_or, or_true, Option.some.injEq, exists_eq_left', Bool.not_true, Bool.not_false, ne_eq, Int.reduceEq, not_true_eq_false, not_false_eq_true, Int.reduceLT, UInt8.reduceLT, UInt8.reduceLE, UInt8.reduceToNat]
    rw [show decide (b <:+ a) = decide (a.drop (a.length - b.length) = b) by
      congr 1; rw [List.suffix_iff_eq_drop]; exact propext eq_comm]
    exact end1 rfl Kp_bool
  · simp (maxSteps := 1000000) (disch := omega) only [len_s, h, qaaz, qabz, qacz, qadz, qaez, qafz, qagz, qahz, qaiz, qajz, qakz, qalz, qamz, qanz, evOp, qaoz, qapz, qaqz, qarz, qasz, qatz, qauz, qavz,
 ↓reduceIte, Nat.reduceEqDiff, List.nil_append, List.cons_append, List.append_nil, List.map_cons, List.map_nil, qawz, qaxz, qayz, Option.map_some, Option.map_none, qazz, qbaz, qbbz, qbcz, qbdz, qbez, qbfz, qbgz, qbhz, qbiz, qbjz, qbkz, qblz, qbmz, qbnz, qboz,
 qbpz, qbqz, qbrz, qbsz, qbtz, qbuz, qbvz, qbwz, qbxz, qbyz, qbzz, qcaz, qcbz, qccz, qcdz, qcez, qcfz, qcgz, qchz, qciz, beq_true, beq_false, Bool.not_eq_true', decide_eq_true_eq, decide_eq_false_iff_not, decide_true, decide_false,
 Int.toNat_natCast, Int.ofNat_lt, Int.ofNat_le, Int.natCast_inj, Bool.false_eq_true, Bool.true_eq_false, qcjz, List.getElem?_cons_zero, List.getElem?_cons_succ, qckz, Int.reduceToNat, Int.reduceLE, true_and, and_true, reduceCtorEq, or_false, false_or, or_true, Option.some.injEq, exists_eq_left', Bool.not_true, Bool.not_false, ne_eq, Int.reduceEq, not_true_eq_false, not_false_eq_true, Int.reduceLT, UInt8.reduceLT, UInt8.reduceLE, UInt8.reduceToNat]
    rw [show decide (b <:+ a) = false by simp; intro hp; exact h hp.length_le]
    exact end1 rfl Kp_bool
theorem HasSuffix_spec {a b : Bs} (ha : a.length ≤ 9000000000000000000) : call prog (.fn 130 []) [.str a, .str b] st = some (.bool (decide (b <:+ a)), st) := by
  refine call_of_W prog_130 ?_
  unfold F_strings_HasSuffix; dsimp only
  simp (maxSteps := 1000000) (disch := omega) only [slHasSuffix_spec ha, qaaz, qabz, qacz, qadz, qaez, qafz, qagz, qahz, qaiz, qajz, qakz, qalz, qamz, qanz, evOp, qaoz, qapz, qaqz, qarz, qasz, qatz, qauz, qavz,
 ↓reduceIte, Nat.reduceEqDiff, List.nil_append, List.cons_append, List.append_nil, List.map_cons, List.map_nil, qawz, qaxz, qayz, Option.map_some, Option.map_none, qazz, qbaz, qbbz, qbcz, qbdz, qbez, qbfz, qbgz, qbhz, qbiz, qbjz, qbkz, qblz, qbmz, qbnz, qboz,
 qbpz, qbqz, qbrz, qbsz, qbtz, qbuz, qbvz, qbwz, qbxz, qbyz, qbzz, qcaz, qcbz, qccz, qcdz, qcez, qcfz, qcgz, qchz, qciz, beq_true, beq_false, Bool.not_eq_true', decide_eq_true_eq, decide_eq_false_iff_not, decide_true, decide_false,
 Int.toNat_natCast, Int.ofNat_lt, Int.ofNat_le, Int.natCast_inj, Bool.false_eq_true, Bool.true_eq_false, qcjz, List.getElem?_cons_zero, List.getElem?_cons_succ, qckz, Int.reduceToNat, Int.reduceLE, true_and, and_true, reduceCtorEq, or_false, false_or, or_true, Option.some.injEq, exists_eq_left', Bool.not_true, Bool.not_false, ne_eq, Int.reduceEq, not_true_eq_false, not_false_eq_true, Int.reduceLT, UInt8.reduceLT, UInt8.reduceLE, UInt8.reduceToNat]
  exact end1 rfl Kp_bool

end Go.Ab

/-
  Points of Unicode as bytes: the program's answer.
-/
namespace Go.Ab
set_option linter.unusedVariables false
set_option linter.unusedSimpArgs false
variable {st s : St} {e : Env}

/-! ### Bytes and numbers -/
theorem all256 {p : UInt8 → Prop} (h : ∀ n : Fin 256, p (UInt8.ofNat n.val)) (c : UInt8) : p c := by
  have := h ⟨c.toNat, c.toNat_lt⟩
  simpa using this
theorem shr5 {ek : EK} {c : UInt8} : binPV .shr ek (.b8 c) (.int .u64 5) = some (.b8 (UInt8.ofNat (c.toNat / 32))) := by simp [binPV, sh8]
theorem shr4 {ek : EK} {c : UInt8} : binPV .shr ek (.b8 c) (.int .u64 4) = some (.b8 (UInt8.ofNat (c.toNat / 16))) := by simp [binPV, sh8]
theorem shr3 {ek : EK} {c : UInt8} : binPV .shr ek (.b8 c) (.int .u64 3) = some (.b8 (UInt8.ofNat (c.toNat / 8))) := by simp [binPV, sh8]
theorem shr6 {ek : EK} {c : UInt8} : binPV .shr ek (.b8 c) (.int .u64 6) = some (.b8 (UInt8.ofNat (c.toNat / 64))) := by simp [binPV, sh8]
theorem and_8 {ek : EK} {a b : UInt8} : binPV .and ek (.b8 a) (.b8 b) = some (.b8 (a &&& b)) := rfl
theorem cI32 {b : UInt8} : cIntPV .i32 (.b8 b) = some (.int .i32 (b.toNat : Int)) := rfl
theorem is2 (c : UInt8) : UInt8.ofNat (c.toNat / 32) = 6 ↔ 192 ≤ c.toNat ∧ c.toNat < 224 := all256 (p := fun c => UInt8.ofNat (c.toNat / 32) = 6 ↔ 192 ≤ c.toNat ∧ c.toNat < 224) (by decide +kernel) c
theorem is3 (c : UInt8) : UInt8.ofNat (c.toNat / 16) = 14 ↔ 224 ≤ c.toNat ∧ c.toNat < 240 := all256 (p := fun c => UInt8.ofNat (c.toNat / 16) = 14 ↔ 224 ≤ c.toNat ∧ c.toNat < 240) (by decide +kernel) c
theorem is4 (c : UInt8) : UInt8.ofNat (c.toNat / 8) = 30 ↔ 240 ≤ c.toNat ∧ c.toNat < 248 := all256 (p := fun c => UInt8.ofNat (c.toNat / 8) = 30 ↔ 240 ≤ c.toNat ∧ c.toNat < 248) (by decide +kernel) c
theorem isC (c : UInt8) : UInt8.ofNat (c.toNat / 64) = 2 ↔ 128 ≤ c.toNat ∧ c.toNat < 192 := all256 (p := fun c => UInt8.ofNat (c.toNat / 64) = 2 ↔ 128 ≤ c.toNat ∧ c.toNat < 192) (by decide +kernel) c
theorem and31 (c : UInt8) : (c &&& 31).toNat = c.toNat % 32 := all256 (p := fun c => (c &&& 31).toNat = c.toNat % 32) (by decide +kernel) c
theorem and15 (c : UInt8) : (c &&& 15).toNat = c.toNat % 16 := all256 (p := fun c => (c &&& 15).toNat = c.toNat % 16) (by decide +kernel) c
theorem and7 (c : UInt8) : (c &&& 7).toNat = c.toNat % 8 := all256 (p := fun c => (c &&& 7).toNat = c.toNat % 8) (by decide +kernel) c
theorem and63 (c : UInt8) : (c &&& 63).toNat = c.toNat % 64 := all256 (p := fun c => (c &&& 63).toNat = c.toNat % 64) (by decide +kernel) c
theorem wrap32 {n : Int} (h1 : -2147483648 ≤ n) (h2 : n < 2147483648) : IntKind.i32.wrap n = n := by
  unfold IntKind.wrap
  simp only [IntKind.signed, IntKind.bits]
  simp
  omega
theorem shl6 {ek : EK} {p : Nat} (h : p < 33554432) : binPV .shl ek (.int .i32 (p : Int)) (.int .u64 6) = some (.int .i32 ((64 * p : Nat) : Int)) := by
  simp only [binPV, shI]
  rw [if_neg (by omega)]
  have : (p : Int) * 2 ^ (min (6 : Int).toNat IntKind.i32.bits) = ((64 * p : Nat) : Int) := by
    have h6 : min (6 : Int).toNat IntKind.i32.bits = 6 := by decide
    rw [h6]; push_cast; omega
  simp only [this]
  rw [wrap32 (by omega) (by omega)]
theorem or_i32 {ek : EK} {p q : Nat} (h : p < 33554432) (hq : q < 64) : binPV .or ek (.int .i32 ((64 * p : Nat) : Int)) (.int .i32 (q : Int)) = some (.int .i32 ((64 * p + q : Nat) : Int)) := by
  simp only [binPV, binI, if_true]
  have h3 : (BitVec.ofInt IntKind.i32.bits ((64 * p : Nat) : Int) ||| BitVec.ofInt IntKind.i32.bits (q : Int)).toNat = 64 * p + q := by
    show (BitVec.ofInt 32 ((64 * p : Nat) : Int) ||| BitVec.ofInt 32 (q : Int)).toNat = _
    rw [BitVec.ofInt_natCast, BitVec.ofInt_natCast, BitVec.toNat_or, BitVec.toNat_ofNat, BitVec.toNat_ofNat, Nat.mod_eq_of_lt (by omega), Nat.mod_eq_of_lt (by omega)]
    have := Nat.two_pow_add_eq_or_of_lt (i := 6) (b := q) (by omega) p
    rw [show (2 : Nat) ^ 6 = 64 from rfl] at this
    exact this.symm
  rw [h3, wrap32 (by omega) (by omega)]

/-! ### The point that stands at the front -/
def lead (c : Nat) : Nat × Nat := if 192 ≤ c ∧ c < 224 then (c % 32, 2) else if 224 ≤ c ∧ c < 240 then (c % 16, 3) else if 240 ≤ c ∧ c < 248 then (c % 8, 4) else (0, 0)
def accP (l : List UInt8) (p : Nat) : Nat → Nat
  | 0 => p
  | k + 1 => 64 * accP l p k + (l.getD (k + 1) 0).toNat % 64
def contB (l : List UInt8) (k : Nat) : Prop := ∀ j, j < k → 128 ≤ (l.getD (j + 1) 0).toNat ∧ (l.getD (j + 1) 0).toNat < 192
instance {l : List UInt8} {k : Nat} : Decidable (contB l k) := by unfold contB; infer_instance
def pointN (q : Nat) : Prop := q < 55296 ∨ (57343 < q ∧ q ≤ 1114111)
instance {q : Nat} : Decidable (pointN q) := by unfold pointN; infer_instance
def lowN (n : Nat) : Nat := if n = 2 then 128 else if n = 3 then 2048 else 65536
def nextOf (l : List UInt8) : Option (Nat × Nat) :=
  if l = [] then none else if (l.getD 0 0).toNat < 128 then some ((l.getD 0 0).toNat, 1) else
    let r := lead (l.getD 0 0).toNat
    if r.2 = 0 ∨ l.length < r.2 ∨ ¬ contB l (r.2 - 1) ∨ ¬ pointN (accP l r.1 (r.2 - 1)) ∨ accP l r.1 (r.2 - 1) < lowN r.2 then none else some (accP l r.1 (r.2 - 1), r.2)
def nextV (l : List UInt8) : PV := match nextOf l with
  | some (p, n) => .tup [.int .i32 (p : Int), .int .i64 (n : Int), .int .i64 0]
  | none => .tup [.int .i32 0, .int .i64 0, .int .i64 (if l = [] then 42 else 20)]
theorem nextV_some {l : List UInt8} {p n : Nat} (h : nextOf l = some (p, n)) : nextV l = .tup [.int .i32 (p : Int), .int .i64 (n : Int), .int .i64 0] := by simp [nextV, h]
theorem nextV_none {l : List UInt8} (h : nextOf l = none) (hl : l ≠ []) : nextV l = .tup [.int .i32 0, .int .i64 0, .int .i64 20] := by simp [nextV, h, hl]

theorem isPoint_spec {p : Nat} : call prog (.fn 83 []) [.int .i32 (p : Int)] st = some (.bool (decide (pointN p)), st) := by
  refine call_of_W prog_83 ?_
  unfold F_utf_isPoint; dsimp only
  have e0 : (0 : Int) ≤ (p : Int) := by omega
  by_cases h1 : p ≤ 1114111
  · have e1 : (p : Int) ≤ 1114111 := by omega
    by_cases h2 : p < 55296
    · have e2 : (p : Int) < 55296 := by omega
      simp (maxSteps := 1000000) (disch := omega) only [e0, e1, e2, qaaz, qabz, qacz, qadz, qaez, qafz, qagz, qahz, qaiz, qajz, qakz, qalz, qamz, qanz, evOp, qaoz, qapz, qaqz, qarz, qasz, qatz, qauz, qavz,
 ↓reduceIte, Nat.reduceEqDiff, List.nil_append, List.cons_append, List.append_nil, List.map_cons, List.map_nil, qawz, qaxz, qayz, Option.map_some, Option.map_none, qazz, qbaz, qbbz, qbcz, qbdz, qbez, qbfz, qbgz, qbhz, qbiz, qbjz, qbkz, qblz, qbmz, qbnz, qboz,
 qbpz, qbqz, qbrz, qbsz, qbtz, qbuz, qbvz, qbwz, qbxz, qbyz, qbzz, qcaz, qcbz, qccz, qcdz, qcez, qcfz, qcgz, qchz, qciz, beq_true, beq_false, Bool.not_eq_true', decide_eq_true_eq, decide_eq_false_iff_not, decide_true, decide_false,
 Int.toNat_natCast, Int.ofNat_lt, Int.ofNat_le, Int.natCast_inj, Bool.false_eq_true, Bool.true_eq_false, qcjz, List.getElem?_cons_zero, List.getElem?_cons_succ, qckz, Int.reduceToNat, Int.reduceLE, true_and, and_true, reduceCtorEq, or_false, false_or, or_true, Option.some.injEq, exists_eq_left', Bool.not_true, Bool.not_false, ne_eq, Int.reduceEq, not_true_eq_false, not_false_eq_true, Int.reduceLT, UInt8.reduceLT, UInt8.reduceLE, UInt8.reduceToNat]
      rw [show decide (pointN p) = true by simp [pointN, h2]]
      exact end1 rfl Kp_bool
    · have e2 : ¬ (p : Int) < 55296 := by omega
      by_cases h3 : 57343 < p
      · have e3 : (57343 : Int) < (p : Int) := by omega
        simp (maxSteps := 1000000) (disch := omega) only [e0, e1, e2, e3, qaaz, qabz, qacz, qadz, qaez, qafz, qagz, qahz, qaiz, qajz, qakz, qalz, qamz, qanz, evOp, qaoz, qapz, qaqz, qarz, qasz, qatz, qauz, qavz,
 ↓reduceIte, Nat.reduceEqDiff, List.nil_append, List.cons_append, List.append_nil, List.map_cons, List.map_nil, qawz, qaxz, qayz, Option.map_some, Option.map_none, qazz, qbaz, qbbz, qbcz, qbdz, qbez, qbfz, qbgz, qbhz, qbiz, qbjz, qbkz, qblz, qbmz, qbnz, qboz,
 qbpz, qbqz, qbrz, qbsz, qbtz, qbuz, qbvz, qbwz, qbxz, qbyz, qbzz, qcaz, qcbz, qccz, qcdz, qcez, qcfz, qcgz, qchz, qciz, beq_true, beq_false, Bool.not_eq_true', decide_eq_true_eq, decide_eq_false_iff_not, decide_true, decide_false,
 Int.toNat_natCast, Int.ofNat_lt, Int.ofNat_le, Int.natCast_inj, Bool.false_eq_true, Bool.true_eq_false, qcjz, List.getElem?_cons_zero, List.getElem?_cons_succ, qckz, Int.reduceToNat, Int.reduceLE, true_and, and_true, reduceCtorEq, or_false, false_or, or_true, Option.some.injEq, exists_eq_left', Bool.not_true, Bool.not_false, ne_eq, Int.reduceEq, not_true_eq_false, not_false_eq_true, Int.reduceLT, UInt8.reduceLT, UInt8.reduceLE, UInt8.reduceToNat]
        rw [show decide (pointN p) = true by simp [pointN, h3, h1]]
        exact end1 rfl Kp_bool
      · have e3 : ¬ (57343 : Int) < (p : Int) := by omega
        simp (maxSteps := 1000000) (disch := omega) only [e0, e1, e2, e3, qaaz, qabz, qacz, qadz, qaez, qafz, qagz, qahz, qaiz, qajz, qakz, qalz, qamz, qanz, evOp, qaoz, qapz, qaqz, qarz, qasz, qatz, qauz, qavz,
 ↓reduceIte, Nat.reduceEqDiff, List.nil_append, List.cons_append, List.append_nil, List.map_cons, List.map_nil, qawz, qaxz, qayz, Option.map_some, Option.map_none, qazz, qbaz, qbbz, qbcz, qbdz, qbez, qbfz, qbgz, qbhz, qbiz, qbjz, qbkz, qblz, qbmz, qbnz, qboz,
 qbpz, qbqz, qbrz, qbsz, qbtz, qbuz, qbvz, qbwz, qbxz, qbyz, qbzz, qcaz, qcbz, qccz, qcdz, qcez, qcfz, qcgz, qchz, qciz, beq_true, beq_false, Bool.not_eq_true', decide_eq_true_eq, decide_eq_false_iff_not, decide_true, decide_false,
 Int.toNat_natCast, Int.ofNat_lt, Int.ofNat_le, Int.natCast_inj, Bool.false_eq_true, Bool.true_eq_false, qcjz, List.getElem?_cons_zero, List.getElem?_cons_succ, qckz, Int.reduceToNat, Int.reduceLE, true_and, and_true, reduceCtorEq, or_false, false_or, or_true, Option.some.injEq, exists_eq_left', Bool.not_true, Bool.not_false, ne_eq, Int.reduceEq, not_true_eq_false, not_false_eq_true, Int.reduceLT, UInt8.reduceLT, UInt8.reduceLE, UInt8.reduceToNat]
        rw [show decide (pointN p) = false from decide_eq_false (by unfold pointN; omega)]
        exact end1 rfl Kp_bool
  · have e1 : ¬ (p : Int) ≤ 1114111 := by omega
    simp (maxSteps := 1000000) (disch := omega) only [e0, e1, qaaz, qabz, qacz, qadz, qaez, qafz, qagz, qahz, qaiz, qajz, qakz, qalz, qamz, qanz, evOp, qaoz, qapz, qaqz, qarz, qasz, qatz, qauz, qavz,
 ↓reduceIte, Nat.reduceEqDiff, List.nil_append, List.cons_append, List.append_nil, List.map_cons, List.map_nil, qawz, qaxz, qayz, Option.map_some, Option.map_none, qazz, qbaz, qbbz, qbcz, qbdz, qbez, qbfz, qbgz, qbhz, qbiz, qbjz, qbkz, qblz, qbmz, qbnz, qboz,
 qbpz, qbqz, qbrz, qbsz, qbtz, qbuz, qbvz, qbwz, qbxz, qbyz, qbzz, qcaz, qcbz, qccz, qcdz, qcez, qcfz, qcgz, qchz, qciz, beq_true, beq_false, Bool.not_eq_true', decide_eq_true_eq, decide_eq_false_iff_not, decide_true, decide_false,
 Int.toNat_natCast, Int.ofNat_lt, Int.ofNat_le, Int.natCast_inj, Bool.false_eq_true, Bool.true_eq_false, qcjz, List.getElem?_cons_zero, List.getElem?_cons_succ, qckz, Int.reduceToNat, Int.reduceLE, true_and, and_true, reduceCtorEq, or_false, false_or, or_true, Option.some.injEq, exists_eq_left', Bool.not_true, Bool.not_false, ne_eq, Int.reduceEq, not_true_eq_false, not_false_eq_true, Int.reduceLT, UInt8.reduceLT, UInt8.reduceLE, UInt8.reduceToNat]
    rw [show decide (pointN p) = false from decide_eq_false (by unfold pointN; omega)]
    exact end1 rfl Kp_bool

theorem accP_lt {l : List UInt8} {p : Nat} : ∀ k, accP l p k < (p + 1) * 64 ^ k := by
  intro k
  induction k with
  | zero => simp [accP]
  | succ k ih =>
    simp only [accP, Nat.pow_succ]
    have := Nat.mod_lt (l.getD (k + 1) 0).toNat (show 64 > 0 by omega)
    rw [← Nat.mul_assoc]
    generalize (p + 1) * 64 ^ k = z at *
    omega
theorem lead_cases (c : Nat) : lead c = (0, 0) ∨ (lead c = (c % 32, 2)) ∨ (lead c = (c % 16, 3)) ∨ (lead c = (c % 8, 4)) := by
  unfold lead
  split
  · exact .inr (.inl rfl)
  · split
    · exact .inr (.inr (.inl rfl))
    · split
      · exact .inr (.inr (.inr rfl))
      · exact .inl rfl
end Go.Ab

/-
  The point at a text's front: the program's function.
-/
namespace Go.Ab
set_option linter.unusedVariables false
set_option linter.unusedSimpArgs false
variable {A : AP} {st s : St} {e : Env}

/-- What is asked within a scope that has one label. -/
def scopeQ (A : AP) (b rest : ACode) (Q : Ex → Env → St → Prop) : Ex → Env → St → Prop
  | .goto l, e, s => if l = 0 then W A (.scopeAt b rest) e s Q else False
  | x, e, s => Q x e s
theorem W_scope1 {b rest : ACode} {Q : Ex → Env → St → Prop} (hl : findLabelA b 0 = some rest) (h : W A b e st (scopeQ A b rest Q)) : W A (.scope b) e st Q := by
  rw [W_scope]
  refine W_scopeAt (W_mono h ?_)
  intro x e s hq
  cases x with
  | goto l =>
    simp only [scopeQ] at hq
    split at hq
    · rename_i h0; subst h0
      simp only [hl]; exact hq
    · cases hq
  | normal => exact hq
  | ret => exact hq
  | exit i => exact hq

theorem mid_getD {l : List UInt8} {n k : Nat} (h : k + 1 < n) : ((l.take n).drop 1).getD k 0 = l.getD (k + 1) 0 := by
  simp only [List.getD, List.getElem?_drop, List.getElem?_take]
  rw [if_pos (by omega), Nat.add_comm]

set_option maxHeartbeats 1000000 in
theorem uNext_spec {x : PV} {l : List UInt8} (hx : x.by = some l) (hl : l.length ≤ 100000000) : call prog (.fn 77 []) [x] st = some (nextV l, st) := by
  refine call_of_W prog_77 ?_
  unfold F_utf_Next; dsimp only
  refine W_cut (fun E S => Kept st S ∧ E 0 = x) ?_ ?_
  · simp (maxSteps := 1000000) (disch := omega) only [qaaz, qabz, qacz, qadz, qaez, qafz, qagz, qahz, qaiz, qajz, qakz, qalz, qamz, qanz, evOp, qaoz, qapz, qaqz, qarz, qasz, qatz, qauz, qavz,
 ↓reduceIte, Nat.reduceEqDiff, List.nil_append, List.cons_append, List.append_nil, List.map_cons, List.map_nil, qawz, qaxz, qayz, Option.map_some, Option.map_none, qazz, qbaz, qbbz, qbcz, qbdz, qbez, qbfz, qbgz, qbhz, qbiz, qbjz, qbkz, qblz, qbmz, qbnz, qboz,
 qbpz, qbqz, qbrz, qbsz, qbtz, qbuz, qbvz, qbwz, qbxz, qbyz, qbzz, qcaz, qcbz, qccz, qcdz, qcez, qcfz, qcgz, qchz, qciz, beq_true, beq_false, Bool.not_eq_true', decide_eq_true_eq, decide_eq_false_iff_not, decide_true, decide_false,
 Int.toNat_natCast, Int.ofNat_lt, Int.ofNat_le, Int.natCast_inj, Bool.false_eq_true, Bool.true_eq_false, qcjz, List.getElem?_cons_zero, List.getElem?_cons_succ, qckz, Int.reduceToNat, Int.reduceLE, true_and, and_true, reduceCtorEq, or_false, false_or, or_true, Option.some.injEq, exists_eq_left', Bool.not_true, Bool.not_false, ne_eq, Int.reduceEq, not_true_eq_false, not_false_eq_true, Int.reduceLT, UInt8.reduceLT, UInt8.reduceLE, UInt8.reduceToNat]
    exact Kept.start
  rintro e S ⟨hk, h0⟩
  refine W_scope1 rfl ?_
  generalize hR : scopeQ prog _ _ _ = R
  have fin : ∀ (E : Env) (S : St) (p n c : Int), Kept st S → nextV l = .tup [.int .i32 p, .int .i64 n, .int .i64 c] → E 2 = .int .i32 p → E 3 = .int .i64 n → E 4 = .int .i64 c → R .ret E S := by
    intro E S p n c k1 hv k2 k3 k4
    rw [← hR]
    show endQ _ _ _ .ret E S
    rw [qblz]
    exact ⟨.tup [.int .i32 p, .int .i64 n, .int .i64 c], by simp [resOf, rvAll, rv1, k2, k3, k4, notTup, packRes], by rw [hv]; exact k1.leave rfl (fun _ _ => rfl)⟩
  have wrong : ∀ (E : Env) (S : St), Kept st S → nextOf l = none → l ≠ [] → R (.goto 0) E S := by
    intro E S k1 hv hne
    rw [← hR]
    simp only [scopeQ, if_true]
    refine W_scopeAt ?_
    simp (maxSteps := 1000000) (disch := omega) only [qaaz, qabz, qacz, qadz, qaez, qafz, qagz, qahz, qaiz, qajz, qakz, qalz, qamz, qanz, evOp, qaoz, qapz, qaqz, qarz, qasz, qatz, qauz, qavz,
 ↓reduceIte, Nat.reduceEqDiff, List.nil_append, List.cons_append, List.append_nil, List.map_cons, List.map_nil, qawz, qaxz, qayz, Option.map_some, Option.map_none, qazz, qbaz, qbbz, qbcz, qbdz, qbez, qbfz, qbgz, qbhz, qbiz, qbjz, qbkz, qblz, qbmz, qbnz, qboz,
 qbpz, qbqz, qbrz, qbsz, qbtz, qbuz, qbvz, qbwz, qbxz, qbyz, qbzz, qcaz, qcbz, qccz, qcdz, qcez, qcfz, qcgz, qchz, qciz, beq_true, beq_false, Bool.not_eq_true', decide_eq_true_eq, decide_eq_false_iff_not, decide_true, decide_false,
 Int.toNat_natCast, Int.ofNat_lt, Int.ofNat_le, Int.natCast_inj, Bool.false_eq_true, Bool.true_eq_false, qcjz, List.getElem?_cons_zero, List.getElem?_cons_succ, qckz, Int.reduceToNat, Int.reduceLE, true_and, and_true, reduceCtorEq, or_false, false_or, or_true, Option.some.injEq, exists_eq_left', Bool.not_true, Bool.not_false, ne_eq, Int.reduceEq, not_true_eq_false, not_false_eq_true, Int.reduceLT, UInt8.reduceLT, UInt8.reduceLE, UInt8.reduceToNat]
    exact ⟨.tup [.int .i32 0, .int .i64 0, .int .i64 20], rfl, by rw [nextV_none hv hne]; exact k1.leave rfl (fun _ _ => rfl)⟩
  clear hR
  by_cases hne : l = []
  · have e1 : decide ((l.length : Int) = 0) = true := by simp [hne]
    simp (maxSteps := 1000000) (disch := omega) only [h0, len_by hx, e1, qaaz, qabz, qacz, qadz, qaez, qafz, qagz, qahz, qaiz, qajz, qakz, qalz, qamz, qanz, evOp, qaoz, qapz, qaqz, qarz, qasz, qatz, qauz, qavz,
 ↓reduceIte, Nat.reduceEqDiff, List.nil_append, List.cons_append, List.append_nil, List.map_cons, List.map_nil, qawz, qaxz, qayz, Option.map_some, Option.map_none, qazz, qbaz, qbbz, qbcz, qbdz, qbez, qbfz, qbgz, qbhz, qbiz, qbjz, qbkz, qblz, qbmz, qbnz, qboz,
 qbpz, qbqz, qbrz, qbsz, qbtz, qbuz, qbvz, qbwz, qbxz, qbyz, qbzz, qcaz, qcbz, qccz, qcdz, qcez, qcfz, qcgz, qchz, qciz, beq_true, beq_false, Bool.not_eq_true', decide_eq_true_eq, decide_eq_false_iff_not, decide_true, decide_false,
 Int.toNat_natCast, Int.ofNat_lt, Int.ofNat_le, Int.natCast_inj, Bool.false_eq_true, Bool.true_eq_false, qcjz, List.getElem?_cons_zero, List.getElem?_cons_succ, qckz, Int.reduceToNat, Int.reduceLE, true_and, and_true, reduceCtorEq, or_false, false_or, or_true, Option.some.injEq, exists_eq_left', Bool.not_true, Bool.not_false, ne_eq, Int.reduceEq, not_true_eq_false, not_false_eq_true, Int.reduceLT, UInt8.reduceLT, UInt8.reduceLE, UInt8.reduceToNat]
    exact fin _ _ 0 0 42 hk (by simp [nextV, nextOf, hne]) rfl rfl rfl
  have hlen : 0 < l.length := List.length_pos_iff.2 hne
  have e1 : ¬ ((l.length : Int) = 0) := by omega
  obtain ⟨c, hc⟩ : ∃ c, c = l.getD 0 0 := ⟨_, rfl⟩
  have hi0 : iaddrPV 1 x (.int .i64 0) = some (.cp [.b8 c]) := by rw [hc]; exact iaddr_by hx (by omega) (by simpa using hlen)
  by_cases h128 : c < 128
  · have h128' : c.toNat < 128 := by rw [UInt8.lt_iff_toNat_lt] at h128; simpa using h128
    simp (maxSteps := 1000000) (disch := omega) only [h0, len_by hx, e1, hi0, qciz, h128, cI32, qaaz, qabz, qacz, qadz, qaez, qafz, qagz, qahz, qaiz, qajz, qakz, qalz, qamz, qanz, evOp, qaoz, qapz, qaqz, qarz, qasz, qatz, qauz, qavz,
 ↓reduceIte, Nat.reduceEqDiff, List.nil_append, List.cons_append, List.append_nil, List.map_cons, List.map_nil, qawz, qaxz, qayz, Option.map_some, Option.map_none, qazz, qbaz, qbbz, qbcz, qbdz, qbez, qbfz, qbgz, qbhz, qbiz, qbjz, qbkz, qblz, qbmz, qbnz, qboz,
 qbpz, qbqz, qbrz, qbsz, qbtz, qbuz, qbvz, qbwz, qbxz, qbyz, qbzz, qcaz, qcbz, qccz, qcdz, qcez, qcfz, qcgz, qchz, qciz, beq_true, beq_false, Bool.not_eq_true', decide_eq_true_eq, decide_eq_false_iff_not, decide_true, decide_false,
 Int.toNat_natCast, Int.ofNat_lt, Int.ofNat_le, Int.natCast_inj, Bool.false_eq_true, Bool.true_eq_false, qcjz, List.getElem?_cons_zero, List.getElem?_cons_succ, qckz, Int.reduceToNat, Int.reduceLE, true_and, and_true, reduceCtorEq, or_false, false_or, or_true, Option.some.injEq, exists_eq_left', Bool.not_true, Bool.not_false, ne_eq, Int.reduceEq, not_true_eq_false, not_false_eq_true, Int.reduceLT, UInt8.reduceLT, UInt8.reduceLE, UInt8.reduceToNat]
    exact fin _ _ (c.toNat : Int) 1 0 hk (nextV_some (p := c.toNat) (n := 1) (by unfold nextOf; rw [if_neg hne, ← hc, if_pos h128'])) rfl rfl rfl
  have h128' : ¬ c.toNat < 128 := by rw [UInt8.lt_iff_toNat_lt] at h128; simpa using h128
  obtain ⟨p, n, hpn⟩ : ∃ p n, lead c.toNat = (p, n) := ⟨_, _, rfl⟩
  have hnx : nextOf l = if n = 0 ∨ l.length < n ∨ ¬ contB l (n - 1) ∨ ¬ pointN (accP l p (n - 1)) ∨ accP l p (n - 1) < lowN n then none else some (accP l p (n - 1), n) := by
    unfold nextOf
    rw [if_neg hne, ← hc, if_neg h128', hpn]
  refine W_cut (fun E S => Kept st S ∧ E 0 = x ∧ E 5 = .int .i32 0) ?_ ?_
  · simp (maxSteps := 1000000) (disch := omega) only [h0, qaaz, qabz, qacz, qadz, qaez, qafz, qagz, qahz, qaiz, qajz, qakz, qalz, qamz, qanz, evOp, qaoz, qapz, qaqz, qarz, qasz, qatz, qauz, qavz,
 ↓reduceIte, Nat.reduceEqDiff, List.nil_append, List.cons_append, List.append_nil, List.map_cons, List.map_nil, qawz, qaxz, qayz, Option.map_some, Option.map_none, qazz, qbaz, qbbz, qbcz, qbdz, qbez, qbfz, qbgz, qbhz, qbiz, qbjz, qbkz, qblz, qbmz, qbnz, qboz,
 qbpz, qbqz, qbrz, qbsz, qbtz, qbuz, qbvz, qbwz, qbxz, qbyz, qbzz, qcaz, qcbz, qccz, qcdz, qcez, qcfz, qcgz, qchz, qciz, beq_true, beq_false, Bool.not_eq_true', decide_eq_true_eq, decide_eq_false_iff_not, decide_true, decide_false,
 Int.toNat_natCast, Int.ofNat_lt, Int.ofNat_le, Int.natCast_inj, Bool.false_eq_true, Bool.true_eq_false, qcjz, List.getElem?_cons_zero, List.getElem?_cons_succ, qckz, Int.reduceToNat, Int.reduceLE, true_and, and_true, reduceCtorEq, or_false, false_or, or_true, Option.some.injEq, exists_eq_left', Bool.not_true, Bool.not_false, ne_eq, Int.reduceEq, not_true_eq_false, not_false_eq_true, Int.reduceLT, UInt8.reduceLT, UInt8.reduceLE, UInt8.reduceToNat]
    exact hk
  clear hk h0
  rintro e S ⟨hk, h0, h5⟩
  refine W_cut (fun E S => Kept st S ∧ E 0 = x ∧ E 5 = .int .i32 0 ∧ E 6 = .int .i64 0) ?_ ?_
  · simp (maxSteps := 1000000) (disch := omega) only [h0, h5, qaaz, qabz, qacz, qadz, qaez, qafz, qagz, qahz, qaiz, qajz, qakz, qalz, qamz, qanz, evOp, qaoz, qapz, qaqz, qarz, qasz, qatz, qauz, qavz,
 ↓reduceIte, Nat.reduceEqDiff, List.nil_append, List.cons_append, List.append_nil, List.map_cons, List.map_nil, qawz, qaxz, qayz, Option.map_some, Option.map_none, qazz, qbaz, qbbz, qbcz, qbdz, qbez, qbfz, qbgz, qbhz, qbiz, qbjz, qbkz, qblz, qbmz, qbnz, qboz,
 qbpz, qbqz, qbrz, qbsz, qbtz, qbuz, qbvz, qbwz, qbxz, qbyz, qbzz, qcaz, qcbz, qccz, qcdz, qcez, qcfz, qcgz, qchz, qciz, beq_true, beq_false, Bool.not_eq_true', decide_eq_true_eq, decide_eq_false_iff_not, decide_true, decide_false,
 Int.toNat_natCast, Int.ofNat_lt, Int.ofNat_le, Int.natCast_inj, Bool.false_eq_true, Bool.true_eq_false, qcjz, List.getElem?_cons_zero, List.getElem?_cons_succ, qckz, Int.reduceToNat, Int.reduceLE, true_and, and_true, reduceCtorEq, or_false, false_or, or_true, Option.some.injEq, exists_eq_left', Bool.not_true, Bool.not_false, ne_eq, Int.reduceEq, not_true_eq_false, not_false_eq_true, Int.reduceLT, UInt8.reduceLT, UInt8.reduceLE, UInt8.reduceToNat]
    exact hk
  clear hk h0 h5
  rintro e S ⟨hk, h0, h5, h6⟩
  refine W_cut (fun E S => Kept st S ∧ E 0 = x ∧ E 5 = .int .i32 0 ∧ E 6 = .int .i64 0) ?_ ?_
  · simp (maxSteps := 1000000) (disch := omega) only [h0, h5, h6, len_by hx, e1, qaaz, qabz, qacz, qadz, qaez, qafz, qagz, qahz, qaiz, qajz, qakz, qalz, qamz, qanz, evOp, qaoz, qapz, qaqz, qarz, qasz, qatz, qauz, qavz,
 ↓reduceIte, Nat.reduceEqDiff, List.nil_append, List.cons_append, List.append_nil, List.map_cons, List.map_nil, qawz, qaxz, qayz, Option.map_some, Option.map_none, qazz, qbaz, qbbz, qbcz, qbdz, qbez, qbfz, qbgz, qbhz, qbiz, qbjz, qbkz, qblz, qbmz, qbnz, qboz,
 qbpz, qbqz, qbrz, qbsz, qbtz, qbuz, qbvz, qbwz, qbxz, qbyz, qbzz, qcaz, qcbz, qccz, qcdz, qcez, qcfz, qcgz, qchz, qciz, beq_true, beq_false, Bool.not_eq_true', decide_eq_true_eq, decide_eq_false_iff_not, decide_true, decide_false,
 Int.toNat_natCast, Int.ofNat_lt, Int.ofNat_le, Int.natCast_inj, Bool.false_eq_true, Bool.true_eq_false, qcjz, List.getElem?_cons_zero, List.getElem?_cons_succ, qckz, Int.reduceToNat, Int.reduceLE, true_and, and_true, reduceCtorEq, or_false, false_or, or_true, Option.some.injEq, exists_eq_left', Bool.not_true, Bool.not_false, ne_eq, Int.reduceEq, not_true_eq_false, not_false_eq_true, Int.reduceLT, UInt8.reduceLT, UInt8.reduceLE, UInt8.reduceToNat]
    exact hk
  clear hk h0 h5 h6
  rintro e S ⟨hk, h0, h5, h6⟩
  refine W_cut (fun E S => Kept st S ∧ E 0 = x ∧ E 5 = .int .i32 (p : Int) ∧ E 6 = .int .i64 (n : Int)) ?_ ?_
  · by_cases q2 : UInt8.ofNat (c.toNat / 32) = 6
    · have := (is2 c).1 q2
      obtain ⟨rfl, rfl⟩ : p = c.toNat % 32 ∧ n = 2 := by
        unfold lead at hpn; rw [if_pos this] at hpn; cases hpn; exact ⟨rfl, rfl⟩
      simp (maxSteps := 1000000) (disch := omega) only [h0, h5, h6, hi0, qciz, h128, shr5, eq_true q2, and_8, cI32, and31, qaaz, qabz, qacz, qadz, qaez, qafz, qagz, qahz, qaiz, qajz, qakz, qalz, qamz, qanz, evOp, qaoz, qapz, qaqz, qarz, qasz, qatz, qauz, qavz,
 ↓reduceIte, Nat.reduceEqDiff, List.nil_append, List.cons_append, List.append_nil, List.map_cons, List.map_nil, qawz, qaxz, qayz, Option.map_some, Option.map_none, qazz, qbaz, qbbz, qbcz, qbdz, qbez, qbfz, qbgz, qbhz, qbiz, qbjz, qbkz, qblz, qbmz, qbnz, qboz,
 qbpz, qbqz, qbrz, qbsz, qbtz, qbuz, qbvz, qbwz, qbxz, qbyz, qbzz, qcaz, qcbz, qccz, qcdz, qcez, qcfz, qcgz, qchz, qciz, beq_true, beq_false, Bool.not_eq_true', decide_eq_true_eq, decide_eq_false_iff_not, decide_true, decide_false,
 Int.toNat_natCast, Int.ofNat_lt, Int.ofNat_le, Int.natCast_inj, Bool.false_eq_true, Bool.true_eq_false, qcjz, List.getElem?_cons_zero, List.getElem?_cons_succ, qckz, Int.reduceToNat, Int.reduceLE, true_and, and_true, reduceCtorEq, or_false, false_or, or_true, Option.some.injEq, exists_eq_left', Bool.not_true, Bool.not_false, ne_eq, Int.reduceEq, not_true_eq_false, not_false_eq_true, Int.reduceLT, UInt8.reduceLT, UInt8.reduceLE, UInt8.reduceToNat]
      exact ⟨hk, rfl⟩
    have n2 : ¬ (192 ≤ c.toNat ∧ c.toNat < 224) := fun h => q2 ((is2 c).2 h)
    by_cases q3 : UInt8.ofNat (c.toNat / 16) = 14
    · have := (is3 c).1 q3
      obtain ⟨rfl, rfl⟩ : p = c.toNat % 16 ∧ n = 3 := by
        unfold lead at hpn; rw [if_neg n2, if_pos this] at hpn; cases hpn; exact ⟨rfl, rfl⟩
      simp (maxSteps := 1000000) (disch := omega) only [h0, h5, h6, hi0, qciz, h128, shr5, shr4, q2, eq_true q3, and_8, cI32, and15, qaaz, qabz, qacz, qadz, qaez, qafz, qagz, qahz, qaiz, qajz, qakz, qalz, qamz, qanz, evOp, qaoz, qapz, qaqz, qarz, qasz, qatz, qauz, qavz,
 ↓reduceIte, Nat.reduceEqDiff, List.nil_append, List.cons_append, List.append_nil, List.map_cons, List.map_nil, qawz, qaxz, qayz, Option.map_some, Option.map_none, qazz, qbaz, qbbz, qbcz, qbdz, qbez, qbfz, qbgz, qbhz, qbiz, qbjz, qbkz, qblz, qbmz, qbnz, qboz,
 qbpz, qbqz, qbrz, qbsz, qbtz, qbuz, qbvz, qbwz, qbxz, qbyz, qbzz, qcaz, qcbz, qccz, qcdz, qcez, qcfz, qcgz, qchz, qciz, beq_true, beq_false, Bool.not_eq_true', decide_eq_true_eq, decide_eq_false_iff_not, decide_true, decide_false,
 Int.toNat_natCast, Int.ofNat_lt, Int.ofNat_le, Int.natCast_inj, Bool.false_eq_true, Bool.true_eq_false, qcjz, List.getElem?_cons_zero, List.getElem?_cons_succ, qckz, Int.reduceToNat, Int.reduceLE, true_and, and_true, reduceCtorEq, or_false, false_or, or_true, Option.some.injEq, exists_eq_left', Bool.not_true, Bool.not_false, ne_eq, Int.reduceEq, not_true_eq_false, not_false_eq_true, Int.reduceLT, UInt8.reduceLT, UInt8.reduceLE, UInt8.reduceToNat]
      exact ⟨hk, rfl⟩
    have n3 : ¬ (224 ≤ c.toNat ∧ c.toNat < 240) := fun h => q3 ((is3 c).2 h)
    by_cases q4 : UInt8.ofNat (c.toNat / 8) = 30
    · have := (is4 c).1 q4
      obtain ⟨rfl, rfl⟩ : p = c.toNat % 8 ∧ n = 4 := by
        unfold lead at hpn; rw [if_neg n2, if_neg n3, if_pos this] at hpn; cases hpn; exact ⟨rfl, rfl⟩
      simp (maxSteps := 1000000) (disch := omega) only [h0, h5, h6, hi0, qciz, h128, shr5, shr4, shr3, q2, q3, eq_true q4, and_8, cI32, and7, qaaz, qabz, qacz, qadz, qaez, qafz, qagz, qahz, qaiz, qajz, qakz, qalz, qamz, qanz, evOp, qaoz, qapz, qaqz, qarz, qasz, qatz, qauz, qavz,
 ↓reduceIte, Nat.reduceEqDiff, List.nil_append, List.cons_append, List.append_nil, List.map_cons, List.map_nil, qawz, qaxz, qayz, Option.map_some, Option.map_none, qazz, qbaz, qbbz, qbcz, qbdz, qbez, qbfz, qbgz, qbhz, qbiz, qbjz, qbkz, qblz, qbmz, qbnz, qboz,
 qbpz, qbqz, qbrz, qbsz, qbtz, qbuz, qbvz, qbwz, qbxz, qbyz, qbzz, qcaz, qcbz, qccz, qcdz, qcez, qcfz, qcgz, qchz, qciz, beq_true, beq_false, Bool.not_eq_true', decide_eq_true_eq, decide_eq_false_iff_not, decide_true, decide_false,
 Int.toNat_natCast, Int.ofNat_lt, Int.ofNat_le, Int.natCast_inj, Bool.false_eq_true, Bool.true_eq_false, qcjz, List.getElem?_cons_zero, List.getElem?_cons_succ, qckz, Int.reduceToNat, Int.reduceLE, true_and, and_true, reduceCtorEq, or_false, false_or, or_true, Option.some.injEq, exists_eq_left', Bool.not_true, Bool.not_false, ne_eq, Int.reduceEq, not_true_eq_false, not_false_eq_true, Int.reduceLT, UInt8.reduceLT, UInt8.reduceLE, UInt8.reduceToNat]
      exact ⟨hk, rfl⟩
    have n4 : ¬ (240 ≤ c.toNat ∧ c.toNat < 248) := fun h => q4 ((is4 c).2 h)
    obtain ⟨rfl, rfl⟩ : p = 0 ∧ n = 0 := by
      unfold lead at hpn; rw [if_neg n2, if_neg n3, if_neg n4] at hpn; cases hpn; exact ⟨rfl, rfl⟩
    simp (maxSteps := 1000000) (disch := omega) only [h0, h5, h6, hi0, qciz, h128, shr5, shr4, shr3, q2, q3, q4, qaaz, qabz, qacz, qadz, qaez, qafz, qagz, qahz, qaiz, qajz, qakz, qalz, qamz, qanz, evOp, qaoz, qapz, qaqz, qarz, qasz, qatz, qauz, qavz,
 ↓reduceIte, Nat.reduceEqDiff, List.nil_append, List.cons_append, List.append_nil, List.map_cons, List.map_nil, qawz, qaxz, qayz, Option.map_some, Option.map_none, qazz, qbaz, qbbz, qbcz, qbdz, qbez, qbfz, qbgz, qbhz, qbiz, qbjz, qbkz, qblz, qbmz, qbnz, qboz,
 qbpz, qbqz, qbrz, qbsz, qbtz, qbuz, qbvz, qbwz, qbxz, qbyz, qbzz, qcaz, qcbz, qccz, qcdz, qcez, qcfz, qcgz, qchz, qciz, beq_true, beq_false, Bool.not_eq_true', decide_eq_true_eq, decide_eq_false_iff_not, decide_true, decide_false,
 Int.toNat_natCast, Int.ofNat_lt, Int.ofNat_le, Int.natCast_inj, Bool.false_eq_true, Bool.true_eq_false, qcjz, List.getElem?_cons_zero, List.getElem?_cons_succ, qckz, Int.reduceToNat, Int.reduceLE, true_and, and_true, reduceCtorEq, or_false, false_or, or_true, Option.some.injEq, exists_eq_left', Bool.not_true, Bool.not_false, ne_eq, Int.reduceEq, not_true_eq_false, not_false_eq_true, Int.reduceLT, UInt8.reduceLT, UInt8.reduceLE, UInt8.reduceToNat]
    exact ⟨hk, rfl, rfl⟩
  clear hk h0 h5 h6
  rintro e S ⟨hk, h0, h5, h6⟩
  by_cases hn0 : n = 0
  · have e2 : decide ((n : Int) = 0) = true := by simp [hn0]
    simp (maxSteps := 1000000) (disch := omega) only [h0, h5, h6, len_by hx, e2, qaaz, qabz, qacz, qadz, qaez, qafz, qagz, qahz, qaiz, qajz, qakz, qalz, qamz, qanz, evOp, qaoz, qapz, qaqz, qarz, qasz, qatz, qauz, qavz,
 ↓reduceIte, Nat.reduceEqDiff, List.nil_append, List.cons_append, List.append_nil, List.map_cons, List.map_nil, qawz, qaxz, qayz, Option.map_some, Option.map_none, qazz, qbaz, qbbz, qbcz, qbdz, qbez, qbfz, qbgz, qbhz, qbiz, qbjz, qbkz, qblz, qbmz, qbnz, qboz,
 qbpz, qbqz, qbrz, qbsz, qbtz, qbuz, qbvz, qbwz, qbxz, qbyz, qbzz, qcaz, qcbz, qccz, qcdz, qcez, qcfz, qcgz, qchz, qciz, beq_true, beq_false, Bool.not_eq_true', decide_eq_true_eq, decide_eq_false_iff_not, decide_true, decide_false,
 Int.toNat_natCast, Int.ofNat_lt, Int.ofNat_le, Int.natCast_inj, Bool.false_eq_true, Bool.true_eq_false, qcjz, List.getElem?_cons_zero, List.getElem?_cons_succ, qckz, Int.reduceToNat, Int.reduceLE, true_and, and_true, reduceCtorEq, or_false, false_or, or_true, Option.some.injEq, exists_eq_left', Bool.not_true, Bool.not_false, ne_eq, Int.reduceEq, not_true_eq_false, not_false_eq_true, Int.reduceLT, UInt8.reduceLT, UInt8.reduceLE, UInt8.reduceToNat]
    exact wrong _ _ hk (by rw [hnx, if_pos (.inl hn0)]) hne
  have e2 : ¬ (n : Int) = 0 := by omega
  by_cases hln : l.length < n
  · have e3 : (l.length : Int) < (n : Int) := by omega
    simp (maxSteps := 1000000) (disch := omega) only [h0, h5, h6, len_by hx, e2, e3, qaaz, qabz, qacz, qadz, qaez, qafz, qagz, qahz, qaiz, qajz, qakz, qalz, qamz, qanz, evOp, qaoz, qapz, qaqz, qarz, qasz, qatz, qauz, qavz,
 ↓reduceIte, Nat.reduceEqDiff, List.nil_append, List.cons_append, List.append_nil, List.map_cons, List.map_nil, qawz, qaxz, qayz, Option.map_some, Option.map_none, qazz, qbaz, qbbz, qbcz, qbdz, qbez, qbfz, qbgz, qbhz, qbiz, qbjz, qbkz, qblz, qbmz, qbnz, qboz,
 qbpz, qbqz, qbrz, qbsz, qbtz, qbuz, qbvz, qbwz, qbxz, qbyz, qbzz, qcaz, qcbz, qccz, qcdz, qcez, qcfz, qcgz, qchz, qciz, beq_true, beq_false, Bool.not_eq_true', decide_eq_true_eq, decide_eq_false_iff_not, decide_true, decide_false,
 Int.toNat_natCast, Int.ofNat_lt, Int.ofNat_le, Int.natCast_inj, Bool.false_eq_true, Bool.true_eq_false, qcjz, List.getElem?_cons_zero, List.getElem?_cons_succ, qckz, Int.reduceToNat, Int.reduceLE, true_and, and_true, reduceCtorEq, or_false, false_or, or_true, Option.some.injEq, exists_eq_left', Bool.not_true, Bool.not_false, ne_eq, Int.reduceEq, not_true_eq_false, not_false_eq_true, Int.reduceLT, UInt8.reduceLT, UInt8.reduceLE, UInt8.reduceToNat]
    exact wrong _ _ hk (by rw [hnx, if_pos (.inr (.inl hln))]) hne
  have e3 : ¬ (l.length : Int) < (n : Int) := by omega
  have hn24 : (n = 2 ∧ p < 32) ∨ (n = 3 ∧ p < 16) ∨ (n = 4 ∧ p < 8) := by
    rcases lead_cases c.toNat with h | h | h | h
    · rw [hpn] at h; cases h; exact absurd rfl hn0
    · rw [hpn] at h; cases h; exact .inl ⟨rfl, by omega⟩
    · rw [hpn] at h; cases h; exact .inr (.inl ⟨rfl, by omega⟩)
    · rw [hpn] at h; cases h; exact .inr (.inr ⟨rfl, by omega⟩)
  have hacc : ∀ k, k ≤ 3 → accP l p k < 33554432 := by
    intro k hk
    have := accP_lt (l := l) (p := p) k
    have h64 : (p + 1) * 64 ^ k ≤ 32 * 64 ^ 3 := Nat.mul_le_mul (by omega) (Nat.pow_le_pow_right (by omega) hk)
    have : 32 * 64 ^ 3 = 8388608 := by decide
    omega
  refine W_cut (fun E S => Kept st S ∧ E 0 = x ∧ E 5 = .int .i32 (p : Int) ∧ E 6 = .int .i64 (n : Int)) ?_ ?_
  · simp (maxSteps := 1000000) (disch := omega) only [h0, h5, h6, len_by hx, e2, e3, qaaz, qabz, qacz, qadz, qaez, qafz, qagz, qahz, qaiz, qajz, qakz, qalz, qamz, qanz, evOp, qaoz, qapz, qaqz, qarz, qasz, qatz, qauz, qavz,
 ↓reduceIte, Nat.reduceEqDiff, List.nil_append, List.cons_append, List.append_nil, List.map_cons, List.map_nil, qawz, qaxz, qayz, Option.map_some, Option.map_none, qazz, qbaz, qbbz, qbcz, qbdz, qbez, qbfz, qbgz, qbhz, qbiz, qbjz, qbkz, qblz, qbmz, qbnz, qboz,
 qbpz, qbqz, qbrz, qbsz, qbtz, qbuz, qbvz, qbwz, qbxz, qbyz, qbzz, qcaz, qcbz, qccz, qcdz, qcez, qcfz, qcgz, qchz, qciz, beq_true, beq_false, Bool.not_eq_true', decide_eq_true_eq, decide_eq_false_iff_not, decide_true, decide_false,
 Int.toNat_natCast, Int.ofNat_lt, Int.ofNat_le, Int.natCast_inj, Bool.false_eq_true, Bool.true_eq_false, qcjz, List.getElem?_cons_zero, List.getElem?_cons_succ, qckz, Int.reduceToNat, Int.reduceLE, true_and, and_true, reduceCtorEq, or_false, false_or, or_true, Option.some.injEq, exists_eq_left', Bool.not_true, Bool.not_false, ne_eq, Int.reduceEq, not_true_eq_false, not_false_eq_true, Int.reduceLT, UInt8.reduceLT, UInt8.reduceLE, UInt8.reduceToNat]
    exact hk
  clear hk h0 h5 h6
  rintro e S ⟨hk, h0, h5, h6⟩
  have hml : ((l.take n).drop 1).length = n - 1 := by simp; omega
  have hslc : slcPV 1 x (some (.int .i64 1)) (some (.int .i64 (n : Int))) none = some (x.midB 1 n) := by
    have := slc_lohi (k := .i64) (k' := .i64) (c := 1) (d := (n : Int)) hx (by omega) (by omega) (by simpa using (by omega : n ≤ l.length))
    simpa using this
  have hmb : (x.midB 1 n).by = some ((l.take n).drop 1) := midB_by hx
  have hlm := len_by hmb
  rw [hml] at hlm
  obtain ⟨I, hI⟩ : ∃ I : Nat → Env → St → Prop, I = fun m E S => ∃ k, m = n - 1 - k ∧ k ≤ n - 1 ∧ contB l k ∧ Kept st S ∧ E 0 = x ∧ E 5 = .int .i32 ((accP l p k : Nat) : Int) ∧ E 6 = .int .i64 (n : Int) ∧ E 52 = x.midB 1 n ∧ E 53 = .int .i64 ((n - 1 : Nat) : Int) ∧ E 54 = .int .i64 (k : Int) := ⟨_, rfl⟩
  -- one round of the loop
  have start : I (n - 1) (upd (upd (upd (upd (upd e 50 x) 51 (.int .i64 (n : Int))) 52 (x.midB 1 n)) 53 (.int .i64 ((n - 1 : Nat) : Int))) 54 (.int .i64 0)) S := by
    rw [hI]
    exact ⟨0, rfl, by omega, fun j h => by omega, hk, h0, h5, h6, rfl, rfl, rfl⟩
  have nxt : ∀ (k : Nat) (E : Env) (S : St), contB l (k + 1) → k + 1 ≤ n - 1 → Kept st S → E 0 = x → E 5 = .int .i32 ((accP l p (k + 1) : Nat) : Int) → E 6 = .int .i64 (n : Int) → E 52 = x.midB 1 n → E 53 = .int .i64 ((n - 1 : Nat) : Int) → E 54 = .int .i64 ((k + 1 : Nat) : Int) → I (n - 1 - (k + 1)) E S := by
    intro k E S q1 q2 q3 q4 q5 q6 q7 q8 q9
    rw [hI]; exact ⟨k + 1, rfl, q2, q1, q3, q4, q5, q6, q7, q8, q9⟩
  by_cases hcb : contB l (n - 1)
  · refine W_cut (fun E S => Kept st S ∧ E 0 = x ∧ E 5 = .int .i32 ((accP l p (n - 1) : Nat) : Int) ∧ E 6 = .int .i64 (n : Int)) ?_ ?_
    · simp (maxSteps := 1000000) (disch := omega) only [h0, h5, h6, hslc, hlm, qaaz, qabz, qacz, qadz, qaez, qafz, qagz, qahz, qaiz, qajz, qakz, qalz, qamz, qanz, evOp, qaoz, qapz, qaqz, qarz, qasz, qatz, qauz, qavz,
 ↓reduceIte, Nat.reduceEqDiff, List.nil_append, List.cons_append, List.append_nil, List.map_cons, List.map_nil, qawz, qaxz, qayz, Option.map_some, Option.map_none, qazz, qbaz, qbbz, qbcz, qbdz, qbez, qbfz, qbgz, qbhz, qbiz, qbjz, qbkz, qblz, qbmz, qbnz, qboz,
 qbpz, qbqz, qbrz, qbsz, qbtz, qbuz, qbvz, qbwz, qbxz, qbyz, qbzz, qcaz, qcbz, qccz, qcdz, qcez, qcfz, qcgz, qchz, qciz, beq_true, beq_false, Bool.not_eq_true', decide_eq_true_eq, decide_eq_false_iff_not, decide_true, decide_false,
 Int.toNat_natCast, Int.ofNat_lt, Int.ofNat_le, Int.natCast_inj, Bool.false_eq_true, Bool.true_eq_false, qcjz, List.getElem?_cons_zero, List.getElem?_cons_succ, qckz, Int.reduceToNat, Int.reduceLE, true_and, and_true, reduceCtorEq, or_false, false_or, or_true, Option.some.injEq, exists_eq_left', Bool.not_true, Bool.not_false, ne_eq, Int.reduceEq, not_true_eq_false, not_false_eq_true, Int.reduceLT, UInt8.reduceLT, UInt8.reduceLE, UInt8.reduceToNat]
      refine W_loop I ?_ start
      clear hk h0 h5 h6 start
      intro m E S hh
      rw [hI] at hh
      obtain ⟨k, rfl, hk1, hck, hk, h0, h5, h6, h52, h53, h54⟩ := hh
      by_cases hlt : k < n - 1
      · obtain ⟨d, hd⟩ : ∃ d, d = l.getD (k + 1) 0 := ⟨_, rfl⟩
        have hid : iaddrPV 1 (x.midB 1 n) (.int .i64 (k : Int)) = some (.cp [.b8 d]) := by
          rw [iaddr_by hmb (by omega) (by rw [hml]; simpa using hlt), Int.toNat_natCast, mid_getD (by omega), ← hd]
        have hdc := hcb k hlt
        rw [← hd] at hdc
        have q6 : UInt8.ofNat (d.toNat / 64) = 2 := (isC d).2 hdc
        have ha := hacc k (by omega)
        have hstep : accP l p (k + 1) = 64 * accP l p k + d.toNat % 64 := by rw [hd]; rfl
        simp (maxSteps := 1000000) (disch := omega) only [h0, h5, h6, h52, h53, h54, hlt, hid, qciz, shr6, eq_true q6, shl6 ha, and_8, cI32, and63, or_i32 (q := d.toNat % 64) ha (by omega), add_n, qaaz, qabz, qacz, qadz, qaez, qafz, qagz, qahz, qaiz, qajz, qakz, qalz, qamz, qanz, evOp, qaoz, qapz, qaqz, qarz, qasz, qatz, qauz, qavz,
 ↓reduceIte, Nat.reduceEqDiff, List.nil_append, List.cons_append, List.append_nil, List.map_cons, List.map_nil, qawz, qaxz, qayz, Option.map_some, Option.map_none, qazz, qbaz, qbbz, qbcz, qbdz, qbez, qbfz, qbgz, qbhz, qbiz, qbjz, qbkz, qblz, qbmz, qbnz, qboz,
 qbpz, qbqz, qbrz, qbsz, qbtz, qbuz, qbvz, qbwz, qbxz, qbyz, qbzz, qcaz, qcbz, qccz, qcdz, qcez, qcfz, qcgz, qchz, qciz, beq_true, beq_false, Bool.not_eq_true', decide_eq_true_eq, decide_eq_false_iff_not, decide_true, decide_false,
 Int.toNat_natCast, Int.ofNat_lt, Int.ofNat_le, Int.natCast_inj, Bool.false_eq_true, Bool.true_eq_false, qcjz, List.getElem?_cons_zero, List.getElem?_cons_succ, qckz, Int.reduceToNat, Int.reduceLE, true_and, and_true, reduceCtorEq, or_false, false_or, or_true, Option.some.injEq, exists_eq_left', Bool.not_true, Bool.not_false, ne_eq, Int.reduceEq, not_true_eq_false, not_false_eq_true, Int.reduceLT, UInt8.reduceLT, UInt8.reduceLE, UInt8.reduceToNat]
        exact loopQ_intro (m := n - 1 - (k + 1)) (by omega) (nxt k _ _ (fun j hj => by
          by_cases hjk : j = k
          · subst hjk; rw [← hd]; exact hdc
          · exact hck j (by omega)) (by omega) hk h0 (by rw [hstep]; rfl) h6 h52 h53 rfl)
      · obtain rfl : k = n - 1 := by omega
        simp (maxSteps := 1000000) (disch := omega) only [h0, h5, h6, h52, h53, h54, hlt, qaaz, qabz, qacz, qadz, qaez, qafz, qagz, qahz, qaiz, qajz, qakz, qalz, qamz, qanz, evOp, qaoz, qapz, qaqz, qarz, qasz, qatz, qauz, qavz,
 ↓reduceIte, Nat.reduceEqDiff, List.nil_append, List.cons_append, List.append_nil, List.map_cons, List.map_nil, qawz, qaxz, qayz, Option.map_some, Option.map_none, qazz, qbaz, qbbz, qbcz, qbdz, qbez, qbfz, qbgz, qbhz, qbiz, qbjz, qbkz, qblz, qbmz, qbnz, qboz,
 qbpz, qbqz, qbrz, qbsz, qbtz, qbuz, qbvz, qbwz, qbxz, qbyz, qbzz, qcaz, qcbz, qccz, qcdz, qcez, qcfz, qcgz, qchz, qciz, beq_true, beq_false, Bool.not_eq_true', decide_eq_true_eq, decide_eq_false_iff_not, decide_true, decide_false,
 Int.toNat_natCast, Int.ofNat_lt, Int.ofNat_le, Int.natCast_inj, Bool.false_eq_true, Bool.true_eq_false, qcjz, List.getElem?_cons_zero, List.getElem?_cons_succ, qckz, Int.reduceToNat, Int.reduceLE, true_and, and_true, reduceCtorEq, or_false, false_or, or_true, Option.some.injEq, exists_eq_left', Bool.not_true, Bool.not_false, ne_eq, Int.reduceEq, not_true_eq_false, not_false_eq_true, Int.reduceLT, UInt8.reduceLT, UInt8.reduceLE, UInt8.reduceToNat]
        exact hk
    clear hk h0 h5 h6 start
    rintro e S ⟨hk, h0, h5, h6⟩
    obtain ⟨v, hv⟩ : ∃ v, v = accP l p (n - 1) := ⟨_, rfl⟩
    rw [← hv] at h5 hnx
    have hip := fun S : St => isPoint_spec (st := S) (p := v)
    by_cases hpt : pointN v
    · simp only [decide_eq_true hpt] at hip
      by_cases hlow : v < lowN n
      · have hno : nextOf l = none := by rw [hnx, if_pos (.inr (.inr (.inr (.inr hlow))))]
        rcases hn24 with ⟨rfl, -⟩ | ⟨rfl, -⟩ | ⟨rfl, -⟩
        · have h6' : e 6 = .int .i64 2 := h6
          have f1 : (v : Int) < 128 := by simp [lowN] at hlow; omega
          simp (maxSteps := 1000000) (disch := omega) only [h0, h5, h6', hip, f1, qaaz, qabz, qacz, qadz, qaez, qafz, qagz, qahz, qaiz, qajz, qakz, qalz, qamz, qanz, evOp, qaoz, qapz, qaqz, qarz, qasz, qatz, qauz, qavz,
 ↓reduceIte, Nat.reduceEqDiff, List.nil_append, List.cons_append, List.append_nil, List.map_cons, List.map_nil, qawz, qaxz, qayz, Option.map_some, Option.map_none, qazz, qbaz, qbbz, qbcz, qbdz, qbez, qbfz, qbgz, qbhz, qbiz, qbjz, qbkz, qblz, qbmz, qbnz, qboz,
 qbpz, qbqz, qbrz, qbsz, qbtz, qbuz, qbvz, qbwz, qbxz, qbyz, qbzz, qcaz, qcbz, qccz, qcdz, qcez, qcfz, qcgz, qchz, qciz, beq_true, beq_false, Bool.not_eq_true', decide_eq_true_eq, decide_eq_false_iff_not, decide_true, decide_false,
 Int.toNat_natCast, Int.ofNat_lt, Int.ofNat_le, Int.natCast_inj, Bool.false_eq_true, Bool.true_eq_false, qcjz, List.getElem?_cons_zero, List.getElem?_cons_succ, qckz, Int.reduceToNat, Int.reduceLE, true_and, and_true, reduceCtorEq, or_false, false_or, or_true, Option.some.injEq, exists_eq_left', Bool.not_true, Bool.not_false, ne_eq, Int.reduceEq, not_true_eq_false, not_false_eq_true, Int.reduceLT, UInt8.reduceLT, UInt8.reduceLE, UInt8.reduceToNat]
          exact wrong _ _ hk hno hne
        · have h6' : e 6 = .int .i64 3 := h6
          have f1 : (v : Int) < 2048 := by simp [lowN] at hlow; omega
          simp (maxSteps := 1000000) (disch := omega) only [h0, h5, h6', hip, f1, qaaz, qabz, qacz, qadz, qaez, qafz, qagz, qahz, qaiz, qajz, qakz, qalz, qamz, qanz, evOp, qaoz, qapz, qaqz, qarz, qasz, qatz, qauz, qavz,
 ↓reduceIte, Nat.reduceEqDiff, List.nil_append, List.cons_append, List.append_nil, List.map_cons, List.map_nil, qawz, qaxz, qayz, Option.map_some, Option.map_none, qazz, qbaz, qbbz, qbcz, qbdz, qbez, qbfz, qbgz, qbhz, qbiz, qbjz, qbkz, qblz, qbmz, qbnz, qboz,
 qbpz, qbqz, qbrz, qbsz, qbtz, qbuz, qbvz, qbwz, qbxz, qbyz, qbzz, qcaz, qcbz, qccz, qcdz, qcez, qcfz, qcgz, qchz, qciz, beq_true, beq_false, Bool.not_eq_true', decide_eq_true_eq, decide_eq_false_iff_not, decide_true, decide_false,
 Int.toNat_natCast, Int.ofNat_lt, Int.ofNat_le, Int.natCast_inj, Bool.false_eq_true, Bool.true_eq_false, qcjz, List.getElem?_cons_zero, List.getElem?_cons_succ, qckz, Int.reduceToNat, Int.reduceLE, true_and, and_true, reduceCtorEq, or_false, false_or, or_true, Option.some.injEq, exists_eq_left', Bool.not_true, Bool.not_false, ne_eq, Int.reduceEq, not_true_eq_false, not_false_eq_true, Int.reduceLT, UInt8.reduceLT, UInt8.reduceLE, UInt8.reduceToNat]
          exact wrong _ _ hk hno hne
        · have h6' : e 6 = .int .i64 4 := h6
          have f1 : (v : Int) < 65536 := by simp [lowN] at hlow; omega
          simp (maxSteps := 1000000) (disch := omega) only [h0, h5, h6', hip, f1, qaaz, qabz, qacz, qadz, qaez, qafz, qagz, qahz, qaiz, qajz, qakz, qalz, qamz, qanz, evOp, qaoz, qapz, qaqz, qarz, qasz, qatz, qauz, qavz,
 ↓reduceIte, Nat.reduceEqDiff, List.nil_append, List.cons_append, List.append_nil, List.map_cons, List.map_nil, qawz, qaxz, qayz, Option.map_some, Option.map_none, qazz, qbaz, qbbz, qbcz, qbdz, qbez, qbfz, qbgz, qbhz, qbiz, qbjz, qbkz, qblz, qbmz, qbnz, qboz,
 qbpz, qbqz, qbrz, qbsz, qbtz, qbuz, qbvz, qbwz, qbxz, qbyz, qbzz, qcaz, qcbz, qccz, qcdz, qcez, qcfz, qcgz, qchz, qciz, beq_true, beq_false, Bool.not_eq_true', decide_eq_true_eq, decide_eq_false_iff_not, decide_true, decide_false,
 Int.toNat_natCast, Int.ofNat_lt, Int.ofNat_le, Int.natCast_inj, Bool.false_eq_true, Bool.true_eq_false, qcjz, List.getElem?_cons_zero, List.getElem?_cons_succ, qckz, Int.reduceToNat, Int.reduceLE, true_and, and_true, reduceCtorEq, or_false, false_or, or_true, Option.some.injEq, exists_eq_left', Bool.not_true, Bool.not_false, ne_eq, Int.reduceEq, not_true_eq_false, not_false_eq_true, Int.reduceLT, UInt8.reduceLT, UInt8.reduceLE, UInt8.reduceToNat]
          exact wrong _ _ hk hno hne
      · have hyes : nextOf l = some (v, n) := by
          rw [hnx, if_neg]
          simp only [not_or, Classical.not_not]
          exact ⟨hn0, hln, hcb, hpt, hlow⟩
        rcases hn24 with ⟨rfl, -⟩ | ⟨rfl, -⟩ | ⟨rfl, -⟩
        · have h6' : e 6 = .int .i64 2 := h6
          have f1 : ¬ (v : Int) < 128 := by simp [lowN] at hlow; omega
          simp (maxSteps := 1000000) (disch := omega) only [h0, h5, h6', hip, f1, qaaz, qabz, qacz, qadz, qaez, qafz, qagz, qahz, qaiz, qajz, qakz, qalz, qamz, qanz, evOp, qaoz, qapz, qaqz, qarz, qasz, qatz, qauz, qavz,
 ↓reduceIte, Nat.reduceEqDiff, List.nil_append, List.cons_append, List.append_nil, List.map_cons, List.map_nil, qawz, qaxz, qayz, Option.map_some, Option.map_none, qazz, qbaz, qbbz, qbcz, qbdz, qbez, qbfz, qbgz, qbhz, qbiz, qbjz, qbkz, qblz, qbmz, qbnz, qboz,
 qbpz, qbqz, qbrz, qbsz, qbtz, qbuz, qbvz, qbwz, qbxz, qbyz, qbzz, qcaz, qcbz, qccz, qcdz, qcez, qcfz, qcgz, qchz, qciz, beq_true, beq_false, Bool.not_eq_true', decide_eq_true_eq, decide_eq_false_iff_not, decide_true, decide_false,
 Int.toNat_natCast, Int.ofNat_lt, Int.ofNat_le, Int.natCast_inj, Bool.false_eq_true, Bool.true_eq_false, qcjz, List.getElem?_cons_zero, List.getElem?_cons_succ, qckz, Int.reduceToNat, Int.reduceLE, true_and, and_true, reduceCtorEq, or_false, false_or, or_true, Option.some.injEq, exists_eq_left', Bool.not_true, Bool.not_false, ne_eq, Int.reduceEq, not_true_eq_false, not_false_eq_true, Int.reduceLT, UInt8.reduceLT, UInt8.reduceLE, UInt8.reduceToNat]
          exact fin _ _ _ _ _ hk (nextV_some hyes) rfl rfl rfl
        · have h6' : e 6 = .int .i64 3 := h6
          have f1 : ¬ (v : Int) < 2048 := by simp [lowN] at hlow; omega
          simp (maxSteps := 1000000) (disch := omega) only [h0, h5, h6', hip, f1, qaaz, qabz, qacz, qadz, qaez, qafz, qagz, qahz, qaiz, qajz, qakz, qalz, qamz, qanz, evOp, qaoz, qapz, qaqz, qarz, qasz, qatz, qauz, qavz,
 ↓reduceIte, Nat.reduceEqDiff, List.nil_append, List.cons_append, List.append_nil, List.map_cons, List.map_nil, qawz, qaxz, qayz, Option.map_some, Option.map_none, qazz, qbaz, qbbz, qbcz, qbdz, qbez, qbfz, qbgz, qbhz, qbiz, qbjz, qbkz, qblz, qbmz, qbnz, qboz,
 qbpz, qbqz, qbrz, qbsz, qbtz, qbuz, qbvz, qbwz, qbxz, qbyz, qbzz, qcaz, qcbz, qccz, qcdz, qcez, qcfz, qcgz, qchz, qciz, beq_true, beq_false, Bool.not_eq_true', decide_eq_true_eq, decide_eq_false_iff_not, decide_true, decide_false,
 Int.toNat_natCast, Int.ofNat_lt, Int.ofNat_le, Int.natCast_inj, Bool.false_eq_true, Bool.true_eq_false, qcjz, List.getElem?_cons_zero, List.getElem?_cons_succ, qckz, Int.reduceToNat, Int.reduceLE, true_and, and_true, reduceCtorEq, or_false, false_or, or_true, Option.some.injEq, exists_eq_left', Bool.not_true, Bool.not_false, ne_eq, Int.reduceEq, not_true_eq_false, not_false_eq_true, Int.reduceLT, UInt8.reduceLT, UInt8.reduceLE, UInt8.reduceToNat]
          exact fin _ _ _ _ _ hk (nextV_some hyes) rfl rfl rfl
        · have h6' : e 6 = .int .i64 4 := h6
          have f1 : ¬ (v : Int) < 65536 := by simp [lowN] at hlow; omega
          simp (maxSteps := 1000000) (disch := omega) only [h0, h5, h6', hip, f1, qaaz, qabz, qacz, qadz, qaez, qafz, qagz, qahz, qaiz, qajz, qakz, qalz, qamz, qanz, evOp, qaoz, qapz, qaqz, qarz, qasz, qatz, qauz, qavz,
 ↓reduceIte, Nat.reduceEqDiff, List.nil_append, List.cons_append, List.append_nil, List.map_cons, List.map_nil, qawz, qaxz, qayz, Option.map_some, Option.map_none, qazz, qbaz, qbbz, qbcz, qbdz, qbez, qbfz, qbgz, qbhz, qbiz, qbjz, qbkz, qblz, qbmz, qbnz, qboz,
 qbpz, qbqz, qbrz, qbsz, qbtz, qbuz, qbvz, qbwz, qbxz, qbyz, qbzz, qcaz, qcbz, qccz, qcdz, qcez, qcfz, qcgz, qchz, qciz, beq_true, beq_false, Bool.not_eq_true', decide_eq_true_eq, decide_eq_false_iff_not, decide_true, decide_false,
 Int.toNat_natCast, Int.ofNat_lt, Int.ofNat_le, Int.natCast_inj, Bool.false_eq_true, Bool.true_eq_false, qcjz, List.getElem?_cons_zero, List.getElem?_cons_succ, qckz, Int.reduceToNat, Int.reduceLE, true_and, and_true, reduceCtorEq, or_false, false_or, or_true, Option.some.injEq, exists_eq_left', Bool.not_true, Bool.not_false, ne_eq, Int.reduceEq, not_true_eq_false, not_false_eq_true, Int.reduceLT, UInt8.reduceLT, UInt8.reduceLE, UInt8.reduceToNat]
          exact fin _ _ _ _ _ hk (nextV_some hyes) rfl rfl rfl
    · simp only [decide_eq_false hpt] at hip
      simp (maxSteps := 1000000) (disch := omega) only [h0, h5, h6, hip, qaaz, qabz, qacz, qadz, qaez, qafz, qagz, qahz, qaiz, qajz, qakz, qalz, qamz, qanz, evOp, qaoz, qapz, qaqz, qarz, qasz, qatz, qauz, qavz,
 ↓reduceIte, Nat.reduceEqDiff, List.nil_append, List.cons_append, List.append_nil, List.map_cons, List.map_nil, qawz, qaxz, qayz, Option.map_some, Option.map_none, qazz, qbaz, qbbz, qbcz, qbdz, qbez, qbfz, qbgz, qbhz, qbiz, qbjz, qbkz, qblz, qbmz, qbnz, qboz,
 qbpz, qbqz, qbrz, qbsz, qbtz, qbuz, qbvz, qbwz, qbxz, qbyz, qbzz, qcaz, qcbz, qccz, qcdz, qcez, qcfz, qcgz, qchz, qciz, beq_true, beq_false, Bool.not_eq_true', decide_eq_true_eq, decide_eq_false_iff_not, decide_true, decide_false,
 Int.toNat_natCast, Int.ofNat_lt, Int.ofNat_le, Int.natCast_inj, Bool.false_eq_true, Bool.true_eq_false, qcjz, List.getElem?_cons_zero, List.getElem?_cons_succ, qckz, Int.reduceToNat, Int.reduceLE, true_and, and_true, reduceCtorEq, or_false, false_or, or_true, Option.some.injEq, exists_eq_left', Bool.not_true, Bool.not_false, ne_eq, Int.reduceEq, not_true_eq_false, not_false_eq_true, Int.reduceLT, UInt8.reduceLT, UInt8.reduceLE, UInt8.reduceToNat]
      exact wrong _ _ hk (by rw [hnx, if_pos (.inr (.inr (.inr (.inl hpt))))]) hne
  · have hno : nextOf l = none := by rw [hnx, if_pos (.inr (.inr (.inl hcb)))]
    simp (maxSteps := 1000000) (disch := omega) only [h0, h5, h6, hslc, hlm, qaaz, qabz, qacz, qadz, qaez, qafz, qagz, qahz, qaiz, qajz, qakz, qalz, qamz, qanz, evOp, qaoz, qapz, qaqz, qarz, qasz, qatz, qauz, qavz,
 ↓reduceIte, Nat.reduceEqDiff, List.nil_append, List.cons_append, List.append_nil, List.map_cons, List.map_nil, qawz, qaxz, qayz, Option.map_some, Option.map_none, qazz, qbaz, qbbz, qbcz, qbdz, qbez, qbfz, qbgz, qbhz, qbiz, qbjz, qbkz, qblz, qbmz, qbnz, qboz,
 qbpz, qbqz, qbrz, qbsz, qbtz, qbuz, qbvz, qbwz, qbxz, qbyz, qbzz, qcaz, qcbz, qccz, qcdz, qcez, qcfz, qcgz, qchz, qciz, beq_true, beq_false, Bool.not_eq_true', decide_eq_true_eq, decide_eq_false_iff_not, decide_true, decide_false,
 Int.toNat_natCast, Int.ofNat_lt, Int.ofNat_le, Int.natCast_inj, Bool.false_eq_true, Bool.true_eq_false, qcjz, List.getElem?_cons_zero, List.getElem?_cons_succ, qckz, Int.reduceToNat, Int.reduceLE, true_and, and_true, reduceCtorEq, or_false, false_or, or_true, Option.some.injEq, exists_eq_left', Bool.not_true, Bool.not_false, ne_eq, Int.reduceEq, not_true_eq_false, not_false_eq_true, Int.reduceLT, UInt8.reduceLT, UInt8.reduceLE, UInt8.reduceToNat]
    refine W_loop I ?_ start
    clear hk h0 h5 h6 start
    intro m E S hh
    rw [hI] at hh
    obtain ⟨k, rfl, hk1, hck, hk, h0, h5, h6, h52, h53, h54⟩ := hh
    by_cases hlt : k < n - 1
    · obtain ⟨d, hd⟩ : ∃ d, d = l.getD (k + 1) 0 := ⟨_, rfl⟩
      have hid : iaddrPV 1 (x.midB 1 n) (.int .i64 (k : Int)) = some (.cp [.b8 d]) := by
        rw [iaddr_by hmb (by omega) (by rw [hml]; simpa using hlt), Int.toNat_natCast, mid_getD (by omega), ← hd]
      by_cases q6 : UInt8.ofNat (d.toNat / 64) = 2
      · have hdc := (isC d).1 q6
        have ha := hacc k (by omega)
        have hstep : accP l p (k + 1) = 64 * accP l p k + d.toNat % 64 := by rw [hd]; rfl
        simp (maxSteps := 1000000) (disch := omega) only [h0, h5, h6, h52, h53, h54, hlt, hid, qciz, shr6, eq_true q6, shl6 ha, and_8, cI32, and63, or_i32 (q := d.toNat % 64) ha (by omega), add_n, qaaz, qabz, qacz, qadz, qaez, qafz, qagz, qahz, qaiz, qajz, qakz, qalz, qamz, qanz, evOp, qaoz, qapz, qaqz, qarz, qasz, qatz, qauz, qavz,
 ↓reduceIte, Nat.reduceEqDiff, List.nil_append, List.cons_append, List.append_nil, List.map_cons, List.map_nil, qawz, qaxz, qayz, Option.map_some, Option.map_none, qazz, qbaz, qbbz, qbcz, qbdz, qbez, qbfz, qbgz, qbhz, qbiz, qbjz, qbkz, qblz, qbmz, qbnz, qboz,
 qbpz, qbqz, qbrz, qbsz, qbtz, qbuz, qbvz, qbwz, qbxz, qbyz, qbzz, qcaz, qcbz, qccz, qcdz, qcez, qcfz, qcgz, qchz, qciz, beq_true, beq_false, Bool.not_eq_true', decide_eq_true_eq, decide_eq_false_iff_not, decide_true, decide_false,
 Int.toNat_natCast, Int.ofNat_lt, Int.ofNat_le, Int.natCast_inj, Bool.false_eq_true, Bool.true_eq_false, qcjz, List.getElem?_cons_zero, List.getElem?_cons_succ, qckz, Int.reduceToNat, Int.reduceLE, true_and, and_true, reduceCtorEq, or_false, false_or, or_true, Option.some.injEq, exists_eq_left', Bool.not_true, Bool.not_false, ne_eq, Int.reduceEq, not_true_eq_false, not_false_eq_true, Int.reduceLT, UInt8.reduceLT, UInt8.reduceLE, UInt8.reduceToNat]
        exact loopQ_intro (m := n - 1 - (k + 1)) (by omega) (nxt k _ _ (fun j hj => by
          by_cases hjk : j = k
          · subst hjk; rw [← hd]; exact hdc
          · exact hck j (by omega)) (by omega) hk h0 (by rw [hstep]; rfl) h6 h52 h53 rfl)
      · simp (maxSteps := 1000000) (disch := omega) only [h0, h5, h6, h52, h53, h54, hlt, hid, qciz, shr6, q6, qaaz, qabz, qacz, qadz, qaez, qafz, qagz, qahz, qaiz, qajz, qakz, qalz, qamz, qanz, evOp, qaoz, qapz, qaqz, qarz, qasz, qatz, qauz, qavz,
 ↓reduceIte, Nat.reduceEqDiff, List.nil_append, List.cons_append, List.append_nil, List.map_cons, List.map_nil, qawz, qaxz, qayz, Option.map_some, Option.map_none, qazz, qbaz, qbbz, qbcz, qbdz, qbez, qbfz, qbgz, qbhz, qbiz, qbjz, qbkz, qblz, qbmz, qbnz, qboz,
 qbpz, qbqz, qbrz, qbsz, qbtz, qbuz, qbvz, qbwz, qbxz, qbyz, qbzz, qcaz, qcbz, qccz, qcdz, qcez, qcfz, qcgz, qchz, qciz, beq_true, beq_false, Bool.not_eq_true', decide_eq_true_eq, decide_eq_false_iff_not, decide_true, decide_false,
 Int.toNat_natCast, Int.ofNat_lt, Int.ofNat_le, Int.natCast_inj, Bool.false_eq_true, Bool.true_eq_false, qcjz, List.getElem?_cons_zero, List.getElem?_cons_succ, qckz, Int.reduceToNat, Int.reduceLE, true_and, and_true, reduceCtorEq, or_false, false_or, or_true, Option.some.injEq, exists_eq_left', Bool.not_true, Bool.not_false, ne_eq, Int.reduceEq, not_true_eq_false, not_false_eq_true, Int.reduceLT, UInt8.reduceLT, UInt8.reduceLE, UInt8.reduceToNat]
        exact wrong _ _ hk hno hne
    · obtain rfl : k = n - 1 := by omega
      exact absurd hck hcb
end Go.Ab

/-
  A point's bytes, by the document; the point at a text's front is the one whose bytes stand there.
-/
namespace Go.Ab
set_option linter.unusedVariables false
set_option linter.unusedSimpArgs false
variable {st s : St} {e : Env}

theorem rPoint_spec {p : Nat} : call prog (.fn 85 []) [.int .i32 (p : Int)] st = some (.bool (decide (pointN p)), st) := by
  refine call_of_W prog_85 ?_
  unfold F_posthornref02_Point; dsimp only
  have e0 : (0 : Int) ≤ (p : Int) := by omega
  by_cases h2 : p < 55296
  · have e2 : (p : Int) < 55296 := by omega
    simp (maxSteps := 1000000) (disch := omega) only [e0, e2, qaaz, qabz, qacz, qadz, qaez, qafz, qagz, qahz, qaiz, qajz, qakz, qalz, qamz, qanz, evOp, qaoz, qapz, qaqz, qarz, qasz, qatz, qauz, qavz,
 ↓reduceIte, Nat.reduceEqDiff, List.nil_append, List.cons_append, List.append_nil, List.map_cons, List.map_nil, qawz, qaxz, qayz, Option.map_some, Option.map_none, qazz, qbaz, qbbz, qbcz, qbdz, qbez, qbfz, qbgz, qbhz, qbiz, qbjz, qbkz, qblz, qbmz, qbnz, qboz,
 qbpz, qbqz, qbrz, qbsz, qbtz, qbuz, qbvz, qbwz, qbxz, qbyz, qbzz, qcaz, qcbz, qccz, qcdz, qcez, qcfz, qcgz, qchz, qciz, beq_true, beq_false, Bool.not_eq_true', decide_eq_true_eq, decide_eq_false_iff_not, decide_true, decide_false,
 Int.toNat_natCast, Int.ofNat_lt, Int.ofNat_le, Int.natCast_inj, Bool.false_eq_true, Bool.true_eq_false, qcjz, List.getElem?_cons_zero, List.getElem?_cons_succ, qckz, Int.reduceToNat, Int.reduceLE, true_and, and_true, reduceCtorEq, or_false, false_or, or_true, Option.some.injEq, exists_eq_left', Bool.not_true, Bool.not_false, ne_eq, Int.reduceEq, not_true_eq_false, not_false_eq_true, Int.reduceLT, UInt8.reduceLT, UInt8.reduceLE, UInt8.reduceToNat]
    rw [show decide (pointN p) = true by simp [pointN, h2]]
    exact end1 rfl Kp_bool
  have e2 : ¬ (p : Int) < 55296 := by omega
  by_cases h3 : 57343 < p
  · have e3 : (57343 : Int) < (p : Int) := by omega
    by_cases h1 : p ≤ 1114111
    · have e1 : (p : Int) ≤ 1114111 := by omega
      simp (maxSteps := 1000000) (disch := omega) only [e0, e1, e2, e3, qaaz, qabz, qacz, qadz, qaez, qafz, qagz, qahz, qaiz, qajz, qakz, qalz, qamz, qanz, evOp, qaoz, qapz, qaqz, qarz, qasz, qatz, qauz, qavz,
 ↓reduceIte, Nat.reduceEqDiff, List.nil_append, List.cons_append, List.append_nil, List.map_cons, List.map_nil, qawz, qaxz, qayz, Option.map_some, Option.map_none, qazz, qbaz, qbbz, qbcz, qbdz, qbez, qbfz, qbgz, qbhz, qbiz, qbjz, qbkz, qblz, qbmz, qbnz, qboz,
 qbpz, qbqz, qbrz, qbsz, qbtz, qbuz, qbvz, qbwz, qbxz, qbyz, qbzz, qcaz, qcbz, qccz, qcdz, qcez, qcfz, qcgz, qchz, qciz, beq_true, beq_false, Bool.not_eq_true', decide_eq_true_eq, decide_eq_false_iff_not, decide_true, decide_false,
 Int.toNat_natCast, Int.ofNat_lt, Int.ofNat_le, Int.natCast_inj, Bool.false_eq_true, Bool.true_eq_false, qcjz, List.getElem?_cons_zero, List.getElem?_cons_succ, qckz, Int.reduceToNat, Int.reduceLE, true_and, and_true, reduceCtorEq, or_false, false_or, or_true, Option.some.injEq, exists_eq_left', Bool.not_true, Bool.not_false, ne_eq, Int.reduceEq, not_true_eq_false, not_false_eq_true, Int.reduceLT, UInt8.reduceLT, UInt8.reduceLE, UInt8.reduceToNat]
      rw [show decide (pointN p) = true by simp [pointN, h3, h1]]
      exact end1 rfl Kp_bool
    · have e1 : ¬ (p : Int) ≤ 1114111 := by omega
      simp (maxSteps := 1000000) (disch := omega) only [e0, e1, e2, e3, qaaz, qabz, qacz, qadz, qaez, qafz, qagz, qahz, qaiz, qajz, qakz, qalz, qamz, qanz, evOp, qaoz, qapz, qaqz, qarz, qasz, qatz, qauz, qavz,
 ↓reduceIte, Nat.reduceEqDiff, List.nil_append, List.cons_append, List.append_nil, List.map_cons, List.map_nil, qawz, qaxz, qayz, Option.map_some, Option.map_none, qazz, qbaz, qbbz, qbcz, qbdz, qbez, qbfz, qbgz, qbhz, qbiz, qbjz, qbkz, qblz, qbmz, qbnz, qboz,
 qbpz, qbqz, qbrz, qbsz, qbtz, qbuz, qbvz, qbwz, qbxz, qbyz, qbzz, qcaz, qcbz, qccz, qcdz, qcez, qcfz, qcgz, qchz, qciz, beq_true, beq_false, Bool.not_eq_true', decide_eq_true_eq, decide_eq_false_iff_not, decide_true, decide_false,
 Int.toNat_natCast, Int.ofNat_lt, Int.ofNat_le, Int.natCast_inj, Bool.false_eq_true, Bool.true_eq_false, qcjz, List.getElem?_cons_zero, List.getElem?_cons_succ, qckz, Int.reduceToNat, Int.reduceLE, true_and, and_true, reduceCtorEq, or_false, false_or, or_true, Option.some.injEq, exists_eq_left', Bool.not_true, Bool.not_false, ne_eq, Int.reduceEq, not_true_eq_false, not_false_eq_true, Int.reduceLT, UInt8.reduceLT, UInt8.reduceLE, UInt8.reduceToNat]
      rw [show decide (pointN p) = false from decide_eq_false (by unfold pointN; omega)]
      exact end1 rfl Kp_bool
  · have e3 : ¬ (57343 : Int) < (p : Int) := by omega
    simp (maxSteps := 1000000) (disch := omega) only [e0, e2, e3, qaaz, qabz, qacz, qadz, qaez, qafz, qagz, qahz, qaiz, qajz, qakz, qalz, qamz, qanz, evOp, qaoz, qapz, qaqz, qarz, qasz, qatz, qauz, qavz,
 ↓reduceIte, Nat.reduceEqDiff, List.nil_append, List.cons_append, List.append_nil, List.map_cons, List.map_nil, qawz, qaxz, qayz, Option.map_some, Option.map_none, qazz, qbaz, qbbz, qbcz, qbdz, qbez, qbfz, qbgz, qbhz, qbiz, qbjz, qbkz, qblz, qbmz, qbnz, qboz,
 qbpz, qbqz, qbrz, qbsz, qbtz, qbuz, qbvz, qbwz, qbxz, qbyz, qbzz, qcaz, qcbz, qccz, qcdz, qcez, qcfz, qcgz, qchz, qciz, beq_true, beq_false, Bool.not_eq_true', decide_eq_true_eq, decide_eq_false_iff_not, decide_true, decide_false,
 Int.toNat_natCast, Int.ofNat_lt, Int.ofNat_le, Int.natCast_inj, Bool.false_eq_true, Bool.true_eq_false, qcjz, List.getElem?_cons_zero, List.getElem?_cons_succ, qckz, Int.reduceToNat, Int.reduceLE, true_and, and_true, reduceCtorEq, or_false, false_or, or_true, Option.some.injEq, exists_eq_left', Bool.not_true, Bool.not_false, ne_eq, Int.reduceEq, not_true_eq_false, not_false_eq_true, Int.reduceLT, UInt8.reduceLT, UInt8.reduceLE, UInt8.reduceToNat]
    rw [show decide (pointN p) = false from decide_eq_false (by unfold pointN; omega)]
    exact end1 rfl Kp_bool

def putOf (p : Nat) : List UInt8 :=
  if p < 128 then [UInt8.ofNat p] else if p < 2048 then [UInt8.ofNat (192 + p / 64), UInt8.ofNat (128 + p % 64)]
  else if p < 65536 then [UInt8.ofNat (224 + p / 4096), UInt8.ofNat (128 + p / 64 % 64), UInt8.ofNat (128 + p % 64)]
  else [UInt8.ofNat (240 + p / 262144), UInt8.ofNat (128 + p / 4096 % 64), UInt8.ofNat (128 + p / 64 % 64), UInt8.ofNat (128 + p % 64)]

theorem quo32 {ek : EK} {p : Nat} {c : Int} (h1 : 0 < c) (h : p < 2147483648) : binPV .quo ek (.int .i32 (p : Int)) (.int .i32 c) = some (.int .i32 ((p / c.toNat : Nat) : Int)) := by
  obtain ⟨d, rfl⟩ : ∃ d : Nat, c = (d : Int) := ⟨c.toNat, by omega⟩
  simp only [binPV, binI, if_true]
  rw [if_neg (by omega), Int.toNat_natCast]
  have : (p : Int).tdiv (d : Int) = ((p / d : Nat) : Int) := (Int.ofNat_tdiv p d).symm
  have h3 := Nat.div_le_self p d
  have h4 : (0 : Int) ≤ ((p / d : Nat) : Int) := Int.natCast_nonneg _
  rw [this, wrap32 (by omega) (by omega)]
theorem rem32 {ek : EK} {p : Nat} {c : Int} (h1 : 0 < c) : binPV .rem ek (.int .i32 (p : Int)) (.int .i32 c) = some (.int .i32 ((p % c.toNat : Nat) : Int)) := by
  obtain ⟨d, rfl⟩ : ∃ d : Nat, c = (d : Int) := ⟨c.toNat, by omega⟩
  simp only [binPV, binI, if_true]
  rw [if_neg (by omega), Int.toNat_natCast]
  have : (p : Int).tmod (d : Int) = ((p % d : Nat) : Int) := (Int.ofNat_tmod p d).symm
  rw [this]
theorem addc32 {ek : EK} {a : Nat} {c : Int} (h1 : 0 ≤ c) (h2 : c.toNat + a < 2147483648) : binPV .add ek (.int .i32 c) (.int .i32 (a : Int)) = some (.int .i32 ((c.toNat + a : Nat) : Int)) := by
  simp only [binPV, binI, reduceIte, Option.some.injEq]
  rw [wrap32 (by omega) (by omega)]
  congr 1; omega
theorem cI8 {n : Nat} (h : n < 256) : cIntPV .u8 (.int .i32 (n : Int)) = some (.b8 (UInt8.ofNat n)) := by
  simp only [cIntPV]
  have : IntKind.u8.wrap (n : Int) = (n : Int) := by
    unfold IntKind.wrap
    simp only [IntKind.signed, IntKind.bits]
    simp
    omega
  rw [this, Int.toNat_natCast]
theorem leave_mine2 {v : PV} {l : List UInt8} {n : Int} (hk : Kept st s) (hm : Mine st s v l) (hne : l ≠ []) : leave st s (.tup [v, .int .i64 n]) = (.tup [.bys (.own st.toks.length) l, .int .i64 n], st.tok1) := by
  have e1 := hk.bx; have e2 := hk.lp; have e3 := hk.tk
  rcases hm.1 with ⟨rfl, rfl⟩ | ⟨i, rfl, hi⟩
  · exact absurd rfl hne
  · have h2 := hm.2 i rfl
    simp [leave, PV.inB, PV.inB.inBAll, hk.lw, keepRes, keepVals, keepVal, keepLeaf, keepTok, hi, show ¬ i < st.toks.length by omega, e1, e2, e3, St.tok1]
theorem lit8_3 {a b c : UInt8} : lit8Fill (List.replicate 3 0) [(0, .b8 a), (1, .b8 b), (2, .b8 c)] = some [a, b, c] := rfl
theorem lit8_4 {a b c d : UInt8} : lit8Fill (List.replicate 4 0) [(0, .b8 a), (1, .b8 b), (2, .b8 c), (3, .b8 d)] = some [a, b, c, d] := rfl

def putV (st : St) (p : Nat) : PV × St := if pointN p then (.tup [.bys (.own st.toks.length) (putOf p), .int .i64 0], st.tok1) else (.tup [.nils, .int .i64 20], st)

theorem Put_spec {p : Nat} (hp : p < 2147483648) : call prog (.fn 81 []) [.int .i32 (p : Int)] st = some (putV st p) := by
  refine call_of_W prog_81 ?_
  unfold F_posthornref02_Put; dsimp only
  have hk : Kept st { boxes := st.boxes, toks := st.toks, loops := st.loops, low := st.boxes.length } := Kept.start
  have hip := fun S : St => rPoint_spec (st := S) (p := p)
  by_cases hpt : pointN p
  · simp only [decide_eq_true hpt] at hip
    have hpt2 : p ≤ 1114111 := by unfold pointN at hpt; omega
    have hv : putV st p = (.tup [.bys (.own st.toks.length) (putOf p), .int .i64 0], st.tok1) := by simp [putV, hpt]
    have fin : ∀ (v : PV) (S : St), Kept st S → Mine st S v (putOf p) → ∀ E : Env, E 2 = v → E 3 = .int .i64 0 → ∃ rv, resOf E S [.tmp 2, .tmp 3] = some rv ∧ leave st S rv = putV st p := by
      intro v S k1 m1 E k2 k3
      refine ⟨.tup [v, .int .i64 0], ?_, ?_⟩
      · have hnt : notTup v = true := by rcases m1.1 with ⟨rfl, _⟩ | ⟨i, rfl, _⟩ <;> rfl
        simp [resOf, rvAll, rv1, k2, k3, hnt, packRes]
        rfl
      · rw [hv]
        refine leave_mine2 k1 m1 ?_
        unfold putOf
        split
        · simp
        · split
          · simp
          · split <;> simp
    have app : ∀ m : List UInt8, m.length ≤ 4 → ∃ v S, app8 (St.tok1 { boxes := st.boxes, toks := st.toks, loops := st.loops, low := st.boxes.length }) .nils (.bys (.own st.toks.length) m) = some (v, S) ∧ Kept st S ∧ Mine st S v m := by
      intro m hm
      obtain ⟨v, S, a1, k1, m1⟩ := hk.tok1.app8 (v := .nils) (l := []) (y := .bys (.own st.toks.length) m) (m := m) Mine.nil rfl (by simp [room]; omega)
      exact ⟨v, S, a1, k1, by simpa using m1⟩
    by_cases h1 : p < 128
    · have e1 : (p : Int) < 128 := by omega
      obtain ⟨v, S, a1, k1, m1⟩ := app [UInt8.ofNat p] (by simp)
      simp (maxSteps := 1000000) (disch := omega) only [hip, e1, cI8, lit8_1, freshT_eq, a1, qaaz, qabz, qacz, qadz, qaez, qafz, qagz, qahz, qaiz, qajz, qakz, qalz, qamz, qanz, evOp, qaoz, qapz, qaqz, qarz, qasz, qatz, qauz, qavz,
 ↓reduceIte, Nat.reduceEqDiff, List.nil_append, List.cons_append, List.append_nil, List.map_cons, List.map_nil, qawz, qaxz, qayz, Option.map_some, Option.map_none, qazz, qbaz, qbbz, qbcz, qbdz, qbez, qbfz, qbgz, qbhz, qbiz, qbjz, qbkz, qblz, qbmz, qbnz, qboz,
 qbpz, qbqz, qbrz, qbsz, qbtz, qbuz, qbvz, qbwz, qbxz, qbyz, qbzz, qcaz, qcbz, qccz, qcdz, qcez, qcfz, qcgz, qchz, qciz, beq_true, beq_false, Bool.not_eq_true', decide_eq_true_eq, decide_eq_false_iff_not, decide_true, decide_false,
 Int.toNat_natCast, Int.ofNat_lt, Int.ofNat_le, Int.natCast_inj, Bool.false_eq_true, Bool.true_eq_false, qcjz, List.getElem?_cons_zero, List.getElem?_cons_succ, qckz, Int.reduceToNat, Int.reduceLE, true_and, and_true, reduceCtorEq, or_false, false_or, or_true, Option.some.injEq, exists_eq_left', Bool.not_true, Bool.not_false, ne_eq, Int.reduceEq, not_true_eq_false, not_false_eq_true, Int.reduceLT, UInt8.reduceLT, UInt8.reduceLE, UInt8.reduceToNat]
      exact fin v S k1 (by simpa [putOf, h1] using m1) _ rfl rfl
    have e1 : ¬ (p : Int) < 128 := by omega
    by_cases h2 : p < 2048
    · have e2 : (p : Int) < 2048 := by omega
      obtain ⟨v, S, a1, k1, m1⟩ := app [UInt8.ofNat (192 + p / 64), UInt8.ofNat (128 + p % 64)] (by simp)
      simp (maxSteps := 1000000) (disch := omega) only [hip, e1, e2, quo32, rem32, addc32, cI8, lit8_2, freshT_eq, a1, qaaz, qabz, qacz, qadz, qaez, qafz, qagz, qahz, qaiz, qajz, qakz, qalz, qamz, qanz, evOp, qaoz, qapz, qaqz, qarz, qasz, qatz, qauz, qavz,
 ↓reduceIte, Nat.reduceEqDiff, List.nil_append, List.cons_append, List.append_nil, List.map_cons, List.map_nil, qawz, qaxz, qayz, Option.map_some, Option.map_none, qazz, qbaz, qbbz, qbcz, qbdz, qbez, qbfz, qbgz, qbhz, qbiz, qbjz, qbkz, qblz, qbmz, qbnz, qboz,
 qbpz, qbqz, qbrz, qbsz, qbtz, qbuz, qbvz, qbwz, qbxz, qbyz, qbzz, qcaz, qcbz, qccz, qcdz, qcez, qcfz, qcgz, qchz, qciz, beq_true, beq_false, Bool.not_eq_true', decide_eq_true_eq, decide_eq_false_iff_not, decide_true, decide_false,
 Int.toNat_natCast, Int.ofNat_lt, Int.ofNat_le, Int.natCast_inj, Bool.false_eq_true, Bool.true_eq_false, qcjz, List.getElem?_cons_zero, List.getElem?_cons_succ, qckz, Int.reduceToNat, Int.reduceLE, true_and, and_true, reduceCtorEq, or_false, false_or, or_true, Option.some.injEq, exists_eq_left', Bool.not_true, Bool.not_false, ne_eq, Int.reduceEq, not_true_eq_false, not_false_eq_true, Int.reduceLT, UInt8.reduceLT, UInt8.reduceLE, UInt8.reduceToNat]
      exact fin v S k1 (by simpa [putOf, h1, h2] using m1) _ rfl rfl
    have e2 : ¬ (p : Int) < 2048 := by omega
    by_cases h3 : p < 65536
    · have e3 : (p : Int) < 65536 := by omega
      obtain ⟨v, S, a1, k1, m1⟩ := app [UInt8.ofNat (224 + p / 4096), UInt8.ofNat (128 + p / 64 % 64), UInt8.ofNat (128 + p % 64)] (by simp)
      simp (maxSteps := 1000000) (disch := omega) only [hip, e1, e2, e3, quo32, rem32, addc32, cI8, lit8_3, freshT_eq, a1, qaaz, qabz, qacz, qadz, qaez, qafz, qagz, qahz, qaiz, qajz, qakz, qalz, qamz, qanz, evOp, qaoz, qapz, qaqz, qarz, qasz, qatz, qauz, qavz,
 ↓reduceIte, Nat.reduceEqDiff, List.nil_append, List.cons_append, List.append_nil, List.map_cons, List.map_nil, qawz, qaxz, qayz, Option.map_some, Option.map_none, qazz, qbaz, qbbz, qbcz, qbdz, qbez, qbfz, qbgz, qbhz, qbiz, qbjz, qbkz, qblz, qbmz, qbnz, qboz,
 qbpz, qbqz, qbrz, qbsz, qbtz, qbuz, qbvz, qbwz, qbxz, qbyz, qbzz, qcaz, qcbz, qccz, qcdz, qcez, qcfz, qcgz, qchz, qciz, beq_true, beq_false, Bool.not_eq_true', decide_eq_true_eq, decide_eq_false_iff_not, decide_true, decide_false,
 Int.toNat_natCast, Int.ofNat_lt, Int.ofNat_le, Int.natCast_inj, Bool.false_eq_true, Bool.true_eq_false, qcjz, List.getElem?_cons_zero, List.getElem?_cons_succ, qckz, Int.reduceToNat, Int.reduceLE, true_and, and_true, reduceCtorEq, or_false, false_or, or_true, Option.some.injEq, exists_eq_left', Bool.not_true, Bool.not_false, ne_eq, Int.reduceEq, not_true_eq_false, not_false_eq_true, Int.reduceLT, UInt8.reduceLT, UInt8.reduceLE, UInt8.reduceToNat]
      exact fin v S k1 (by simpa [putOf, h1, h2, h3] using m1) _ rfl rfl
    · have e3 : ¬ (p : Int) < 65536 := by omega
      obtain ⟨v, S, a1, k1, m1⟩ := app [UInt8.ofNat (240 + p / 262144), UInt8.ofNat (128 + p / 4096 % 64), UInt8.ofNat (128 + p / 64 % 64), UInt8.ofNat (128 + p % 64)] (by simp)
      simp (maxSteps := 1000000) (disch := omega) only [hip, e1, e2, e3, quo32, rem32, addc32, cI8, lit8_4, freshT_eq, a1, qaaz, qabz, qacz, qadz, qaez, qafz, qagz, qahz, qaiz, qajz, qakz, qalz, qamz, qanz, evOp, qaoz, qapz, qaqz, qarz, qasz, qatz, qauz, qavz,
 ↓reduceIte, Nat.reduceEqDiff, List.nil_append, List.cons_append, List.append_nil, List.map_cons, List.map_nil, qawz, qaxz, qayz, Option.map_some, Option.map_none, qazz, qbaz, qbbz, qbcz, qbdz, qbez, qbfz, qbgz, qbhz, qbiz, qbjz, qbkz, qblz, qbmz, qbnz, qboz,
 qbpz, qbqz, qbrz, qbsz, qbtz, qbuz, qbvz, qbwz, qbxz, qbyz, qbzz, qcaz, qcbz, qccz, qcdz, qcez, qcfz, qcgz, qchz, qciz, beq_true, beq_false, Bool.not_eq_true', decide_eq_true_eq, decide_eq_false_iff_not, decide_true, decide_false,
 Int.toNat_natCast, Int.ofNat_lt, Int.ofNat_le, Int.natCast_inj, Bool.false_eq_true, Bool.true_eq_false, qcjz, List.getElem?_cons_zero, List.getElem?_cons_succ, qckz, Int.reduceToNat, Int.reduceLE, true_and, and_true, reduceCtorEq, or_false, false_or, or_true, Option.some.injEq, exists_eq_left', Bool.not_true, Bool.not_false, ne_eq, Int.reduceEq, not_true_eq_false, not_false_eq_true, Int.reduceLT, UInt8.reduceLT, UInt8.reduceLE, UInt8.reduceToNat]
      exact fin v S k1 (by simpa [putOf, h1, h2, h3] using m1) _ rfl rfl
  · simp only [decide_eq_false hpt] at hip
    have hv : putV st p = (.tup [.nils, .int .i64 20], st) := by simp [putV, hpt]
    have fin : ∀ E : Env, E 2 = .nils → E 3 = .int .i64 20 → ∃ rv, resOf E { boxes := st.boxes, toks := st.toks, loops := st.loops, low := st.boxes.length } [.tmp 2, .tmp 3] = some rv ∧ leave st { boxes := st.boxes, toks := st.toks, loops := st.loops, low := st.boxes.length } rv = putV st p := by
      intro E k2 k3
      exact ⟨.tup [.nils, .int .i64 20], by simp [resOf, rvAll, rv1, k2, k3, notTup, packRes], by rw [hv]; exact hk.leave rfl (fun _ _ => rfl)⟩
    simp (maxSteps := 1000000) (disch := omega) only [hip, qaaz, qabz, qacz, qadz, qaez, qafz, qagz, qahz, qaiz, qajz, qakz, qalz, qamz, qanz, evOp, qaoz, qapz, qaqz, qarz, qasz, qatz, qauz, qavz,
 ↓reduceIte, Nat.reduceEqDiff, List.nil_append, List.cons_append, List.append_nil, List.map_cons, List.map_nil, qawz, qaxz, qayz, Option.map_some, Option.map_none, qazz, qbaz, qbbz, qbcz, qbdz, qbez, qbfz, qbgz, qbhz, qbiz, qbjz, qbkz, qblz, qbmz, qbnz, qboz,
 qbpz, qbqz, qbrz, qbsz, qbtz, qbuz, qbvz, qbwz, qbxz, qbyz, qbzz, qcaz, qcbz, qccz, qcdz, qcez, qcfz, qcgz, qchz, qciz, beq_true, beq_false, Bool.not_eq_true', decide_eq_true_eq, decide_eq_false_iff_not, decide_true, decide_false,
 Int.toNat_natCast, Int.ofNat_lt, Int.ofNat_le, Int.natCast_inj, Bool.false_eq_true, Bool.true_eq_false, qcjz, List.getElem?_cons_zero, List.getElem?_cons_succ, qckz, Int.reduceToNat, Int.reduceLE, true_and, and_true, reduceCtorEq, or_false, false_or, or_true, Option.some.injEq, exists_eq_left', Bool.not_true, Bool.not_false, ne_eq, Int.reduceEq, not_true_eq_false, not_false_eq_true, Int.reduceLT, UInt8.reduceLT, UInt8.reduceLE, UInt8.reduceToNat]
    exact fin _ rfl rfl
end Go.Ab

/-
  The point at the front is the one whose bytes stand there.
-/
namespace Go.Ab
set_option linter.unusedVariables false
set_option linter.unusedSimpArgs false
variable {st s : St} {e : Env}

def mdN (n : Nat) : Nat := if n = 2 then 32 else if n = 3 then 16 else 8
def qN (l : List UInt8) (n : Nat) : Nat := accP l ((l.getD 0 0).toNat % mdN n) (n - 1)
def succN (l : List UInt8) (n : Nat) : Prop := pointN (qN l n) ∧ putOf (qN l n) = l.take n

theorem u8_of {a : UInt8} {k : Nat} (h : k = a.toNat) : UInt8.ofNat k = a := by rw [h]; simp
theorem of_u8 {a : UInt8} {k : Nat} (h : UInt8.ofNat k = a) (hk : k < 256) : k = a.toNat := by
  rw [← h]; simp; omega

theorem lead2 {c : Nat} (h : 192 ≤ c ∧ c < 224) : lead c = (c % 32, 2) := by unfold lead; rw [if_pos h]
theorem lead3 {c : Nat} (h : 224 ≤ c ∧ c < 240) : lead c = (c % 16, 3) := by unfold lead; rw [if_neg (by omega), if_pos h]
theorem lead4 {c : Nat} (h : 240 ≤ c ∧ c < 248) : lead c = (c % 8, 4) := by unfold lead; rw [if_neg (by omega), if_neg (by omega), if_pos h]

theorem next_of {l : List UInt8} {p n : Nat} (hne : l ≠ []) (hc : ¬ (l.getD 0 0).toNat < 128) (hl : lead (l.getD 0 0).toNat = (p, n)) (hn : n ≠ 0) (hlen : n ≤ l.length) (hcb : contB l (n - 1)) (hp : pointN (accP l p (n - 1))) (hlow : lowN n ≤ accP l p (n - 1)) :
    nextOf l = some (accP l p (n - 1), n) := by
  unfold nextOf
  rw [if_neg hne, if_neg hc, hl, if_neg]
  simp only [not_or, Classical.not_not]
  exact ⟨hn, by omega, hcb, hp, by omega⟩

theorem succ_next {l : List UInt8} {n : Nat} (hn : n = 2 ∨ n = 3 ∨ n = 4) (hlen : n ≤ l.length) (hc : ¬ (l.getD 0 0).toNat < 128) (h : succN l n) : nextOf l = some (qN l n, n) := by
  have hne : l ≠ [] := by rintro rfl; simp at hlen; omega
  obtain ⟨h1, h2⟩ := h
  rcases hn with rfl | rfl | rfl
  · match l, hlen with
    | a :: b :: r, _ =>
      simp only [qN, mdN, accP, if_true, List.getD_cons_zero, List.getD_cons_succ, Nat.reduceSub, List.take_succ_cons, List.take_zero] at h1 h2 hc ⊢
      have ha := a.toNat_lt; have hb := b.toNat_lt
      obtain ⟨q, hq⟩ : ∃ q, q = 64 * (a.toNat % 32) + b.toNat % 64 := ⟨_, rfl⟩
      rw [← hq] at h1 h2 ⊢
      unfold putOf at h2
      split at h2
      · simp at h2
      · split at h2
        · simp only [List.cons.injEq, and_true] at h2
          have e1 := of_u8 h2.1 (by omega)
          have e2 := of_u8 h2.2 (by omega)
          have := next_of (l := a :: b :: r) (p := a.toNat % 32) (n := 2) hne (by simpa using hc) (lead2 (by simp only [List.getD_cons_zero]; omega)) (by omega) (by simp) (by
            intro j hj
            match j, hj with
            | 0, _ => simp only [List.getD_cons_succ, List.getD_cons_zero]; omega) (by simpa [accP, ← hq] using h1) (by simp [accP, lowN, ← hq]; omega)
          simpa [accP, ← hq] using this
        · split at h2 <;> simp at h2
  · match l, hlen with
    | a :: b :: c :: r, _ =>
      simp only [qN, mdN, accP, if_true, List.getD_cons_zero, List.getD_cons_succ, Nat.reduceSub, Nat.reduceEqDiff, if_false, List.take_succ_cons, List.take_zero] at h1 h2 hc ⊢
      have ha := a.toNat_lt; have hb := b.toNat_lt; have hcc := c.toNat_lt
      obtain ⟨q, hq⟩ : ∃ q, q = 64 * (64 * (a.toNat % 16) + b.toNat % 64) + c.toNat % 64 := ⟨_, rfl⟩
      rw [← hq] at h1 h2 ⊢
      unfold putOf at h2
      split at h2
      · simp at h2
      · split at h2
        · simp at h2
        · split at h2
          · simp only [List.cons.injEq, and_true] at h2
            have e1 := of_u8 h2.1 (by omega)
            have e2 := of_u8 h2.2.1 (by omega)
            have e3 := of_u8 h2.2.2 (by omega)
            have := next_of (l := a :: b :: c :: r) (p := a.toNat % 16) (n := 3) hne (by simpa using hc) (lead3 (by simp only [List.getD_cons_zero]; omega)) (by omega) (by simp) (by
              intro j hj
              match j, hj with
              | 0, _ => simp only [List.getD_cons_succ, List.getD_cons_zero]; omega
              | 1, _ => simp only [List.getD_cons_succ, List.getD_cons_zero]; omega) (by simpa [accP, ← hq] using h1) (by simp [accP, lowN, ← hq]; omega)
            simpa [accP, ← hq] using this
          · simp at h2
  · match l, hlen with
    | a :: b :: c :: d :: r, _ =>
      simp only [qN, mdN, accP, if_true, List.getD_cons_zero, List.getD_cons_succ, Nat.reduceSub, Nat.reduceEqDiff, if_false, List.take_succ_cons, List.take_zero] at h1 h2 hc ⊢
      have ha := a.toNat_lt; have hb := b.toNat_lt; have hcc := c.toNat_lt; have hdd := d.toNat_lt
      obtain ⟨q, hq⟩ : ∃ q, q = 64 * (64 * (64 * (a.toNat % 8) + b.toNat % 64) + c.toNat % 64) + d.toNat % 64 := ⟨_, rfl⟩
      rw [← hq] at h1 h2 ⊢
      have hq2 : q ≤ 1114111 := by unfold pointN at h1; omega
      unfold putOf at h2
      split at h2
      · simp at h2
      · split at h2
        · simp at h2
        · split at h2
          · simp at h2
          · simp only [List.cons.injEq, and_true] at h2
            have e1 := of_u8 h2.1 (by omega)
            have e2 := of_u8 h2.2.1 (by omega)
            have e3 := of_u8 h2.2.2.1 (by omega)
            have e4 := of_u8 h2.2.2.2 (by omega)
            have := next_of (l := a :: b :: c :: d :: r) (p := a.toNat % 8) (n := 4) hne (by simpa using hc) (lead4 (by simp only [List.getD_cons_zero]; omega)) (by omega) (by simp) (by
              intro j hj
              match j, hj with
              | 0, _ => simp only [List.getD_cons_succ, List.getD_cons_zero]; omega
              | 1, _ => simp only [List.getD_cons_succ, List.getD_cons_zero]; omega
              | 2, _ => simp only [List.getD_cons_succ, List.getD_cons_zero]; omega) (by simpa [accP, ← hq] using h1) (by simp [accP, lowN, ← hq]; omega)
            simpa [accP, ← hq] using this

theorem next_succ {l : List UInt8} {v n : Nat} (hc : ¬ (l.getD 0 0).toNat < 128) (h : nextOf l = some (v, n)) : (n = 2 ∨ n = 3 ∨ n = 4) ∧ n ≤ l.length ∧ succN l n := by
  unfold nextOf at h
  split at h
  · cases h
  rename_i hne
  simp only at h
  split at h
  · cases h
  rename_i hcond
  simp only [not_or, Classical.not_not] at hcond
  obtain ⟨c1, c2, c3, c4, c5⟩ := hcond
  simp only [Option.some.injEq, Prod.mk.injEq] at h
  obtain ⟨hv, hn⟩ := h
  rw [hn] at c1 c2 c3 c4 c5 hv
  have hl : lead (l.getD 0 0).toNat = ((lead (l.getD 0 0).toNat).1, n) := by rw [← hn]
  unfold lead at hl
  split at hl
  · rename_i hr
    simp only [Prod.mk.injEq] at hl
    obtain ⟨-, rfl⟩ := hl
    rw [lead2 hr] at c4 c5
    match l, c2 with
    | a :: b :: r, _ =>
      refine ⟨.inl rfl, by simp, ?_⟩
      have hb := c3 0 (by omega)
      simp only [succN, qN, mdN, accP, lowN, if_true, List.getD_cons_zero, List.getD_cons_succ, Nat.reduceSub, List.take_succ_cons, List.take_zero] at hr hb c4 c5 ⊢
      obtain ⟨q, hq⟩ : ∃ q, q = 64 * (a.toNat % 32) + b.toNat % 64 := ⟨_, rfl⟩
      rw [← hq] at c4 c5 ⊢
      refine ⟨c4, ?_⟩
      unfold putOf
      rw [if_neg (by omega), if_pos (by omega), u8_of (a := a) (by omega), u8_of (a := b) (by omega)]
    | [], h => simp at h
    | [a], h => simp at h
  · split at hl
    · rename_i hr
      simp only [Prod.mk.injEq] at hl
      obtain ⟨-, rfl⟩ := hl
      rw [lead3 hr] at c4 c5
      match l, c2 with
      | a :: b :: c :: r, _ =>
        refine ⟨.inr (.inl rfl), by simp, ?_⟩
        have hb := c3 0 (by omega)
        have hb2 := c3 1 (by omega)
        simp only [succN, qN, mdN, accP, lowN, if_true, List.getD_cons_zero, List.getD_cons_succ, Nat.reduceSub, Nat.reduceEqDiff, if_false, List.take_succ_cons, List.take_zero] at hr hb hb2 c4 c5 ⊢
        obtain ⟨q, hq⟩ : ∃ q, q = 64 * (64 * (a.toNat % 16) + b.toNat % 64) + c.toNat % 64 := ⟨_, rfl⟩
        rw [← hq] at c4 c5 ⊢
        refine ⟨c4, ?_⟩
        unfold putOf
        rw [if_neg (by omega), if_neg (by omega), if_pos (by omega), u8_of (a := a) (by omega), u8_of (a := b) (by omega), u8_of (a := c) (by omega)]
      | [], h => simp at h
      | [a], h => simp at h
      | [a, b], h => simp at h
    · split at hl
      · rename_i hr
        simp only [Prod.mk.injEq] at hl
        obtain ⟨-, rfl⟩ := hl
        rw [lead4 hr] at c4 c5
        match l, c2 with
        | a :: b :: c :: d :: r, _ =>
          refine ⟨.inr (.inr rfl), by simp, ?_⟩
          have hb := c3 0 (by omega)
          have hb2 := c3 1 (by omega)
          have hb3 := c3 2 (by omega)
          simp only [succN, qN, mdN, accP, lowN, if_true, List.getD_cons_zero, List.getD_cons_succ, Nat.reduceSub, Nat.reduceEqDiff, if_false, List.take_succ_cons, List.take_zero] at hr hb hb2 hb3 c4 c5 ⊢
          obtain ⟨q, hq⟩ : ∃ q, q = 64 * (64 * (64 * (a.toNat % 8) + b.toNat % 64) + c.toNat % 64) + d.toNat % 64 := ⟨_, rfl⟩
          rw [← hq] at c4 c5 ⊢
          refine ⟨c4, ?_⟩
          unfold putOf
          rw [if_neg (by omega), if_neg (by omega), if_neg (by omega), u8_of (a := a) (by omega), u8_of (a := b) (by omega), u8_of (a := c) (by omega), u8_of (a := d) (by omega)]
        | [], h => simp at h
        | [a], h => simp at h
        | [a, b], h => simp at h
        | [a, b, c], h => simp at h
      · simp only [Prod.mk.injEq] at hl
        exact absurd hl.2.symm c1
end Go.Ab

/-
  The point at a text's front: the document's function.
-/
namespace Go.Ab
set_option linter.unusedVariables false
set_option linter.unusedSimpArgs false
variable {st s : St} {e : Env}

theorem mul32 {ek : EK} {a : Nat} (h : 64 * a < 2147483648) : binPV .mul ek (.int .i32 64) (.int .i32 (a : Int)) = some (.int .i32 ((64 * a : Nat) : Int)) := by
  simp only [binPV, binI, reduceIte, Option.some.injEq]
  rw [wrap32 (by omega) (by omega)]
  congr 1

set_option maxHeartbeats 1000000 in
theorem rNext_spec {x : PV} {l : List UInt8} (hx : x.by = some l) (hl : l.length ≤ 100000000) : call prog (.fn 75 []) [x] st = some (nextV l, st) := by
  refine call_of_W prog_75 ?_
  unfold F_posthornref02_Next; dsimp only
  by_cases hne : l = []
  · have e1 : decide ((l.length : Int) = 0) = true := by simp [hne]
    simp (maxSteps := 1000000) (disch := omega) only [len_by hx, e1, qaaz, qabz, qacz, qadz, qaez, qafz, qagz, qahz, qaiz, qajz, qakz, qalz, qamz, qanz, evOp, qaoz, qapz, qaqz, qarz, qasz, qatz, qauz, qavz,
 ↓reduceIte, Nat.reduceEqDiff, List.nil_append, List.cons_append, List.append_nil, List.map_cons, List.map_nil, qawz, qaxz, qayz, Option.map_some, Option.map_none, qazz, qbaz, qbbz, qbcz, qbdz, qbez, qbfz, qbgz, qbhz, qbiz, qbjz, qbkz, qblz, qbmz, qbnz, qboz,
 qbpz, qbqz, qbrz, qbsz, qbtz, qbuz, qbvz, qbwz, qbxz, qbyz, qbzz, qcaz, qcbz, qccz, qcdz, qcez, qcfz, qcgz, qchz, qciz, beq_true, beq_false, Bool.not_eq_true', decide_eq_true_eq, decide_eq_false_iff_not, decide_true, decide_false,
 Int.toNat_natCast, Int.ofNat_lt, Int.ofNat_le, Int.natCast_inj, Bool.false_eq_true, Bool.true_eq_false, qcjz, List.getElem?_cons_zero, List.getElem?_cons_succ, qckz, Int.reduceToNat, Int.reduceLE, true_and, and_true, reduceCtorEq, or_false, false_or, or_true, Option.some.injEq, exists_eq_left', Bool.not_true, Bool.not_false, ne_eq, Int.reduceEq, not_true_eq_false, not_false_eq_true, Int.reduceLT, UInt8.reduceLT, UInt8.reduceLE, UInt8.reduceToNat]
    exact ⟨.tup [.int .i32 0, .int .i64 0, .int .i64 42], rfl, by
      rw [show nextV l = .tup [.int .i32 0, .int .i64 0, .int .i64 42] by simp [nextV, nextOf, hne]]
      exact Kept.start.leave rfl (fun _ _ => rfl)⟩
  have hlen : 0 < l.length := List.length_pos_iff.2 hne
  have e1 : ¬ ((l.length : Int) = 0) := by omega
  obtain ⟨c, hc⟩ : ∃ c, c = l.getD 0 0 := ⟨_, rfl⟩
  have hi0 : iaddrPV 1 x (.int .i64 0) = some (.cp [.b8 c]) := by rw [hc]; exact iaddr_by hx (by omega) (by simpa using hlen)
  by_cases h128 : c < 128
  · have h128' : c.toNat < 128 := by rw [UInt8.lt_iff_toNat_lt] at h128; simpa using h128
    simp (maxSteps := 1000000) (disch := omega) only [len_by hx, e1, hi0, qciz, h128, cI32, qaaz, qabz, qacz, qadz, qaez, qafz, qagz, qahz, qaiz, qajz, qakz, qalz, qamz, qanz, evOp, qaoz, qapz, qaqz, qarz, qasz, qatz, qauz, qavz,
 ↓reduceIte, Nat.reduceEqDiff, List.nil_append, List.cons_append, List.append_nil, List.map_cons, List.map_nil, qawz, qaxz, qayz, Option.map_some, Option.map_none, qazz, qbaz, qbbz, qbcz, qbdz, qbez, qbfz, qbgz, qbhz, qbiz, qbjz, qbkz, qblz, qbmz, qbnz, qboz,
 qbpz, qbqz, qbrz, qbsz, qbtz, qbuz, qbvz, qbwz, qbxz, qbyz, qbzz, qcaz, qcbz, qccz, qcdz, qcez, qcfz, qcgz, qchz, qciz, beq_true, beq_false, Bool.not_eq_true', decide_eq_true_eq, decide_eq_false_iff_not, decide_true, decide_false,
 Int.toNat_natCast, Int.ofNat_lt, Int.ofNat_le, Int.natCast_inj, Bool.false_eq_true, Bool.true_eq_false, qcjz, List.getElem?_cons_zero, List.getElem?_cons_succ, qckz, Int.reduceToNat, Int.reduceLE, true_and, and_true, reduceCtorEq, or_false, false_or, or_true, Option.some.injEq, exists_eq_left', Bool.not_true, Bool.not_false, ne_eq, Int.reduceEq, not_true_eq_false, not_false_eq_true, Int.reduceLT, UInt8.reduceLT, UInt8.reduceLE, UInt8.reduceToNat]
    exact ⟨.tup [.int .i32 (c.toNat : Int), .int .i64 1, .int .i64 0], rfl, by
      rw [nextV_some (p := c.toNat) (n := 1) (by unfold nextOf; rw [if_neg hne, ← hc, if_pos h128'])]
      exact Kept.start.leave rfl (fun _ _ => rfl)⟩
  have h128' : ¬ (l.getD 0 0).toNat < 128 := by rw [← hc]; rw [UInt8.lt_iff_toNat_lt] at h128; simpa using h128
  simp (maxSteps := 1000000) (disch := omega) only [len_by hx, e1, hi0, qciz, h128, qaaz, qabz, qacz, qadz, qaez, qafz, qagz, qahz, qaiz, qajz, qakz, qalz, qamz, qanz, evOp, qaoz, qapz, qaqz, qarz, qasz, qatz, qauz, qavz,
 ↓reduceIte, Nat.reduceEqDiff, List.nil_append, List.cons_append, List.append_nil, List.map_cons, List.map_nil, qawz, qaxz, qayz, Option.map_some, Option.map_none, qazz, qbaz, qbbz, qbcz, qbdz, qbez, qbfz, qbgz, qbhz, qbiz, qbjz, qbkz, qblz, qbmz, qbnz, qboz,
 qbpz, qbqz, qbrz, qbsz, qbtz, qbuz, qbvz, qbwz, qbxz, qbyz, qbzz, qcaz, qcbz, qccz, qcdz, qcez, qcfz, qcgz, qchz, qciz, beq_true, beq_false, Bool.not_eq_true', decide_eq_true_eq, decide_eq_false_iff_not, decide_true, decide_false,
 Int.toNat_natCast, Int.ofNat_lt, Int.ofNat_le, Int.natCast_inj, Bool.false_eq_true, Bool.true_eq_false, qcjz, List.getElem?_cons_zero, List.getElem?_cons_succ, qckz, Int.reduceToNat, Int.reduceLE, true_and, and_true, reduceCtorEq, or_false, false_or, or_true, Option.some.injEq, exists_eq_left', Bool.not_true, Bool.not_false, ne_eq, Int.reduceEq, not_true_eq_false, not_false_eq_true, Int.reduceLT, UInt8.reduceLT, UInt8.reduceLE, UInt8.reduceToNat]
  obtain ⟨I, hI⟩ : ∃ I : Nat → Env → St → Prop, I = fun m E S => ∃ n, m = 5 - n ∧ 2 ≤ n ∧ n ≤ 5 ∧ Kept st S ∧ (∀ k, 2 ≤ k → k < n → k ≤ l.length → ¬ succN l k) ∧ E 0 = x ∧ E 5 = .int .i64 (n : Int) := ⟨_, rfl⟩
  refine W_loop I ?_ (n := 3) (by
    rw [hI]
    exact ⟨2, rfl, by omega, by omega, Kept.start, fun k h1 h2 => by omega, rfl, rfl⟩)
  intro m e S hh
  rw [hI] at hh
  obtain ⟨n, rfl, hn2, hn5, hk, hall, h0, h5⟩ := hh
  by_cases hr : n ≤ 4 ∧ n ≤ l.length
  · obtain ⟨hn4, hnl⟩ := hr
    have r1 : (n : Int) ≤ 4 := by omega
    have hn : n = 2 ∨ n = 3 ∨ n = 4 := by omega
    refine W_cut (fun E S => Kept st S ∧ E 0 = x ∧ E 5 = .int .i64 (n : Int)) ?_ ?_
    · simp (maxSteps := 1000000) (disch := omega) only [h0, h5, r1, len_by hx, hnl, qaaz, qabz, qacz, qadz, qaez, qafz, qagz, qahz, qaiz, qajz, qakz, qalz, qamz, qanz, evOp, qaoz, qapz, qaqz, qarz, qasz, qatz, qauz, qavz,
 ↓reduceIte, Nat.reduceEqDiff, List.nil_append, List.cons_append, List.append_nil, List.map_cons, List.map_nil, qawz, qaxz, qayz, Option.map_some, Option.map_none, qazz, qbaz, qbbz, qbcz, qbdz, qbez, qbfz, qbgz, qbhz, qbiz, qbjz, qbkz, qblz, qbmz, qbnz, qboz,
 qbpz, qbqz, qbrz, qbsz, qbtz, qbuz, qbvz, qbwz, qbxz, qbyz, qbzz, qcaz, qcbz, qccz, qcdz, qcez, qcfz, qcgz, qchz, qciz, beq_true, beq_false, Bool.not_eq_true', decide_eq_true_eq, decide_eq_false_iff_not, decide_true, decide_false,
 Int.toNat_natCast, Int.ofNat_lt, Int.ofNat_le, Int.natCast_inj, Bool.false_eq_true, Bool.true_eq_false, qcjz, List.getElem?_cons_zero, List.getElem?_cons_succ, qckz, Int.reduceToNat, Int.reduceLE, true_and, and_true, reduceCtorEq, or_false, false_or, or_true, Option.some.injEq, exists_eq_left', Bool.not_true, Bool.not_false, ne_eq, Int.reduceEq, not_true_eq_false, not_false_eq_true, Int.reduceLT, UInt8.reduceLT, UInt8.reduceLE, UInt8.reduceToNat]
      exact hk
    clear hk h0 h5
    rintro e S ⟨hk, h0, h5⟩
    rw [qaaz, qadz]
    refine W_cut (fun E S => Kept st S ∧ E 0 = x ∧ E 5 = .int .i64 (n : Int) ∧ E 6 = .int .i32 ((c.toNat % 32 : Nat) : Int)) ?_ ?_
    · simp (maxSteps := 1000000) (disch := omega) only [h0, h5, hi0, qciz, cI32, rem32, qaaz, qabz, qacz, qadz, qaez, qafz, qagz, qahz, qaiz, qajz, qakz, qalz, qamz, qanz, evOp, qaoz, qapz, qaqz, qarz, qasz, qatz, qauz, qavz,
 ↓reduceIte, Nat.reduceEqDiff, List.nil_append, List.cons_append, List.append_nil, List.map_cons, List.map_nil, qawz, qaxz, qayz, Option.map_some, Option.map_none, qazz, qbaz, qbbz, qbcz, qbdz, qbez, qbfz, qbgz, qbhz, qbiz, qbjz, qbkz, qblz, qbmz, qbnz, qboz,
 qbpz, qbqz, qbrz, qbsz, qbtz, qbuz, qbvz, qbwz, qbxz, qbyz, qbzz, qcaz, qcbz, qccz, qcdz, qcez, qcfz, qcgz, qchz, qciz, beq_true, beq_false, Bool.not_eq_true', decide_eq_true_eq, decide_eq_false_iff_not, decide_true, decide_false,
 Int.toNat_natCast, Int.ofNat_lt, Int.ofNat_le, Int.natCast_inj, Bool.false_eq_true, Bool.true_eq_false, qcjz, List.getElem?_cons_zero, List.getElem?_cons_succ, qckz, Int.reduceToNat, Int.reduceLE, true_and, and_true, reduceCtorEq, or_false, false_or, or_true, Option.some.injEq, exists_eq_left', Bool.not_true, Bool.not_false, ne_eq, Int.reduceEq, not_true_eq_false, not_false_eq_true, Int.reduceLT, UInt8.reduceLT, UInt8.reduceLE, UInt8.reduceToNat]
      exact hk
    clear hk h0 h5
    rintro e S ⟨hk, h0, h5, h6⟩
    refine W_cut (fun E S => Kept st S ∧ E 0 = x ∧ E 5 = .int .i64 (n : Int) ∧ E 6 = .int .i32 ((if n = 3 then c.toNat % 16 else c.toNat % 32 : Nat) : Int)) ?_ ?_
    · by_cases q : n = 3
      · have d3 : decide ((n : Int) = 3) = true := by simp [q]
        simp (maxSteps := 1000000) (disch := omega) only [h0, h5, h6, d3, hi0, qciz, cI32, rem32, qaaz, qabz, qacz, qadz, qaez, qafz, qagz, qahz, qaiz, qajz, qakz, qalz, qamz, qanz, evOp, qaoz, qapz, qaqz, qarz, qasz, qatz, qauz, qavz,
 ↓reduceIte, Nat.reduceEqDiff, List.nil_append, List.cons_append, List.append_nil, List.map_cons, List.map_nil, qawz, qaxz, qayz, Option.map_some, Option.map_none, qazz, qbaz, qbbz, qbcz, qbdz, qbez, qbfz, qbgz, qbhz, qbiz, qbjz, qbkz, qblz, qbmz, qbnz, qboz,
 qbpz, qbqz, qbrz, qbsz, qbtz, qbuz, qbvz, qbwz, qbxz, qbyz, qbzz, qcaz, qcbz, qccz, qcdz, qcez, qcfz, qcgz, qchz, qciz, beq_true, beq_false, Bool.not_eq_true', decide_eq_true_eq, decide_eq_false_iff_not, decide_true, decide_false,
 Int.toNat_natCast, Int.ofNat_lt, Int.ofNat_le, Int.natCast_inj, Bool.false_eq_true, Bool.true_eq_false, qcjz, List.getElem?_cons_zero, List.getElem?_cons_succ, qckz, Int.reduceToNat, Int.reduceLE, true_and, and_true, reduceCtorEq, or_false, false_or, or_true, Option.some.injEq, exists_eq_left', Bool.not_true, Bool.not_false, ne_eq, Int.reduceEq, not_true_eq_false, not_false_eq_true, Int.reduceLT, UInt8.reduceLT, UInt8.reduceLE, UInt8.reduceToNat]
        exact ⟨hk, by simp [q]⟩
      · have d3 : ¬ (n : Int) = 3 := by omega
        simp (maxSteps := 1000000) (disch := omega) only [h0, h5, h6, d3, qaaz, qabz, qacz, qadz, qaez, qafz, qagz, qahz, qaiz, qajz, qakz, qalz, qamz, qanz, evOp, qaoz, qapz, qaqz, qarz, qasz, qatz, qauz, qavz,
 ↓reduceIte, Nat.reduceEqDiff, List.nil_append, List.cons_append, List.append_nil, List.map_cons, List.map_nil, qawz, qaxz, qayz, Option.map_some, Option.map_none, qazz, qbaz, qbbz, qbcz, qbdz, qbez, qbfz, qbgz, qbhz, qbiz, qbjz, qbkz, qblz, qbmz, qbnz, qboz,
 qbpz, qbqz, qbrz, qbsz, qbtz, qbuz, qbvz, qbwz, qbxz, qbyz, qbzz, qcaz, qcbz, qccz, qcdz, qcez, qcfz, qcgz, qchz, qciz, beq_true, beq_false, Bool.not_eq_true', decide_eq_true_eq, decide_eq_false_iff_not, decide_true, decide_false,
 Int.toNat_natCast, Int.ofNat_lt, Int.ofNat_le, Int.natCast_inj, Bool.false_eq_true, Bool.true_eq_false, qcjz, List.getElem?_cons_zero, List.getElem?_cons_succ, qckz, Int.reduceToNat, Int.reduceLE, true_and, and_true, reduceCtorEq, or_false, false_or, or_true, Option.some.injEq, exists_eq_left', Bool.not_true, Bool.not_false, ne_eq, Int.reduceEq, not_true_eq_false, not_false_eq_true, Int.reduceLT, UInt8.reduceLT, UInt8.reduceLE, UInt8.reduceToNat]
        exact ⟨hk, by simp [q]⟩
    clear hk h0 h5 h6
    rintro e S ⟨hk, h0, h5, h6⟩
    refine W_cut (fun E S => Kept st S ∧ E 0 = x ∧ E 5 = .int .i64 (n : Int) ∧ E 6 = .int .i32 ((c.toNat % mdN n : Nat) : Int)) ?_ ?_
    · by_cases q : n = 4
      · have d4 : decide ((n : Int) = 4) = true := by simp [q]
        simp (maxSteps := 1000000) (disch := omega) only [h0, h5, h6, d4, hi0, qciz, cI32, rem32, qaaz, qabz, qacz, qadz, qaez, qafz, qagz, qahz, qaiz, qajz, qakz, qalz, qamz, qanz, evOp, qaoz, qapz, qaqz, qarz, qasz, qatz, qauz, qavz,
 ↓reduceIte, Nat.reduceEqDiff, List.nil_append, List.cons_append, List.append_nil, List.map_cons, List.map_nil, qawz, qaxz, qayz, Option.map_some, Option.map_none, qazz, qbaz, qbbz, qbcz, qbdz, qbez, qbfz, qbgz, qbhz, qbiz, qbjz, qbkz, qblz, qbmz, qbnz, qboz,
 qbpz, qbqz, qbrz, qbsz, qbtz, qbuz, qbvz, qbwz, qbxz, qbyz, qbzz, qcaz, qcbz, qccz, qcdz, qcez, qcfz, qcgz, qchz, qciz, beq_true, beq_false, Bool.not_eq_true', decide_eq_true_eq, decide_eq_false_iff_not, decide_true, decide_false,
 Int.toNat_natCast, Int.ofNat_lt, Int.ofNat_le, Int.natCast_inj, Bool.false_eq_true, Bool.true_eq_false, qcjz, List.getElem?_cons_zero, List.getElem?_cons_succ, qckz, Int.reduceToNat, Int.reduceLE, true_and, and_true, reduceCtorEq, or_false, false_or, or_true, Option.some.injEq, exists_eq_left', Bool.not_true, Bool.not_false, ne_eq, Int.reduceEq, not_true_eq_false, not_false_eq_true, Int.reduceLT, UInt8.reduceLT, UInt8.reduceLE, UInt8.reduceToNat]
        exact ⟨hk, by simp [q, mdN]⟩
      · have d4 : ¬ (n : Int) = 4 := by omega
        simp (maxSteps := 1000000) (disch := omega) only [h0, h5, h6, d4, qaaz, qabz, qacz, qadz, qaez, qafz, qagz, qahz, qaiz, qajz, qakz, qalz, qamz, qanz, evOp, qaoz, qapz, qaqz, qarz, qasz, qatz, qauz, qavz,
 ↓reduceIte, Nat.reduceEqDiff, List.nil_append, List.cons_append, List.append_nil, List.map_cons, List.map_nil, qawz, qaxz, qayz, Option.map_some, Option.map_none, qazz, qbaz, qbbz, qbcz, qbdz, qbez, qbfz, qbgz, qbhz, qbiz, qbjz, qbkz, qblz, qbmz, qbnz, qboz,
 qbpz, qbqz, qbrz, qbsz, qbtz, qbuz, qbvz, qbwz, qbxz, qbyz, qbzz, qcaz, qcbz, qccz, qcdz, qcez, qcfz, qcgz, qchz, qciz, beq_true, beq_false, Bool.not_eq_true', decide_eq_true_eq, decide_eq_false_iff_not, decide_true, decide_false,
 Int.toNat_natCast, Int.ofNat_lt, Int.ofNat_le, Int.natCast_inj, Bool.false_eq_true, Bool.true_eq_false, qcjz, List.getElem?_cons_zero, List.getElem?_cons_succ, qckz, Int.reduceToNat, Int.reduceLE, true_and, and_true, reduceCtorEq, or_false, false_or, or_true, Option.some.injEq, exists_eq_left', Bool.not_true, Bool.not_false, ne_eq, Int.reduceEq, not_true_eq_false, not_false_eq_true, Int.reduceLT, UInt8.reduceLT, UInt8.reduceLE, UInt8.reduceToNat]
        refine ⟨hk, ?_⟩
        by_cases q3 : n = 3
        · simp [mdN, q3]
        · have q2 : n = 2 := by omega
          simp [mdN, q2]
    clear hk h0 h5 h6
    rintro e S ⟨hk, h0, h5, h6⟩
    obtain ⟨p, hp⟩ : ∃ p, p = c.toNat % mdN n := ⟨_, rfl⟩
    rw [← hp] at h6
    have hp32 : p < 32 := by
      rw [hp]; unfold mdN
      split
      · omega
      · split <;> omega
    have hacc : ∀ k, k ≤ 3 → accP l p k < 8388609 := by
      intro k hk
      have := accP_lt (l := l) (p := p) k
      have h64 : (p + 1) * 64 ^ k ≤ 32 * 64 ^ 3 := Nat.mul_le_mul (by omega) (Nat.pow_le_pow_right (by omega) hk)
      have : 32 * 64 ^ 3 = 8388608 := by decide
      omega
    have hq : qN l n = accP l p (n - 1) := by unfold qN; rw [← hc, ← hp]
    refine W_cut (fun E S => Kept st S ∧ E 0 = x ∧ E 5 = .int .i64 (n : Int) ∧ E 6 = .int .i32 ((accP l p (n - 1) : Nat) : Int)) ?_ ?_
    · simp (maxSteps := 1000000) (disch := omega) only [h0, h5, h6, qaaz, qabz, qacz, qadz, qaez, qafz, qagz, qahz, qaiz, qajz, qakz, qalz, qamz, qanz, evOp, qaoz, qapz, qaqz, qarz, qasz, qatz, qauz, qavz,
 ↓reduceIte, Nat.reduceEqDiff, List.nil_append, List.cons_append, List.append_nil, List.map_cons, List.map_nil, qawz, qaxz, qayz, Option.map_some, Option.map_none, qazz, qbaz, qbbz, qbcz, qbdz, qbez, qbfz, qbgz, qbhz, qbiz, qbjz, qbkz, qblz, qbmz, qbnz, qboz,
 qbpz, qbqz, qbrz, qbsz, qbtz, qbuz, qbvz, qbwz, qbxz, qbyz, qbzz, qcaz, qcbz, qccz, qcdz, qcez, qcfz, qcgz, qchz, qciz, beq_true, beq_false, Bool.not_eq_true', decide_eq_true_eq, decide_eq_false_iff_not, decide_true, decide_false,
 Int.toNat_natCast, Int.ofNat_lt, Int.ofNat_le, Int.natCast_inj, Bool.false_eq_true, Bool.true_eq_false, qcjz, List.getElem?_cons_zero, List.getElem?_cons_succ, qckz, Int.reduceToNat, Int.reduceLE, true_and, and_true, reduceCtorEq, or_false, false_or, or_true, Option.some.injEq, exists_eq_left', Bool.not_true, Bool.not_false, ne_eq, Int.reduceEq, not_true_eq_false, not_false_eq_true, Int.reduceLT, UInt8.reduceLT, UInt8.reduceLE, UInt8.reduceToNat]
      obtain ⟨II, hII⟩ : ∃ II : Nat → Env → St → Prop, II = fun m E S => ∃ k, m = n - 1 - k ∧ k ≤ n - 1 ∧ Kept st S ∧ E 0 = x ∧ E 5 = .int .i64 (n : Int) ∧ E 6 = .int .i32 ((accP l p k : Nat) : Int) ∧ E 7 = .int .i64 ((k + 1 : Nat) : Int) := ⟨_, rfl⟩
      refine W_loop II ?_ (n := n - 1) (by
        rw [hII]
        exact ⟨0, rfl, by omega, hk, h0, h5, h6, rfl⟩)
      clear hk h0 h5 h6
      intro m E S hh
      rw [hII] at hh
      obtain ⟨k, rfl, hk1, hk, h0, h5, h6, h7⟩ := hh
      by_cases hlt : k + 1 < n
      · obtain ⟨d, hd⟩ : ∃ d, d = l.getD (k + 1) 0 := ⟨_, rfl⟩
        have hid : iaddrPV 1 x (.int .i64 ((k + 1 : Nat) : Int)) = some (.cp [.b8 d]) := by
          rw [hd]; exact iaddr_by hx (by omega) (by rw [Int.toNat_natCast]; omega)
        have ha := hacc k (by omega)
        have hstep : accP l p (k + 1) = 64 * accP l p k + d.toNat % 64 := by rw [hd]; rfl
        simp (maxSteps := 1000000) (disch := omega) only [h0, h5, h6, h7, hlt, hid, qciz, cI32, rem32, mul32, addc32, add_n, qaaz, qabz, qacz, qadz, qaez, qafz, qagz, qahz, qaiz, qajz, qakz, qalz, qamz, qanz, evOp, qaoz, qapz, qaqz, qarz, qasz, qatz, qauz, qavz,
 ↓reduceIte, Nat.reduceEqDiff, List.nil_append, List.cons_append, List.append_nil, List.map_cons, List.map_nil, qawz, qaxz, qayz, Option.map_some, Option.map_none, qazz, qbaz, qbbz, qbcz, qbdz, qbez, qbfz, qbgz, qbhz, qbiz, qbjz, qbkz, qblz, qbmz, qbnz, qboz,
 qbpz, qbqz, qbrz, qbsz, qbtz, qbuz, qbvz, qbwz, qbxz, qbyz, qbzz, qcaz, qcbz, qccz, qcdz, qcez, qcfz, qcgz, qchz, qciz, beq_true, beq_false, Bool.not_eq_true', decide_eq_true_eq, decide_eq_false_iff_not, decide_true, decide_false,
 Int.toNat_natCast, Int.ofNat_lt, Int.ofNat_le, Int.natCast_inj, Bool.false_eq_true, Bool.true_eq_false, qcjz, List.getElem?_cons_zero, List.getElem?_cons_succ, qckz, Int.reduceToNat, Int.reduceLE, true_and, and_true, reduceCtorEq, or_false, false_or, or_true, Option.some.injEq, exists_eq_left', Bool.not_true, Bool.not_false, ne_eq, Int.reduceEq, not_true_eq_false, not_false_eq_true, Int.reduceLT, UInt8.reduceLT, UInt8.reduceLE, UInt8.reduceToNat]
        refine loopQ_intro (m := n - 1 - (k + 1)) (by omega) ?_
        rw [hII]
        exact ⟨k + 1, rfl, by omega, hk, h0, h5, by rw [hstep]; rfl, rfl⟩
      · obtain rfl : k = n - 1 := by omega
        simp (maxSteps := 1000000) (disch := omega) only [h0, h5, h6, h7, hlt, qaaz, qabz, qacz, qadz, qaez, qafz, qagz, qahz, qaiz, qajz, qakz, qalz, qamz, qanz, evOp, qaoz, qapz, qaqz, qarz, qasz, qatz, qauz, qavz,
 ↓reduceIte, Nat.reduceEqDiff, List.nil_append, List.cons_append, List.append_nil, List.map_cons, List.map_nil, qawz, qaxz, qayz, Option.map_some, Option.map_none, qazz, qbaz, qbbz, qbcz, qbdz, qbez, qbfz, qbgz, qbhz, qbiz, qbjz, qbkz, qblz, qbmz, qbnz, qboz,
 qbpz, qbqz, qbrz, qbsz, qbtz, qbuz, qbvz, qbwz, qbxz, qbyz, qbzz, qcaz, qcbz, qccz, qcdz, qcez, qcfz, qcgz, qchz, qciz, beq_true, beq_false, Bool.not_eq_true', decide_eq_true_eq, decide_eq_false_iff_not, decide_true, decide_false,
 Int.toNat_natCast, Int.ofNat_lt, Int.ofNat_le, Int.natCast_inj, Bool.false_eq_true, Bool.true_eq_false, qcjz, List.getElem?_cons_zero, List.getElem?_cons_succ, qckz, Int.reduceToNat, Int.reduceLE, true_and, and_true, reduceCtorEq, or_false, false_or, or_true, Option.some.injEq, exists_eq_left', Bool.not_true, Bool.not_false, ne_eq, Int.reduceEq, not_true_eq_false, not_false_eq_true, Int.reduceLT, UInt8.reduceLT, UInt8.reduceLE, UInt8.reduceToNat]
        exact hk
    clear hk h0 h5 h6
    rintro e S ⟨hk, h0, h5, h6⟩
    rw [← hq] at h6
    have hqb : qN l n < 2147483648 := by rw [hq]; have := hacc (n - 1) (by omega); omega
    have hput := Put_spec (st := S) hqb
    have hnext : ¬ succN l n → ∀ (E : Env) (S : St), Kept st S → E 0 = x → E 5 = .int .i64 ((n + 1 : Nat) : Int) → I (5 - (n + 1)) E S := by
      intro hs E S k1 k2 k3
      rw [hI]
      refine ⟨n + 1, rfl, by omega, by omega, k1, fun k j1 j2 j3 => ?_, k2, k3⟩
      by_cases hkn : k = n
      · subst hkn; exact hs
      · exact hall k j1 (by omega) j3
    by_cases hpt : pointN (qN l n)
    · have hput' : call prog (.fn 81 []) [.int .i32 ((qN l n : Nat) : Int)] S = some (.tup [.bys (.own S.toks.length) (putOf (qN l n)), .int .i64 0], S.tok1) := by
        rw [hput]; simp [putV, hpt]
      have hsl := slc_hi (k := .i64) (c := (n : Int)) hx (by omega) (by simpa using hnl)
      rw [Int.toNat_natCast] at hsl
      by_cases hs : putOf (qN l n) = l.take n
      · have hyes := succ_next hn hnl h128' ⟨hpt, hs⟩
        simp (maxSteps := 1000000) (disch := omega) only [h0, h5, h6, hput', b2s_by qcgz, hsl, b2s_by (takeB_by hx), eq_true hs, qaaz, qabz, qacz, qadz, qaez, qafz, qagz, qahz, qaiz, qajz, qakz, qalz, qamz, qanz, evOp, qaoz, qapz, qaqz, qarz, qasz, qatz, qauz, qavz,
 ↓reduceIte, Nat.reduceEqDiff, List.nil_append, List.cons_append, List.append_nil, List.map_cons, List.map_nil, qawz, qaxz, qayz, Option.map_some, Option.map_none, qazz, qbaz, qbbz, qbcz, qbdz, qbez, qbfz, qbgz, qbhz, qbiz, qbjz, qbkz, qblz, qbmz, qbnz, qboz,
 qbpz, qbqz, qbrz, qbsz, qbtz, qbuz, qbvz, qbwz, qbxz, qbyz, qbzz, qcaz, qcbz, qccz, qcdz, qcez, qcfz, qcgz, qchz, qciz, beq_true, beq_false, Bool.not_eq_true', decide_eq_true_eq, decide_eq_false_iff_not, decide_true, decide_false,
 Int.toNat_natCast, Int.ofNat_lt, Int.ofNat_le, Int.natCast_inj, Bool.false_eq_true, Bool.true_eq_false, qcjz, List.getElem?_cons_zero, List.getElem?_cons_succ, qckz, Int.reduceToNat, Int.reduceLE, true_and, and_true, reduceCtorEq, or_false, false_or, or_true, Option.some.injEq, exists_eq_left', Bool.not_true, Bool.not_false, ne_eq, Int.reduceEq, not_true_eq_false, not_false_eq_true, Int.reduceLT, UInt8.reduceLT, UInt8.reduceLE, UInt8.reduceToNat]
        refine ⟨.tup [.int .i32 ((qN l n : Nat) : Int), .int .i64 (n : Int), .int .i64 0], rfl, ?_⟩
        rw [nextV_some hyes]
        exact hk.tok1.leave rfl (fun _ _ => rfl)
      · simp (maxSteps := 1000000) (disch := omega) only [h0, h5, h6, hput', b2s_by qcgz, hsl, b2s_by (takeB_by hx), hs, add_n, qaaz, qabz, qacz, qadz, qaez, qafz, qagz, qahz, qaiz, qajz, qakz, qalz, qamz, qanz, evOp, qaoz, qapz, qaqz, qarz, qasz, qatz, qauz, qavz,
 ↓reduceIte, Nat.reduceEqDiff, List.nil_append, List.cons_append, List.append_nil, List.map_cons, List.map_nil, qawz, qaxz, qayz, Option.map_some, Option.map_none, qazz, qbaz, qbbz, qbcz, qbdz, qbez, qbfz, qbgz, qbhz, qbiz, qbjz, qbkz, qblz, qbmz, qbnz, qboz,
 qbpz, qbqz, qbrz, qbsz, qbtz, qbuz, qbvz, qbwz, qbxz, qbyz, qbzz, qcaz, qcbz, qccz, qcdz, qcez, qcfz, qcgz, qchz, qciz, beq_true, beq_false, Bool.not_eq_true', decide_eq_true_eq, decide_eq_false_iff_not, decide_true, decide_false,
 Int.toNat_natCast, Int.ofNat_lt, Int.ofNat_le, Int.natCast_inj, Bool.false_eq_true, Bool.true_eq_false, qcjz, List.getElem?_cons_zero, List.getElem?_cons_succ, qckz, Int.reduceToNat, Int.reduceLE, true_and, and_true, reduceCtorEq, or_false, false_or, or_true, Option.some.injEq, exists_eq_left', Bool.not_true, Bool.not_false, ne_eq, Int.reduceEq, not_true_eq_false, not_false_eq_true, Int.reduceLT, UInt8.reduceLT, UInt8.reduceLE, UInt8.reduceToNat]
        exact loopQ_intro (m := 5 - (n + 1)) (by omega) (hnext (fun h => hs h.2) _ _ hk.tok1 h0 rfl)
    · have hput' : call prog (.fn 81 []) [.int .i32 ((qN l n : Nat) : Int)] S = some (.tup [.nils, .int .i64 20], S) := by
        rw [hput]; simp [putV, hpt]
      simp (maxSteps := 1000000) (disch := omega) only [h0, h5, h6, hput', add_n, qaaz, qabz, qacz, qadz, qaez, qafz, qagz, qahz, qaiz, qajz, qakz, qalz, qamz, qanz, evOp, qaoz, qapz, qaqz, qarz, qasz, qatz, qauz, qavz,
 ↓reduceIte, Nat.reduceEqDiff, List.nil_append, List.cons_append, List.append_nil, List.map_cons, List.map_nil, qawz, qaxz, qayz, Option.map_some, Option.map_none, qazz, qbaz, qbbz, qbcz, qbdz, qbez, qbfz, qbgz, qbhz, qbiz, qbjz, qbkz, qblz, qbmz, qbnz, qboz,
 qbpz, qbqz, qbrz, qbsz, qbtz, qbuz, qbvz, qbwz, qbxz, qbyz, qbzz, qcaz, qcbz, qccz, qcdz, qcez, qcfz, qcgz, qchz, qciz, beq_true, beq_false, Bool.not_eq_true', decide_eq_true_eq, decide_eq_false_iff_not, decide_true, decide_false,
 Int.toNat_natCast, Int.ofNat_lt, Int.ofNat_le, Int.natCast_inj, Bool.false_eq_true, Bool.true_eq_false, qcjz, List.getElem?_cons_zero, List.getElem?_cons_succ, qckz, Int.reduceToNat, Int.reduceLE, true_and, and_true, reduceCtorEq, or_false, false_or, or_true, Option.some.injEq, exists_eq_left', Bool.not_true, Bool.not_false, ne_eq, Int.reduceEq, not_true_eq_false, not_false_eq_true, Int.reduceLT, UInt8.reduceLT, UInt8.reduceLE, UInt8.reduceToNat]
      exact loopQ_intro (m := 5 - (n + 1)) (by omega) (hnext (fun h => hpt h.1) _ _ hk h0 rfl)
  · have hno : nextOf l = none := by
      cases h : nextOf l with
      | none => rfl
      | some r =>
        obtain ⟨v, k⟩ := r
        obtain ⟨k1, k2, k3⟩ := next_succ h128' h
        exact absurd k3 (hall k (by omega) (by omega) k2)
    have fin : ∀ E : Env, E 2 = .int .i32 0 → E 3 = .int .i64 0 → E 4 = .int .i64 20 → ∃ rv, resOf E S [.tmp 2, .tmp 3, .tmp 4] = some rv ∧ leave st S rv = (nextV l, st) := by
      intro E k2 k3 k4
      exact ⟨.tup [.int .i32 0, .int .i64 0, .int .i64 20], by simp [resOf, rvAll, rv1, k2, k3, k4, notTup, packRes], by rw [nextV_none hno hne]; exact hk.leave rfl (fun _ _ => rfl)⟩
    by_cases hn4 : n ≤ 4
    · have r1 : (n : Int) ≤ 4 := by omega
      have r2 : ¬ n ≤ l.length := by omega
      simp (maxSteps := 1000000) (disch := omega) only [h0, h5, r1, len_by hx, r2, qaaz, qabz, qacz, qadz, qaez, qafz, qagz, qahz, qaiz, qajz, qakz, qalz, qamz, qanz, evOp, qaoz, qapz, qaqz, qarz, qasz, qatz, qauz, qavz,
 ↓reduceIte, Nat.reduceEqDiff, List.nil_append, List.cons_append, List.append_nil, List.map_cons, List.map_nil, qawz, qaxz, qayz, Option.map_some, Option.map_none, qazz, qbaz, qbbz, qbcz, qbdz, qbez, qbfz, qbgz, qbhz, qbiz, qbjz, qbkz, qblz, qbmz, qbnz, qboz,
 qbpz, qbqz, qbrz, qbsz, qbtz, qbuz, qbvz, qbwz, qbxz, qbyz, qbzz, qcaz, qcbz, qccz, qcdz, qcez, qcfz, qcgz, qchz, qciz, beq_true, beq_false, Bool.not_eq_true', decide_eq_true_eq, decide_eq_false_iff_not, decide_true, decide_false,
 Int.toNat_natCast, Int.ofNat_lt, Int.ofNat_le, Int.natCast_inj, Bool.false_eq_true, Bool.true_eq_false, qcjz, List.getElem?_cons_zero, List.getElem?_cons_succ, qckz, Int.reduceToNat, Int.reduceLE, true_and, and_true, reduceCtorEq, or_false, false_or, or_true, Option.some.injEq, exists_eq_left', Bool.not_true, Bool.not_false, ne_eq, Int.reduceEq, not_true_eq_false, not_false_eq_true, Int.reduceLT, UInt8.reduceLT, UInt8.reduceLE, UInt8.reduceToNat]
      exact fin _ rfl rfl rfl
    · have r1 : ¬ (n : Int) ≤ 4 := by omega
      simp (maxSteps := 1000000) (disch := omega) only [h0, h5, r1, qaaz, qabz, qacz, qadz, qaez, qafz, qagz, qahz, qaiz, qajz, qakz, qalz, qamz, qanz, evOp, qaoz, qapz, qaqz, qarz, qasz, qatz, qauz, qavz,
 ↓reduceIte, Nat.reduceEqDiff, List.nil_append, List.cons_append, List.append_nil, List.map_cons, List.map_nil, qawz, qaxz, qayz, Option.map_some, Option.map_none, qazz, qbaz, qbbz, qbcz, qbdz, qbez, qbfz, qbgz, qbhz, qbiz, qbjz, qbkz, qblz, qbmz, qbnz, qboz,
 qbpz, qbqz, qbrz, qbsz, qbtz, qbuz, qbvz, qbwz, qbxz, qbyz, qbzz, qcaz, qcbz, qccz, qcdz, qcez, qcfz, qcgz, qchz, qciz, beq_true, beq_false, Bool.not_eq_true', decide_eq_true_eq, decide_eq_false_iff_not, decide_true, decide_false,
 Int.toNat_natCast, Int.ofNat_lt, Int.ofNat_le, Int.natCast_inj, Bool.false_eq_true, Bool.true_eq_false, qcjz, List.getElem?_cons_zero, List.getElem?_cons_succ, qckz, Int.reduceToNat, Int.reduceLE, true_and, and_true, reduceCtorEq, or_false, false_or, or_true, Option.some.injEq, exists_eq_left', Bool.not_true, Bool.not_false, ne_eq, Int.reduceEq, not_true_eq_false, not_false_eq_true, Int.reduceLT, UInt8.reduceLT, UInt8.reduceLE, UInt8.reduceToNat]
      exact fin _ rfl rfl rfl
end Go.Ab

/-
  A text's points; whether it is one.
-/
namespace Go.Ab
set_option linter.unusedVariables false
set_option linter.unusedSimpArgs false
variable {st s : St} {e : Env}

theorem next_pos {l : List UInt8} {p n : Nat} (h : nextOf l = some (p, n)) : 1 ≤ n ∧ n ≤ l.length ∧ p < 2147483648 := by
  by_cases hc : (l.getD 0 0).toNat < 128
  · unfold nextOf at h
    split at h
    · cases h
    · rename_i hne
      cases h
      have := List.length_pos_iff.2 hne
      omega
  · obtain ⟨h1, h2, h3⟩ := next_succ hc h
    have h4 := succ_next h1 h2 hc h3
    rw [h] at h4
    simp only [Option.some.injEq, Prod.mk.injEq] at h4
    have := h3.1
    rw [← h4.1] at this
    unfold pointN at this
    omega

/-- A text's points from a place on; or where there is none. -/
def ptsOf : Nat → List UInt8 → Nat → Except Nat (List Nat)
  | 0, _, _ => .ok []
  | k + 1, l, i => if i < l.length then match nextOf (l.drop i) with
    | none => .error i
    | some (p, n) => match ptsOf k l (i + n) with
      | .ok r => .ok (p :: r)
      | .error j => .error j
    else .ok []
def ptV (p : Nat) : PV := .int .i32 (p : Int)
def ptsV (st : St) (r : Except Nat (List Nat)) : PV × St := match r with
  | .ok ps => (.tup [newSl st 1 (ps.map ptV), .agg [.int .i64 0, .int .i64 0]], newS st (ps.map ptV).isEmpty)
  | .error j => (.tup [.nils, .agg [.int .i64 (j : Int), .int .i64 20]], st)

theorem Kept.appS {esz : Nat} {v : PV} {xs : List PV} (hk : Kept st s) (h : Own st s esz v xs) : Kept st (Ab.appS s v) := by
  have htl := hk.tl
  rcases h with ⟨rfl, rfl⟩ | ⟨i, rfl, h2, h3⟩
  · exact hk.tok1
  · refine hk.of rfl rfl hk.lw (fun j hj => ?_) ?_
    · show (s.toks.set i false ++ [true])[j]? = s.toks[j]?
      rw [List.getElem?_append_left (by simp; omega), List.getElem?_set_ne (by omega)]
    · show st.toks.length ≤ (s.toks.set i false ++ [true]).length
      simp; omega
theorem Own.appK {esz : Nat} {v : PV} {xs ys : List PV} (hk : Kept st s) (h : Own st s esz v xs) : Own st (Ab.appS s v) esz (.sl esz (.own s.toks.length) ys) ys := by
  have htl := hk.tl
  refine .inr ⟨_, rfl, htl, ?_⟩
  rcases h with ⟨rfl, rfl⟩ | ⟨i, rfl, h2, h3⟩
  · simp [Ab.appS, St.tok1]
  · show (s.toks.set i false ++ [true])[s.toks.length]? = some true
    rw [List.getElem?_append_right (by simp)]; simp
theorem leave_ownA {v : PV} {xs : List PV} {a b : Int} (hk : Kept st s) (h : Own st s 1 v xs) (hne : xs = [] → v = .nils) : leave st s (.tup [v, .agg [.int .i64 a, .int .i64 b]]) = (.tup [newSl st 1 xs, .agg [.int .i64 a, .int .i64 b]], newS st xs.isEmpty) := by
  have e1 := hk.bx; have e2 := hk.lp; have e3 := hk.tk
  rcases h with ⟨rfl, rfl⟩ | ⟨i, rfl, h2, h3⟩
  · simp [leave, PV.inB, PV.inB.inBAll, hk.lw, keepRes, keepVals, keepVal, keepCells, keepLeaf, e1, e2, e3, newSl, newS]
  · by_cases hx : xs = []
    · have := hne hx; cases this
    · simp [leave, PV.inB, PV.inB.inBAll, hk.lw, keepRes, keepVals, keepVal, keepCells, keepLeaf, keepTok, h3, show ¬ i < st.toks.length by omega, e1, e2, e3, newSl, newS, hx, St.tok1]
theorem liti1 {p : Int} : litFill 1 (List.replicate 1 (.int .i32 0)) [(0, .int .i32 p)] = some [.int .i32 p] := lit1 rfl rfl
theorem build2i {a b : Int} : buildCells [.int .i64 0, .int .i64 0] [(0, 1, .int .i64 a), (1, 1, .int .i64 b)] = some [.int .i64 a, .int .i64 b] := by
  simp [buildCells, PV.cells, leafOk, setCells]
theorem build0i : buildCells [.int .i64 0, .int .i64 0] [] = some [.int .i64 0, .int .i64 0] := rfl

/-- The box of a fault. -/
def FB (st s : St) (a b : Int) : Prop := st.boxes.length < s.boxes.length ∧ s.boxes[st.boxes.length]? = some [.int .i64 a, .int .i64 b]
theorem FB.store {a b c d : Int} (hk : Kept st s) (h : FB st s a b) : ∃ s', storePV s 2 (.ptr st.boxes.length 0) (.agg [.int .i64 c, .int .i64 d]) = some s' ∧ Kept st s' ∧ FB st s' c d ∧ s'.toks = s.toks := by
  refine ⟨{ s with boxes := s.boxes.set st.boxes.length [.int .i64 c, .int .i64 d] }, ?_, ?_, ⟨by simpa using h.1, by simp [h.1]⟩, rfl⟩
  · simp [storePV, h.2, PV.cells, PV.inB, PV.inB.inBAll, leafOk, hasTok, tokOf, setCells]
  · exact hk.of (by rw [List.take_set_of_le (Nat.le_refl _)]) rfl hk.lw (fun _ _ => rfl) hk.tl
theorem FB.load {a b : Int} (h : FB st s a b) : loadPV s true 2 (.ptr st.boxes.length 0) = some (.agg [.int .i64 a, .int .i64 b]) := by
  simp [loadPV, h.2, readCells]
theorem FB.appS {v : PV} {esz : Nat} {xs : List PV} {a b : Int} (h : FB st s a b) (ho : Own st s esz v xs) : FB st (Ab.appS s v) a b := by
  rcases ho with ⟨rfl, rfl⟩ | ⟨i, rfl, _, _⟩ <;> exact h

set_option maxHeartbeats 1000000 in
theorem uPoints_spec {x : PV} {l : List UInt8} (hx : x.by = some l) (hl : l.length ≤ 100000000) : call prog (.fn 69 []) [x] st = some (ptsV st (ptsOf (l.length + 1) l 0)) := by
  refine call_of_W prog_69 ?_
  unfold F_utf_Points; dsimp only
  obtain ⟨T, hT⟩ : ∃ T, T = ptsOf (l.length + 1) l 0 := ⟨_, rfl⟩
  rw [← hT]
  refine W_cut (fun E S => Kept st S ∧ FB st S 0 0 ∧ E 0 = x ∧ E 3 = .ptr st.boxes.length 0) ?_ ?_
  · simp (maxSteps := 1000000) (disch := omega) only [allocPV, qaaz, qabz, qacz, qadz, qaez, qafz, qagz, qahz, qaiz, qajz, qakz, qalz, qamz, qanz, evOp, qaoz, qapz, qaqz, qarz, qasz, qatz, qauz, qavz,
 ↓reduceIte, Nat.reduceEqDiff, List.nil_append, List.cons_append, List.append_nil, List.map_cons, List.map_nil, qawz, qaxz, qayz, Option.map_some, Option.map_none, qazz, qbaz, qbbz, qbcz, qbdz, qbez, qbfz, qbgz, qbhz, qbiz, qbjz, qbkz, qblz, qbmz, qbnz, qboz,
 qbpz, qbqz, qbrz, qbsz, qbtz, qbuz, qbvz, qbwz, qbxz, qbyz, qbzz, qcaz, qcbz, qccz, qcdz, qcez, qcfz, qcgz, qchz, qciz, beq_true, beq_false, Bool.not_eq_true', decide_eq_true_eq, decide_eq_false_iff_not, decide_true, decide_false,
 Int.toNat_natCast, Int.ofNat_lt, Int.ofNat_le, Int.natCast_inj, Bool.false_eq_true, Bool.true_eq_false, qcjz, List.getElem?_cons_zero, List.getElem?_cons_succ, qckz, Int.reduceToNat, Int.reduceLE, true_and, and_true, reduceCtorEq, or_false, false_or, or_true, Option.some.injEq, exists_eq_left', Bool.not_true, Bool.not_false, ne_eq, Int.reduceEq, not_true_eq_false, not_false_eq_true, Int.reduceLT, UInt8.reduceLT, UInt8.reduceLE, UInt8.reduceToNat]
    exact ⟨Kept.start.alloc, by simp, by simp⟩
  rintro e S ⟨hk, hb, h0, h3⟩
  simp (maxSteps := 1000000) (disch := omega) only [h0, h3, qaaz, qabz, qacz, qadz, qaez, qafz, qagz, qahz, qaiz, qajz, qakz, qalz, qamz, qanz, evOp, qaoz, qapz, qaqz, qarz, qasz, qatz, qauz, qavz,
 ↓reduceIte, Nat.reduceEqDiff, List.nil_append, List.cons_append, List.append_nil, List.map_cons, List.map_nil, qawz, qaxz, qayz, Option.map_some, Option.map_none, qazz, qbaz, qbbz, qbcz, qbdz, qbez, qbfz, qbgz, qbhz, qbiz, qbjz, qbkz, qblz, qbmz, qbnz, qboz,
 qbpz, qbqz, qbrz, qbsz, qbtz, qbuz, qbvz, qbwz, qbxz, qbyz, qbzz, qcaz, qcbz, qccz, qcdz, qcez, qcfz, qcgz, qchz, qciz, beq_true, beq_false, Bool.not_eq_true', decide_eq_true_eq, decide_eq_false_iff_not, decide_true, decide_false,
 Int.toNat_natCast, Int.ofNat_lt, Int.ofNat_le, Int.natCast_inj, Bool.false_eq_true, Bool.true_eq_false, qcjz, List.getElem?_cons_zero, List.getElem?_cons_succ, qckz, Int.reduceToNat, Int.reduceLE, true_and, and_true, reduceCtorEq, or_false, false_or, or_true, Option.some.injEq, exists_eq_left', Bool.not_true, Bool.not_false, ne_eq, Int.reduceEq, not_true_eq_false, not_false_eq_true, Int.reduceLT, UInt8.reduceLT, UInt8.reduceLE, UInt8.reduceToNat]
  obtain ⟨I, hI⟩ : ∃ I : Nat → Env → St → Prop, I = fun m E S => ∃ (i k : Nat) (v : PV) (acc : List Nat), m = l.length - i ∧ l.length + 1 - i ≤ k ∧ i ≤ l.length ∧ acc.length ≤ i ∧ Kept st S ∧ FB st S 0 0 ∧ Own st S 1 v (acc.map ptV) ∧ (acc.map ptV = [] → v = .nils) ∧ T = (match ptsOf k l i with | .ok r => .ok (acc ++ r) | .error j => .error j) ∧ E 0 = x ∧ E 3 = .ptr st.boxes.length 0 ∧ E 4 = v ∧ E 5 = .int .i64 (i : Int) := ⟨_, rfl⟩
  refine W_loop I ?_ (n := l.length) (by
    rw [hI]
    refine ⟨0, l.length + 1, .nils, [], rfl, by omega, by omega, by simp, hk, hb, .inl ⟨rfl, rfl⟩, fun _ => rfl, ?_, h0, h3, rfl, rfl⟩
    rw [hT]; split <;> simp_all)
  clear hk hb h0 h3
  intro m e S hh
  rw [hI] at hh
  obtain ⟨i, k, v, acc, rfl, hki, hil, hacl, hk, hb, ho, hnil, hTT, h0, h3, h4, h5⟩ := hh
  by_cases hlt : i < l.length
  · obtain ⟨k, rfl⟩ : ∃ k', k = k' + 1 := ⟨k - 1, by omega⟩
    simp only [ptsOf, hlt, if_true] at hTT
    have hnx := fun S : St => uNext_spec (st := S) (dropB_by (i := i) hx) (by simp; omega)
    have hsl := slc_lo (k := .i64) (c := (i : Int)) hx (by omega) (by simpa using hil)
    rw [Int.toNat_natCast] at hsl
    cases hno : nextOf (l.drop i) with
    | none =>
      simp only [hno] at hTT
      have hdn : l.drop i ≠ [] := by intro h; have := congrArg List.length h; simp at this; omega
      rw [nextV_none hno hdn] at hnx
      obtain ⟨S2, a1, k1, b1, -⟩ := FB.store (c := (i : Int)) (d := 20) hk hb
      have hld := b1.load
      simp (maxSteps := 1000000) (disch := omega) only [h0, h3, h4, h5, len_by hx, hlt, hsl, hnx, build2i, a1, qaaz, qabz, qacz, qadz, qaez, qafz, qagz, qahz, qaiz, qajz, qakz, qalz, qamz, qanz, evOp, qaoz, qapz, qaqz, qarz, qasz, qatz, qauz, qavz,
 ↓reduceIte, Nat.reduceEqDiff, List.nil_append, List.cons_append, List.append_nil, List.map_cons, List.map_nil, qawz, qaxz, qayz, Option.map_some, Option.map_none, qazz, qbaz, qbbz, qbcz, qbdz, qbez, qbfz, qbgz, qbhz, qbiz, qbjz, qbkz, qblz, qbmz, qbnz, qboz,
 qbpz, qbqz, qbrz, qbsz, qbtz, qbuz, qbvz, qbwz, qbxz, qbyz, qbzz, qcaz, qcbz, qccz, qcdz, qcez, qcfz, qcgz, qchz, qciz, beq_true, beq_false, Bool.not_eq_true', decide_eq_true_eq, decide_eq_false_iff_not, decide_true, decide_false,
 Int.toNat_natCast, Int.ofNat_lt, Int.ofNat_le, Int.natCast_inj, Bool.false_eq_true, Bool.true_eq_false, qcjz, List.getElem?_cons_zero, List.getElem?_cons_succ, qckz, Int.reduceToNat, Int.reduceLE, true_and, and_true, reduceCtorEq, or_false, false_or, or_true, Option.some.injEq, exists_eq_left', Bool.not_true, Bool.not_false, ne_eq, Int.reduceEq, not_true_eq_false, not_false_eq_true, Int.reduceLT, UInt8.reduceLT, UInt8.reduceLE, UInt8.reduceToNat]
      refine ⟨.tup [.nils, .agg [.int .i64 (i : Int), .int .i64 20]], ?_, ?_⟩
      · simp [resOf, rvAll, rv1, qavz, h3, hld, notTup, packRes]
      · rw [hTT]; exact k1.leave rfl (fun _ _ => rfl)
    | some pn =>
      obtain ⟨p, n⟩ := pn
      simp only [hno] at hTT
      rw [nextV_some hno] at hnx
      obtain ⟨hn1, hn2, hn3⟩ := next_pos hno
      simp only [List.length_drop] at hn2
      have happ := appV_own (u := ptV p) (t := .own S.toks.length) ho.tok1 (by simp only [List.length_map, room]; omega)
      have k2 := hk.tok1.appS ho.tok1
      have o2 := Own.appK (ys := acc.map ptV ++ [ptV p]) hk.tok1 ho.tok1
      have b2 : FB st (Ab.appS S.tok1 v) 0 0 := FB.appS (s := S.tok1) hb ho.tok1
      unfold ptV at happ
      simp (maxSteps := 1000000) (disch := omega) only [h0, h3, h4, h5, len_by hx, hlt, hsl, hnx, liti1, freshT_eq, happ, add_n, qaaz, qabz, qacz, qadz, qaez, qafz, qagz, qahz, qaiz, qajz, qakz, qalz, qamz, qanz, evOp, qaoz, qapz, qaqz, qarz, qasz, qatz, qauz, qavz,
 ↓reduceIte, Nat.reduceEqDiff, List.nil_append, List.cons_append, List.append_nil, List.map_cons, List.map_nil, qawz, qaxz, qayz, Option.map_some, Option.map_none, qazz, qbaz, qbbz, qbcz, qbdz, qbez, qbfz, qbgz, qbhz, qbiz, qbjz, qbkz, qblz, qbmz, qbnz, qboz,
 qbpz, qbqz, qbrz, qbsz, qbtz, qbuz, qbvz, qbwz, qbxz, qbyz, qbzz, qcaz, qcbz, qccz, qcdz, qcez, qcfz, qcgz, qchz, qciz, beq_true, beq_false, Bool.not_eq_true', decide_eq_true_eq, decide_eq_false_iff_not, decide_true, decide_false,
 Int.toNat_natCast, Int.ofNat_lt, Int.ofNat_le, Int.natCast_inj, Bool.false_eq_true, Bool.true_eq_false, qcjz, List.getElem?_cons_zero, List.getElem?_cons_succ, qckz, Int.reduceToNat, Int.reduceLE, true_and, and_true, reduceCtorEq, or_false, false_or, or_true, Option.some.injEq, exists_eq_left', Bool.not_true, Bool.not_false, ne_eq, Int.reduceEq, not_true_eq_false, not_false_eq_true, Int.reduceLT, UInt8.reduceLT, UInt8.reduceLE, UInt8.reduceToNat]
      refine loopQ_intro (m := l.length - (i + n)) (by omega) ?_
      rw [hI]
      refine ⟨i + n, k, _, acc ++ [p], rfl, by omega, by omega, by simp; omega, k2, b2, ?_, fun h => by simp at h, ?_, h0, h3, rfl, rfl⟩
      · rw [List.map_append]; exact o2
      · rw [hTT]
        cases ptsOf k l (i + n) with
        | ok r => simp
        | error j => rfl
  · obtain rfl : i = l.length := by omega
    have hTf : T = .ok acc := by
      rw [hTT]
      cases k with
      | zero => simp [ptsOf]
      | succ k => simp [ptsOf]
    obtain ⟨S2, a1, k1, b1, t1⟩ := FB.store (c := 0) (d := 0) hk hb
    have hld := b1.load
    have ho2 : Own st S2 1 v (acc.map ptV) := by
      rcases ho with h | ⟨i, h1, h2, h3⟩
      · exact .inl h
      · exact .inr ⟨i, h1, h2, by rw [t1]; exact h3⟩
    simp (maxSteps := 1000000) (disch := omega) only [h0, h3, h4, h5, len_by hx, hlt, build0i, a1, qaaz, qabz, qacz, qadz, qaez, qafz, qagz, qahz, qaiz, qajz, qakz, qalz, qamz, qanz, evOp, qaoz, qapz, qaqz, qarz, qasz, qatz, qauz, qavz,
 ↓reduceIte, Nat.reduceEqDiff, List.nil_append, List.cons_append, List.append_nil, List.map_cons, List.map_nil, qawz, qaxz, qayz, Option.map_some, Option.map_none, qazz, qbaz, qbbz, qbcz, qbdz, qbez, qbfz, qbgz, qbhz, qbiz, qbjz, qbkz, qblz, qbmz, qbnz, qboz,
 qbpz, qbqz, qbrz, qbsz, qbtz, qbuz, qbvz, qbwz, qbxz, qbyz, qbzz, qcaz, qcbz, qccz, qcdz, qcez, qcfz, qcgz, qchz, qciz, beq_true, beq_false, Bool.not_eq_true', decide_eq_true_eq, decide_eq_false_iff_not, decide_true, decide_false,
 Int.toNat_natCast, Int.ofNat_lt, Int.ofNat_le, Int.natCast_inj, Bool.false_eq_true, Bool.true_eq_false, qcjz, List.getElem?_cons_zero, List.getElem?_cons_succ, qckz, Int.reduceToNat, Int.reduceLE, true_and, and_true, reduceCtorEq, or_false, false_or, or_true, Option.some.injEq, exists_eq_left', Bool.not_true, Bool.not_false, ne_eq, Int.reduceEq, not_true_eq_false, not_false_eq_true, Int.reduceLT, UInt8.reduceLT, UInt8.reduceLE, UInt8.reduceToNat]
    refine ⟨.tup [v, .agg [.int .i64 0, .int .i64 0]], ?_, ?_⟩
    · have hnt : notTup v = true := by rcases ho with ⟨rfl, _⟩ | ⟨i, rfl, _⟩ <;> rfl
      simp [resOf, rvAll, rv1, qavz, h3, hld, hnt, packRes]
      rfl
    · rw [hTf]; exact leave_ownA k1 ho2 hnil
set_option maxHeartbeats 1000000 in
theorem rPoints_spec {x : PV} {l : List UInt8} (hx : x.by = some l) (hl : l.length ≤ 100000000) : call prog (.fn 80 []) [x] st = some (ptsV st (ptsOf (l.length + 1) l 0)) := by
  refine call_of_W prog_80 ?_
  unfold F_posthornref02_Points; dsimp only
  obtain ⟨T, hT⟩ : ∃ T, T = ptsOf (l.length + 1) l 0 := ⟨_, rfl⟩
  rw [← hT]
  refine W_cut (fun E S => Kept st S ∧ FB st S 0 0 ∧ E 0 = x ∧ E 3 = .ptr st.boxes.length 0) ?_ ?_
  · simp (maxSteps := 1000000) (disch := omega) only [allocPV, qaaz, qabz, qacz, qadz, qaez, qafz, qagz, qahz, qaiz, qajz, qakz, qalz, qamz, qanz, evOp, qaoz, qapz, qaqz, qarz, qasz, qatz, qauz, qavz,
 ↓reduceIte, Nat.reduceEqDiff, List.nil_append, List.cons_append, List.append_nil, List.map_cons, List.map_nil, qawz, qaxz, qayz, Option.map_some, Option.map_none, qazz, qbaz, qbbz, qbcz, qbdz, qbez, qbfz, qbgz, qbhz, qbiz, qbjz, qbkz, qblz, qbmz, qbnz, qboz,
 qbpz, qbqz, qbrz, qbsz, qbtz, qbuz, qbvz, qbwz, qbxz, qbyz, qbzz, qcaz, qcbz, qccz, qcdz, qcez, qcfz, qcgz, qchz, qciz, beq_true, beq_false, Bool.not_eq_true', decide_eq_true_eq, decide_eq_false_iff_not, decide_true, decide_false,
 Int.toNat_natCast, Int.ofNat_lt, Int.ofNat_le, Int.natCast_inj, Bool.false_eq_true, Bool.true_eq_false, qcjz, List.getElem?_cons_zero, List.getElem?_cons_succ, qckz, Int.reduceToNat, Int.reduceLE, true_and, and_true, reduceCtorEq, or_false, false_or, or_true, Option.some.injEq, exists_eq_left', Bool.not_true, Bool.not_false, ne_eq, Int.reduceEq, not_true_eq_false, not_false_eq_true, Int.reduceLT, UInt8.reduceLT, UInt8.reduceLE, UInt8.reduceToNat]
    exact ⟨Kept.start.alloc, by simp, by simp⟩
  rintro e S ⟨hk, hb, h0, h3⟩
  simp (maxSteps := 1000000) (disch := omega) only [h0, h3, qaaz, qabz, qacz, qadz, qaez, qafz, qagz, qahz, qaiz, qajz, qakz, qalz, qamz, qanz, evOp, qaoz, qapz, qaqz, qarz, qasz, qatz, qauz, qavz,
 ↓reduceIte, Nat.reduceEqDiff, List.nil_append, List.cons_append, List.append_nil, List.map_cons, List.map_nil, qawz, qaxz, qayz, Option.map_some, Option.map_none, qazz, qbaz, qbbz, qbcz, qbdz, qbez, qbfz, qbgz, qbhz, qbiz, qbjz, qbkz, qblz, qbmz, qbnz, qboz,
 qbpz, qbqz, qbrz, qbsz, qbtz, qbuz, qbvz, qbwz, qbxz, qbyz, qbzz, qcaz, qcbz, qccz, qcdz, qcez, qcfz, qcgz, qchz, qciz, beq_true, beq_false, Bool.not_eq_true', decide_eq_true_eq, decide_eq_false_iff_not, decide_true, decide_false,
 Int.toNat_natCast, Int.ofNat_lt, Int.ofNat_le, Int.natCast_inj, Bool.false_eq_true, Bool.true_eq_false, qcjz, List.getElem?_cons_zero, List.getElem?_cons_succ, qckz, Int.reduceToNat, Int.reduceLE, true_and, and_true, reduceCtorEq, or_false, false_or, or_true, Option.some.injEq, exists_eq_left', Bool.not_true, Bool.not_false, ne_eq, Int.reduceEq, not_true_eq_false, not_false_eq_true, Int.reduceLT, UInt8.reduceLT, UInt8.reduceLE, UInt8.reduceToNat]
  obtain ⟨I, hI⟩ : ∃ I : Nat → Env → St → Prop, I = fun m E S => ∃ (i k : Nat) (v : PV) (acc : List Nat), m = l.length - i ∧ l.length + 1 - i ≤ k ∧ i ≤ l.length ∧ acc.length ≤ i ∧ Kept st S ∧ FB st S 0 0 ∧ Own st S 1 v (acc.map ptV) ∧ (acc.map ptV = [] → v = .nils) ∧ T = (match ptsOf k l i with | .ok r => .ok (acc ++ r) | .error j => .error j) ∧ E 0 = x ∧ E 3 = .ptr st.boxes.length 0 ∧ E 4 = v ∧ E 5 = .int .i64 (i : Int) := ⟨_, rfl⟩
  refine W_loop I ?_ (n := l.length) (by
    rw [hI]
    refine ⟨0, l.length + 1, .nils, [], rfl, by omega, by omega, by simp, hk, hb, .inl ⟨rfl, rfl⟩, fun _ => rfl, ?_, h0, h3, rfl, rfl⟩
    rw [hT]; split <;> simp_all)
  clear hk hb h0 h3
  intro m e S hh
  rw [hI] at hh
  obtain ⟨i, k, v, acc, rfl, hki, hil, hacl, hk, hb, ho, hnil, hTT, h0, h3, h4, h5⟩ := hh
  by_cases hlt : i < l.length
  · obtain ⟨k, rfl⟩ : ∃ k', k = k' + 1 := ⟨k - 1, by omega⟩
    simp only [ptsOf, hlt, if_true] at hTT
    have hnx := fun S : St => rNext_spec (st := S) (dropB_by (i := i) hx) (by simp; omega)
    have hsl := slc_lo (k := .i64) (c := (i : Int)) hx (by omega) (by simpa using hil)
    rw [Int.toNat_natCast] at hsl
    cases hno : nextOf (l.drop i) with
    | none =>
      simp only [hno] at hTT
      have hdn : l.drop i ≠ [] := by intro h; have := congrArg List.length h; simp at this; omega
      rw [nextV_none hno hdn] at hnx
      obtain ⟨S2, a1, k1, b1, -⟩ := FB.store (c := (i : Int)) (d := 20) hk hb
      have hld := b1.load
      simp (maxSteps := 1000000) (disch := omega) only [h0, h3, h4, h5, len_by hx, hlt, hsl, hnx, build2i, a1, qaaz, qabz, qacz, qadz, qaez, qafz, qagz, qahz, qaiz, qajz, qakz, qalz, qamz, qanz, evOp, qaoz, qapz, qaqz, qarz, qasz, qatz, qauz, qavz,
 ↓reduceIte, Nat.reduceEqDiff, List.nil_append, List.cons_append, List.append_nil, List.map_cons, List.map_nil, qawz, qaxz, qayz, Option.map_some, Option.map_none, qazz, qbaz, qbbz, qbcz, qbdz, qbez, qbfz, qbgz, qbhz, qbiz, qbjz, qbkz, qblz, qbmz, qbnz, qboz,
 qbpz, qbqz, qbrz, qbsz, qbtz, qbuz, qbvz, qbwz, qbxz, qbyz, qbzz, qcaz, qcbz, qccz, qcdz, qcez, qcfz, qcgz, qchz, qciz, beq_true, beq_false, Bool.not_eq_true', decide_eq_true_eq, decide_eq_false_iff_not, decide_true, decide_false,
 Int.toNat_natCast, Int.ofNat_lt, Int.ofNat_le, Int.natCast_inj, Bool.false_eq_true, Bool.true_eq_false, qcjz, List.getElem?_cons_zero, List.getElem?_cons_succ, qckz, Int.reduceToNat, Int.reduceLE, true_and, and_true, reduceCtorEq, or_false, false_or, or_true, Option.some.injEq, exists_eq_left', Bool.not_true, Bool.not_false, ne_eq, Int.reduceEq, not_true_eq_false, not_false_eq_true, Int.reduceLT, UInt8.reduceLT, UInt8.reduceLE, UInt8.reduceToNat]
      refine ⟨.tup [.nils, .agg [.int .i64 (i : Int), .int .i64 20]], ?_, ?_⟩
      · simp [resOf, rvAll, rv1, qavz, h3, hld, notTup, packRes]
      · rw [hTT]; exact k1.leave rfl (fun _ _ => rfl)
    | some pn =>
      obtain ⟨p, n⟩ := pn
      simp only [hno] at hTT
      rw [nextV_some hno] at hnx
      obtain ⟨hn1, hn2, hn3⟩ := next_pos hno
      simp only [List.length_drop] at hn2
      have happ := appV_own (u := ptV p) (t := .own S.toks.length) ho.tok1 (by simp only [List.length_map, room]; omega)
      have k2 := hk.tok1.appS ho.tok1
      have o2 := Own.appK (ys := acc.map ptV ++ [ptV p]) hk.tok1 ho.tok1
      have b2 : FB st (Ab.appS S.tok1 v) 0 0 := FB.appS (s := S.tok1) hb ho.tok1
      unfold ptV at happ
      simp (maxSteps := 1000000) (disch := omega) only [h0, h3, h4, h5, len_by hx, hlt, hsl, hnx, liti1, freshT_eq, happ, add_n, qaaz, qabz, qacz, qadz, qaez, qafz, qagz, qahz, qaiz, qajz, qakz, qalz, qamz, qanz, evOp, qaoz, qapz, qaqz, qarz, qasz, qatz, qauz, qavz,
 ↓reduceIte, Nat.reduceEqDiff, List.nil_append, List.cons_append, List.append_nil, List.map_cons, List.map_nil, qawz, qaxz, qayz, Option.map_some, Option.map_none, qazz, qbaz, qbbz, qbcz, qbdz, qbez, qbfz, qbgz, qbhz, qbiz, qbjz, qbkz, qblz, qbmz, qbnz, qboz,
 qbpz, qbqz, qbrz, qbsz, qbtz, qbuz, qbvz, qbwz, qbxz, qbyz, qbzz, qcaz, qcbz, qccz, qcdz, qcez, qcfz, qcgz, qchz, qciz, beq_true, beq_false, Bool.not_eq_true', decide_eq_true_eq, decide_eq_false_iff_not, decide_true, decide_false,
 Int.toNat_natCast, Int.ofNat_lt, Int.ofNat_le, Int.natCast_inj, Bool.false_eq_true, Bool.true_eq_false, qcjz, List.getElem?_cons_zero, List.getElem?_cons_succ, qckz, Int.reduceToNat, Int.reduceLE, true_and, and_true, reduceCtorEq, or_false, false_or, or_true, Option.some.injEq, exists_eq_left', Bool.not_true, Bool.not_false, ne_eq, Int.reduceEq, not_true_eq_false, not_false_eq_true, Int.reduceLT, UInt8.reduceLT, UInt8.reduceLE, UInt8.reduceToNat]
      refine loopQ_intro (m := l.length - (i + n)) (by omega) ?_
      rw [hI]
      refine ⟨i + n, k, _, acc ++ [p], rfl, by omega, by omega, by simp; omega, k2, b2, ?_, fun h => by simp at h, ?_, h0, h3, rfl, rfl⟩
      · rw [List.map_append]; exact o2
      · rw [hTT]
        cases ptsOf k l (i + n) with
        | ok r => simp
        | error j => rfl
  · obtain rfl : i = l.length := by omega
    have hTf : T = .ok acc := by
      rw [hTT]
      cases k with
      | zero => simp [ptsOf]
      | succ k => simp [ptsOf]
    obtain ⟨S2, a1, k1, b1, t1⟩ := FB.store (c := 0) (d := 0) hk hb
    have hld := b1.load
    have ho2 : Own st S2 1 v (acc.map ptV) := by
      rcases ho with h | ⟨i, h1, h2, h3⟩
      · exact .inl h
      · exact .inr ⟨i, h1, h2, by rw [t1]; exact h3⟩
    simp (maxSteps := 1000000) (disch := omega) only [h0, h3, h4, h5, len_by hx, hlt, build0i, a1, qaaz, qabz, qacz, qadz, qaez, qafz, qagz, qahz, qaiz, qajz, qakz, qalz, qamz, qanz, evOp, qaoz, qapz, qaqz, qarz, qasz, qatz, qauz, qavz,
 ↓reduceIte, Nat.reduceEqDiff, List.nil_append, List.cons_append, List.append_nil, List.map_cons, List.map_nil, qawz, qaxz, qayz, Option.map_some, Option.map_none, qazz, qbaz, qbbz, qbcz, qbdz, qbez, qbfz, qbgz, qbhz, qbiz, qbjz, qbkz, qblz, qbmz, qbnz, qboz,
 qbpz, qbqz, qbrz, qbsz, qbtz, qbuz, qbvz, qbwz, qbxz, qbyz, qbzz, qcaz, qcbz, qccz, qcdz, qcez, qcfz, qcgz, qchz, qciz, beq_true, beq_false, Bool.not_eq_true', decide_eq_true_eq, decide_eq_false_iff_not, decide_true, decide_false,
 Int.toNat_natCast, Int.ofNat_lt, Int.ofNat_le, Int.natCast_inj, Bool.false_eq_true, Bool.true_eq_false, qcjz, List.getElem?_cons_zero, List.getElem?_cons_succ, qckz, Int.reduceToNat, Int.reduceLE, true_and, and_true, reduceCtorEq, or_false, false_or, or_true, Option.some.injEq, exists_eq_left', Bool.not_true, Bool.not_false, ne_eq, Int.reduceEq, not_true_eq_false, not_false_eq_true, Int.reduceLT, UInt8.reduceLT, UInt8.reduceLE, UInt8.reduceToNat]
    refine ⟨.tup [v, .agg [.int .i64 0, .int .i64 0]], ?_, ?_⟩
    · have hnt : notTup v = true := by rcases ho with ⟨rfl, _⟩ | ⟨i, rfl, _⟩ <;> rfl
      simp [resOf, rvAll, rv1, qavz, h3, hld, hnt, packRes]
      rfl
    · rw [hTf]; exact leave_ownA k1 ho2 hnil
end Go.Ab

/-
  Whether a text is one of points; where it can be cut.
-/
namespace Go.Ab
set_option linter.unusedVariables false
set_option linter.unusedSimpArgs false
variable {st s : St} {e : Env}

/-- Is a text one of points? -/
def validOf (l : List UInt8) : Bool := match ptsOf (l.length + 1) l 0 with
  | .ok _ => true
  | .error _ => false

theorem pts_parts {l : List UInt8} {S : St} (hk : Kept st S) : ∃ w a S', ptsV S (ptsOf (l.length + 1) l 0) = (.tup [w, .agg [.int .i64 a, .int .i64 (if validOf l = true then 0 else 20)]], S') ∧ Kept st S' := by
  unfold validOf
  cases ptsOf (l.length + 1) l 0 with
  | ok ps =>
    refine ⟨_, 0, _, rfl, ?_⟩
    unfold newS; split
    · exact hk
    · exact hk.tok1
  | error j => exact ⟨_, _, _, rfl, hk⟩
theorem store_i2 {B : List (List PV)} {T : List Bool} {L : List LoopS} {lo : Nat} {a b : Int} : storePV ⟨B ++ [[.int .i64 0, .int .i64 0]], T, L, lo⟩ 2 (.ptr B.length 0) (.agg [.int .i64 a, .int .i64 b]) = some ⟨B ++ [[.int .i64 a, .int .i64 b]], T, L, lo⟩ := by
  simp [storePV, PV.cells, PV.inB, PV.inB.inBAll, leafOk, setCells, hasTok, tokOf]
theorem load_i1 {B : List (List PV)} {T : List Bool} {L : List LoopS} {lo : Nat} {a b : Int} : loadPV ⟨B ++ [[.int .i64 a, .int .i64 b]], T, L, lo⟩ false 1 (.ptr B.length 1) = some (.int .i64 b) := by
  simp [loadPV, readCells]

theorem uValid_spec {x : PV} {l : List UInt8} (hx : x.by = some l) (hl : l.length ≤ 100000000) : call prog (.fn 53 []) [x] st = some (.bool (validOf l), st) := by
  refine call_of_W prog_53 ?_
  unfold F_utf_Valid; dsimp only
  obtain ⟨w, a, S', h1, hk⟩ := pts_parts (l := l) (st := st) Kept.start
  have hp := uPoints_spec (st := { boxes := st.boxes, toks := st.toks, loops := st.loops, low := st.boxes.length }) hx hl
  rw [h1] at hp
  cases hv : validOf l with
  | true =>
    simp only [hv, if_true] at hp
    simp (maxSteps := 1000000) (disch := omega) only [hp, allocPV, store_i2, faddrPV, Nat.zero_add, load_i1, qaaz, qabz, qacz, qadz, qaez, qafz, qagz, qahz, qaiz, qajz, qakz, qalz, qamz, qanz, evOp, qaoz, qapz, qaqz, qarz, qasz, qatz, qauz, qavz,
 ↓reduceIte, Nat.reduceEqDiff, List.nil_append, List.cons_append, List.append_nil, List.map_cons, List.map_nil, qawz, qaxz, qayz, Option.map_some, Option.map_none, qazz, qbaz, qbbz, qbcz, qbdz, qbez, qbfz, qbgz, qbhz, qbiz, qbjz, qbkz, qblz, qbmz, qbnz, qboz,
 qbpz, qbqz, qbrz, qbsz, qbtz, qbuz, qbvz, qbwz, qbxz, qbyz, qbzz, qcaz, qcbz, qccz, qcdz, qcez, qcfz, qcgz, qchz, qciz, beq_true, beq_false, Bool.not_eq_true', decide_eq_true_eq, decide_eq_false_iff_not, decide_true, decide_false,
 Int.toNat_natCast, Int.ofNat_lt, Int.ofNat_le, Int.natCast_inj, Bool.false_eq_true, Bool.true_eq_false, qcjz, List.getElem?_cons_zero, List.getElem?_cons_succ, qckz, Int.reduceToNat, Int.reduceLE, true_and, and_true, reduceCtorEq, or_false, false_or, or_true, Option.some.injEq, exists_eq_left', Bool.not_true, Bool.not_false, ne_eq, Int.reduceEq, not_true_eq_false, not_false_eq_true, Int.reduceLT, UInt8.reduceLT, UInt8.reduceLE, UInt8.reduceToNat]
    exact ⟨.bool true, rfl, hk.alloc.leave rfl (fun _ _ => rfl)⟩
  | false =>
    simp only [hv, Bool.false_eq_true, if_false] at hp
    simp (maxSteps := 1000000) (disch := omega) only [hp, allocPV, store_i2, faddrPV, Nat.zero_add, load_i1, qaaz, qabz, qacz, qadz, qaez, qafz, qagz, qahz, qaiz, qajz, qakz, qalz, qamz, qanz, evOp, qaoz, qapz, qaqz, qarz, qasz, qatz, qauz, qavz,
 ↓reduceIte, Nat.reduceEqDiff, List.nil_append, List.cons_append, List.append_nil, List.map_cons, List.map_nil, qawz, qaxz, qayz, Option.map_some, Option.map_none, qazz, qbaz, qbbz, qbcz, qbdz, qbez, qbfz, qbgz, qbhz, qbiz, qbjz, qbkz, qblz, qbmz, qbnz, qboz,
 qbpz, qbqz, qbrz, qbsz, qbtz, qbuz, qbvz, qbwz, qbxz, qbyz, qbzz, qcaz, qcbz, qccz, qcdz, qcez, qcfz, qcgz, qchz, qciz, beq_true, beq_false, Bool.not_eq_true', decide_eq_true_eq, decide_eq_false_iff_not, decide_true, decide_false,
 Int.toNat_natCast, Int.ofNat_lt, Int.ofNat_le, Int.natCast_inj, Bool.false_eq_true, Bool.true_eq_false, qcjz, List.getElem?_cons_zero, List.getElem?_cons_succ, qckz, Int.reduceToNat, Int.reduceLE, true_and, and_true, reduceCtorEq, or_false, false_or, or_true, Option.some.injEq, exists_eq_left', Bool.not_true, Bool.not_false, ne_eq, Int.reduceEq, not_true_eq_false, not_false_eq_true, Int.reduceLT, UInt8.reduceLT, UInt8.reduceLE, UInt8.reduceToNat]
    exact ⟨.bool false, rfl, hk.alloc.leave rfl (fun _ _ => rfl)⟩
theorem rValid_spec {x : PV} {l : List UInt8} (hx : x.by = some l) (hl : l.length ≤ 100000000) : call prog (.fn 74 []) [x] st = some (.bool (validOf l), st) := by
  refine call_of_W prog_74 ?_
  unfold F_posthornref02_Valid; dsimp only
  obtain ⟨w, a, S', h1, hk⟩ := pts_parts (l := l) (st := st) Kept.start
  have hp := rPoints_spec (st := { boxes := st.boxes, toks := st.toks, loops := st.loops, low := st.boxes.length }) hx hl
  rw [h1] at hp
  cases hv : validOf l with
  | true =>
    simp only [hv, if_true] at hp
    simp (maxSteps := 1000000) (disch := omega) only [hp, allocPV, store_i2, faddrPV, Nat.zero_add, load_i1, qaaz, qabz, qacz, qadz, qaez, qafz, qagz, qahz, qaiz, qajz, qakz, qalz, qamz, qanz, evOp, qaoz, qapz, qaqz, qarz, qasz, qatz, qauz, qavz,
 ↓reduceIte, Nat.reduceEqDiff, List.nil_append, List.cons_append, List.append_nil, List.map_cons, List.map_nil, qawz, qaxz, qayz, Option.map_some, Option.map_none, qazz, qbaz, qbbz, qbcz, qbdz, qbez, qbfz, qbgz, qbhz, qbiz, qbjz, qbkz, qblz, qbmz, qbnz, qboz,
 qbpz, qbqz, qbrz, qbsz, qbtz, qbuz, qbvz, qbwz, qbxz, qbyz, qbzz, qcaz, qcbz, qccz, qcdz, qcez, qcfz, qcgz, qchz, qciz, beq_true, beq_false, Bool.not_eq_true', decide_eq_true_eq, decide_eq_false_iff_not, decide_true, decide_false,
 Int.toNat_natCast, Int.ofNat_lt, Int.ofNat_le, Int.natCast_inj, Bool.false_eq_true, Bool.true_eq_false, qcjz, List.getElem?_cons_zero, List.getElem?_cons_succ, qckz, Int.reduceToNat, Int.reduceLE, true_and, and_true, reduceCtorEq, or_false, false_or, or_true, Option.some.injEq, exists_eq_left', Bool.not_true, Bool.not_false, ne_eq, Int.reduceEq, not_true_eq_false, not_false_eq_true, Int.reduceLT, UInt8.reduceLT, UInt8.reduceLE, UInt8.reduceToNat]
    exact ⟨.bool true, rfl, hk.alloc.leave rfl (fun _ _ => rfl)⟩
  | false =>
    simp only [hv, Bool.false_eq_true, if_false] at hp
    simp (maxSteps := 1000000) (disch := omega) only [hp, allocPV, store_i2, faddrPV, Nat.zero_add, load_i1, qaaz, qabz, qacz, qadz, qaez, qafz, qagz, qahz, qaiz, qajz, qakz, qalz, qamz, qanz, evOp, qaoz, qapz, qaqz, qarz, qasz, qatz, qauz, qavz,
 ↓reduceIte, Nat.reduceEqDiff, List.nil_append, List.cons_append, List.append_nil, List.map_cons, List.map_nil, qawz, qaxz, qayz, Option.map_some, Option.map_none, qazz, qbaz, qbbz, qbcz, qbdz, qbez, qbfz, qbgz, qbhz, qbiz, qbjz, qbkz, qblz, qbmz, qbnz, qboz,
 qbpz, qbqz, qbrz, qbsz, qbtz, qbuz, qbvz, qbwz, qbxz, qbyz, qbzz, qcaz, qcbz, qccz, qcdz, qcez, qcfz, qcgz, qchz, qciz, beq_true, beq_false, Bool.not_eq_true', decide_eq_true_eq, decide_eq_false_iff_not, decide_true, decide_false,
 Int.toNat_natCast, Int.ofNat_lt, Int.ofNat_le, Int.natCast_inj, Bool.false_eq_true, Bool.true_eq_false, qcjz, List.getElem?_cons_zero, List.getElem?_cons_succ, qckz, Int.reduceToNat, Int.reduceLE, true_and, and_true, reduceCtorEq, or_false, false_or, or_true, Option.some.injEq, exists_eq_left', Bool.not_true, Bool.not_false, ne_eq, Int.reduceEq, not_true_eq_false, not_false_eq_true, Int.reduceLT, UInt8.reduceLT, UInt8.reduceLE, UInt8.reduceToNat]
    exact ⟨.bool false, rfl, hk.alloc.leave rfl (fun _ _ => rfl)⟩

/-! ### Where a text can be cut -/
def isCont (c : UInt8) : Prop := 128 ≤ c.toNat ∧ c.toNat < 192
instance {c : UInt8} : Decidable (isCont c) := by unfold isCont; infer_instance
def back (l : List UInt8) : Nat → Nat
  | 0 => 0
  | n + 1 => if n + 1 < l.length ∧ isCont (l.getD (n + 1) 0) then back l n else n + 1
theorem next_cont {l : List UInt8} {p n : Nat} (h : nextOf l = some (p, n)) : ¬ isCont (l.getD 0 0) ∧ ∀ j, 1 ≤ j → j < n → isCont (l.getD j 0) := by
  unfold nextOf at h
  split at h
  · cases h
  split at h
  · rename_i hc
    cases h
    exact ⟨fun hh => by unfold isCont at hh; omega, fun j h1 h2 => by omega⟩
  · rename_i hc
    simp only at h
    split at h
    · cases h
    · rename_i hcond
      simp only [not_or, Classical.not_not] at hcond
      cases h
      refine ⟨fun hh => ?_, fun j h1 h2 => ?_⟩
      · apply hcond.1
        unfold isCont at hh
        unfold lead
        rw [if_neg (by omega), if_neg (by omega), if_neg (by omega)]
      · have := hcond.2.2.1 (j - 1) (by omega)
        rw [show j - 1 + 1 = j by omega] at this
        exact this

end Go.Ab

/-
  Where a text can be cut, by the document.
-/
namespace Go.Ab
set_option linter.unusedVariables false
set_option linter.unusedSimpArgs false
variable {st s : St} {e : Env}

theorem drop_get {l : List UInt8} {i j : Nat} : (l.drop i).getD j 0 = l.getD (i + j) 0 := by simp [List.getD]

end Go.Ab

/-
  Texts of points: put together, cut.
-/
namespace Go.Ab
set_option linter.unusedVariables false
set_option linter.unusedSimpArgs false

theorem accP_congr {l m : List UInt8} {p : Nat} : ∀ k, (∀ j, j ≤ k → l.getD j 0 = m.getD j 0) → accP l p k = accP m p k := by
  intro k
  induction k with
  | zero => intro _; rfl
  | succ k ih =>
    intro h
    simp only [accP]
    rw [ih (fun j hj => h j (by omega)), h (k + 1) (by omega)]
theorem next_congr {l m : List UInt8} {p n : Nat} (h : nextOf l = some (p, n)) (hl : n ≤ m.length) (he : ∀ j, j < n → m.getD j 0 = l.getD j 0) : nextOf m = some (p, n) := by
  obtain ⟨h1, h2, -⟩ := next_pos h
  have h0 := he 0 (by omega)
  have hne : m ≠ [] := by rintro rfl; simp at hl; omega
  by_cases hc : (l.getD 0 0).toNat < 128
  · have h' := h
    unfold nextOf at h'
    split at h'
    · cases h'
    · cases h'
      unfold nextOf
      rw [if_neg hne, h0, if_pos hc]
  · obtain ⟨k1, k2, k3⟩ := next_succ hc h
    have hc2 : ¬ (m.getD 0 0).toNat < 128 := by rw [h0]; exact hc
    have hq : qN m n = qN l n := by
      unfold qN
      rw [h0]
      exact accP_congr _ (fun j hj => he j (by omega))
    have ht : m.take n = l.take n := by
      apply List.ext_getElem
      · simp; omega
      · intro i h1 h2
        simp only [List.length_take] at h1 h2
        have := he i (by omega)
        simp only [List.getElem_take]
        simpa [List.getD, show i < m.length by omega, show i < l.length by omega] using this
    have hs : succN m n := ⟨by rw [hq]; exact k3.1, by rw [hq, ht]; exact k3.2⟩
    have e1 := succ_next k1 hl hc2 hs
    have e2 := succ_next k1 k2 hc k3
    rw [h] at e2
    cases e2
    rw [e1, hq]

/-- A text of points. -/
inductive Vd : List UInt8 → Prop
  | nil : Vd []
  | cons {l : List UInt8} {p n : Nat} (h : nextOf l = some (p, n)) (hr : Vd (l.drop n)) : Vd l

theorem Vd.app {a b : List UInt8} (ha : Vd a) (hb : Vd b) : Vd (a ++ b) := by
  induction ha with
  | nil => exact hb
  | @cons l p n h hr ih =>
    obtain ⟨n1, n2, -⟩ := next_pos h
    refine .cons (p := p) (n := n) (next_congr h (by simp; omega) fun j hj => ?_) ?_
    · simp only [List.getD]; rw [List.getElem?_append_left (by omega)]
    · rw [List.drop_append_of_le_length n2]; exact ih
theorem Vd.cut {l : List UInt8} (h : Vd l) : ∀ c, c ≤ l.length → (c = l.length ∨ ¬ isCont (l.getD c 0)) → Vd (l.take c) ∧ Vd (l.drop c) := by
  induction h with
  | nil => intro c hc _; simp at hc; subst hc; exact ⟨.nil, .nil⟩
  | @cons l p n h hr ih =>
    intro c hc hcc
    obtain ⟨n1, n2, -⟩ := next_pos h
    obtain ⟨-, c2⟩ := next_cont h
    by_cases h0 : c = 0
    · subst h0; exact ⟨.nil, .cons h hr⟩
    · have hnc : n ≤ c := by
        rcases hcc with hcc | hcc
        · omega
        · by_cases hlt : c < n
          · exact absurd (c2 c (by omega) hlt) hcc
          · omega
      have h3 := ih (c - n) (by simp; omega) (by
        rcases hcc with hcc | hcc
        · exact .inl (by simp; omega)
        · right; rw [drop_get, show n + (c - n) = c by omega]; exact hcc)
      have e1 : (l.drop n).drop (c - n) = l.drop c := by rw [List.drop_drop]; congr 1; omega
      have e2 : (l.take c).drop n = (l.drop n).take (c - n) := by rw [List.drop_take]
      refine ⟨.cons (p := p) (n := n) (next_congr h (by simp; omega) fun j hj => ?_) (by rw [e2]; exact h3.1), by rw [← e1]; exact h3.2⟩
      simp [List.getD, List.getElem?_take, show j < c by omega]
end Go.Ab

/-
  Names and texts of a calendar's lines.
-/
namespace Go.Ab
set_option linter.unusedVariables false
set_option linter.unusedSimpArgs false
variable {st s : St} {e : Env}

end Go.Ab

/-
  Lines that may be.
-/
namespace Go.Ab
set_option linter.unusedVariables false
set_option linter.unusedSimpArgs false
variable {st s : St} {e : Env}

/-- A line: its name, its parameters (as a value, as a list), its value. -/
structure Ln where
  n : List UInt8
  pv : PV
  ps : List Fld
  v : List UInt8
structure Ln.ok (L : Ln) : Prop where
  vs : L.pv.vs 2 = some (L.ps.map fV)
  ib : ∀ n, L.pv.inB n = true
  lf : leafOk L.pv = true
  tk : tokOf L.pv = none
  l1 : L.n.length ≤ 300
  l2 : L.v.length ≤ 5000
  l3 : L.ps.length ≤ 30
  l4 : ∀ p ∈ L.ps, p.1.length + p.2.length ≤ 500

/-! ### Boxes that stay -/
def At (s : St) (b : Nat) (cs : List PV) : Prop := s.boxes[b]? = some cs
theorem At.alloc {b : Nat} {cs z : List PV} {T : List Bool} {Lp : List LoopS} {lo : Nat} (h : At s b cs) : At ⟨s.boxes ++ [z], T, Lp, lo⟩ b cs := by
  unfold At at *
  have := (List.getElem?_eq_some_iff.1 h).1
  show (s.boxes ++ [z])[b]? = _
  rw [List.getElem?_append_left this]; exact h
theorem At.last {z : List PV} {T : List Bool} {Lp : List LoopS} {lo : Nat} : At ⟨s.boxes ++ [z], T, Lp, lo⟩ s.boxes.length z := by
  unfold At; simp
theorem At.load {b k : Nat} {cs : List PV} {v : PV} {r : List PV} (h : At s b cs) (hk : cs.drop k = v :: r) : loadPV s false 1 (.ptr b k) = some v := by
  unfold At at h
  simp [loadPV, h, hk, readCells]
end Go.Ab

/-
  Lines that may be, by the document.
-/
namespace Go.Ab
set_option linter.unusedVariables false
set_option linter.unusedSimpArgs false
variable {st s : St} {e : Env}

/-! ### A line as a text -/
end Go.Ab

/-
  A line as a text.
-/
namespace Go.Ab
set_option linter.unusedVariables false
set_option linter.unusedSimpArgs false
variable {st s : St} {e : Env}

end Go.Ab

/-
  A line as a text, by the document.
-/
namespace Go.Ab
set_option linter.unusedVariables false
set_option linter.unusedSimpArgs false
variable {st s : St} {e : Env}

end Go.Ab

/-
  Lines are written, folded.
-/
namespace Go.Ab
set_option linter.unusedVariables false
set_option linter.unusedSimpArgs false
variable {st s : St} {e : Env}

end Go.Ab

/-
  Words of a header: plain texts; a word of signs is read; pieces.
-/
namespace Go.Ab
set_option linter.unusedVariables false
set_option linter.unusedSimpArgs false
set_option maxRecDepth 20000
variable {st s : St} {e : Env}

/-! ### Plain texts -/
end Go.Ab

/-
  Dates are read: a written date is read as it was, plain.
-/
namespace Go.Ab
set_option linter.unusedVariables false
set_option linter.unusedSimpArgs false
set_option maxRecDepth 20000

/-- No blanks, no brackets. -/
def clW (w : Bs) : Prop := ∀ c ∈ w, c ≠ 32 ∧ c ≠ 9 ∧ c ≠ 40
theorem clW.app {a b : Bs} (h : clW a) (k : clW b) : clW (a ++ b) := fun c hc => by
  rcases List.mem_append.1 hc with h1 | h1
  · exact h c h1
  · exact k c h1
theorem clW.bl {a : Bs} (h : clW a) : noBl a := fun c hc => ⟨(h c hc).1, (h c hc).2.1⟩
end Go.Ab

/-
  Dates are read: a day's name ahead of the words, walked.
-/
namespace Go.Ab
set_option linter.unusedVariables false
set_option linter.unusedSimpArgs false
set_option maxRecDepth 20000
variable {st s : St} {e : Env}

theorem Kept.toks {T : List Bool} (h : Kept st s) : Kept st ⟨s.boxes, s.toks ++ T, s.loops, s.low⟩ := by
  refine ⟨h.bx, h.lp, h.lw, ?_⟩
  have h1 := h.tk
  have h2 : st.toks.length ≤ s.toks.length := by have := congrArg List.length h1; simp at this; omega
  simp only [List.take_append_of_le_length h2]
  exact h1

end Go.Ab

/-
  Dates are read: the whole, walked.
-/
namespace Go.Ab
set_option linter.unusedVariables false
set_option linter.unusedSimpArgs false
set_option maxRecDepth 20000
variable {st s : St} {e : Env}

/-- The state while words are gathered. -/
def dst (st : St) (d : PV) (B : Bs) (ts : List Bool) (lo : Nat) (rc : List LoopS) : St := ⟨st.boxes ++ [[d], [.str B]], st.toks ++ ts, st.loops ++ rc, lo⟩
variable {d d' : PV} {B : Bs} {ts : List Bool} {lo : Nat} {rc : List LoopS}
theorem lc1 {v : PV} : loadcPV false 1 (.cp [v]) = some v := rfl
end Go.Ab

/-
  Words of a header: a word of signs is read.
-/
namespace Go.Ab
set_option linter.unusedVariables false
set_option linter.unusedSimpArgs false
set_option maxRecDepth 20000
variable {st s : St} {e : Env}

theorem wlower_spec {s : List UInt8} (h : s.length ≤ 1000000) : call prog (.fn 240 []) [.str s] st = some (.str (lowOf s), st) := by
  rw [← lower_spec (st := st) h, call_fn prog_240, call_fn prog_167]
  rfl
def utf8T : Bs := [117, 116, 102, 45, 56]

/-! ### Words of signs -/
end Go.Ab

/-
  Words of a header: a text is written.
-/
namespace Go.Ab
set_option linter.unusedVariables false
set_option linter.unusedSimpArgs false
set_option maxRecDepth 20000
variable {st s : St} {e : Env}

end Go.Ab

/-
  Words of a header: a text is written, walked.
-/
namespace Go.Ab
set_option linter.unusedVariables false
set_option linter.unusedSimpArgs false
set_option maxRecDepth 20000
variable {st s : St} {e : Env}

variable {d d' y y' : PV} {ts : List Bool} {lo : Nat} {rc : List LoopS}
end Go.Ab

/-
  The laws WordBack, WordSays, WordShort.
-/
namespace Go.Ab
set_option linter.unusedVariables false
set_option linter.unusedSimpArgs false
set_option maxRecDepth 20000
variable {st s : St} {e : Env}

end Go.Ab

/-
  The law WordShort.
-/
namespace Go.Ab
set_option linter.unusedVariables false
set_option linter.unusedSimpArgs false
set_option maxRecDepth 20000
variable {st s : St} {e : Env}

theorem join_two (w v : Bs) (r : List Bs) : Lib.join (w :: v :: r) [32] = w ++ 32 :: Lib.join (v :: r) [32] := by
  rw [Lib.join_cons, Lib.join_cons]; simp [Lib.joinTail]
/-- What is known while a written text is gone through: the word at hand, and those behind it. -/
structure Wst (x : Bs) (frm i : Nat) (w : Bs) (r : List Bs) : Prop where
  at' : x.drop frm = Lib.join (w :: r) [32]
  le : frm ≤ i
  lt : i ≤ frm + w.length
  fx : frm ≤ x.length
theorem Wst.len {x w : Bs} {frm i : Nat} {r : List Bs} (h : Wst x frm i w r) : frm + w.length ≤ x.length ∧ (r = [] ↔ frm + w.length = x.length) := by
  have h1 := congrArg List.length h.at'
  have := h.fx
  rw [List.length_drop] at h1
  cases r with
  | nil => rw [Lib.join_one] at h1; exact ⟨by omega, by simp; omega⟩
  | cons v r =>
    rw [join_two] at h1
    simp only [List.length_append, List.length_cons] at h1
    exact ⟨by omega, by simp; omega⟩
theorem Wst.word {x w : Bs} {frm : Nat} {i : Nat} {r : List Bs} (h : Wst x frm i w r) : (x.take (frm + w.length)).drop frm = w := by
  have h1 : (x.drop frm).take w.length = w := by
    rw [h.at']
    cases r with
    | nil => rw [Lib.join_one]; exact List.take_length
    | cons v r => rw [join_two, List.take_left]
  rw [List.drop_take, Nat.add_sub_cancel_left]; exact h1
theorem Wst.sep {x w v : Bs} {frm i : Nat} {r : List Bs} (h : Wst x frm i w (v :: r)) : x.getD (frm + w.length) 0 = 32 ∧ Wst x (frm + w.length + 1) (frm + w.length + 1) v r := by
  have h1 := h.at'
  rw [join_two] at h1
  have hl := h.len
  have hlt : frm + w.length < x.length := by
    have := hl.2; simp at this; omega
  have h2 : x.drop (frm + w.length) = 32 :: Lib.join (v :: r) [32] := by
    rw [← List.drop_drop, h1, List.drop_left]
  constructor
  · rw [List.drop_eq_getElem_cons hlt] at h2
    have := (List.cons.inj h2).1
    simp [List.getD, hlt, this]
  · refine ⟨?_, Nat.le_refl _, by omega, by omega⟩
    rw [← List.drop_drop, h2]; rfl

end Go.Ab

/-
  The document's signs of six digits: a row of binary digits.
-/
namespace Go.Ab
set_option linter.unusedVariables false
set_option linter.unusedSimpArgs false
set_option maxRecDepth 20000
variable {st s : St} {e : Env}

set_option maxHeartbeats 1000000 in
theorem rSign_spec {v : Nat} (h : v < 64) : call prog (.fn 249 []) [.int .i64 (v : Int)] st = some (.tup [.b8 (sg v), .bool true], st) := by
  refine call_of_W prog_249 ?_
  unfold F_posthornref01_Sign; dsimp only
  have a0 : (0 : Int) ≤ (v : Int) := by omega
  have hs : ∀ c : UInt8, c = sg v → ∀ E : Env, E 2 = .b8 c → E 3 = .bool true → ∃ rv, resOf E ⟨st.boxes, st.toks, st.loops, st.boxes.length⟩ [.tmp 2, .tmp 3] = some rv ∧ leave st ⟨st.boxes, st.toks, st.loops, st.boxes.length⟩ rv = (.tup [.b8 (sg v), .bool true], st) := fun c hc E h2 h3 => by
    subst hc; exact retV2 h2 h3 rfl rfl Kept.start ⟨fun _ => rfl, fun _ _ => rfl⟩
  have fact : ∀ v, v < 64 → (v ≤ 25 → UInt8.ofNat (65 + v) = sg v) ∧ (26 ≤ v ∧ v ≤ 51 → UInt8.ofNat (97 + v - 26) = sg v) ∧ (52 ≤ v ∧ v ≤ 61 → UInt8.ofNat (48 + v - 52) = sg v) ∧ (v = 62 → 43 = sg v) ∧ (v = 63 → 47 = sg v) := fun v hv => by
    have := List.all_eq_true.1 (show (List.range 64).all (fun v => (decide (¬ v ≤ 25) || UInt8.ofNat (65 + v) == sg v) && (decide (¬ (26 ≤ v ∧ v ≤ 51)) || UInt8.ofNat (97 + v - 26) == sg v) && (decide (¬ (52 ≤ v ∧ v ≤ 61)) || UInt8.ofNat (48 + v - 52) == sg v) && (decide (¬ v = 62) || 43 == sg v) && (decide (¬ v = 63) || 47 == sg v)) = true by kernel_rfl) v (List.mem_range.2 hv)
    simp only [Bool.and_eq_true, Bool.or_eq_true, decide_eq_true_eq, beq_iff_eq] at this
    obtain ⟨⟨⟨⟨h1, h2⟩, h3⟩, h4⟩, h5⟩ := this
    exact ⟨fun h => h1.resolve_left fun q => q h, fun h => h2.resolve_left fun q => q h, fun h => h3.resolve_left fun q => q h, fun h => h4.resolve_left fun q => q h, fun h => h5.resolve_left fun q => q h⟩
  obtain ⟨f1, f2, f3, f4, f5⟩ := fact v h
  have ad : ∀ c : Nat, c ≤ 200 → binPV .add .no (.int .i64 (c : Int)) (.int .i64 (v : Int)) = some (.int .i64 ((c + v : Nat) : Int)) := fun c hc => by
    rw [add_i (by omega) (by omega)]; congr 2
  have ad1 := ad 65 (by omega); have ad2 := ad 97 (by omega); have ad3 := ad 48 (by omega)
  have sb : ∀ a b : Nat, b ≤ a → a ≤ 1000 → binPV .sub .no (.int .i64 (a : Int)) (.int .i64 (b : Int)) = some (.int .i64 ((a - b : Nat) : Int)) := fun a b h1 h2 => by
    rw [sub_i (by omega) (by omega)]; congr 2; omega
  by_cases c1 : v ≤ 25
  · have q1 : (v : Int) ≤ 25 := by omega
    have hc := cU8 (k := .i64) (n := 65 + v) (by omega)
    have ad1' : binPV .add .no (.int .i64 65) (.int .i64 (v : Int)) = some (.int .i64 ((65 + v : Nat) : Int)) := ad1
    simp (maxSteps := 1000000) (disch := omega) only [a0, q1, ad1', hc, qaaz, qabz, qacz, qadz, qaez, qafz, qagz, qahz, qaiz, qajz, qakz, qalz, qamz, qanz, evOp, qaoz, qapz, qaqz, qarz, qasz, qatz, qauz, qavz,
 ↓reduceIte, Nat.reduceEqDiff, List.nil_append, List.cons_append, List.append_nil, List.map_cons, List.map_nil, qawz, qaxz, qayz, Option.map_some, Option.map_none, qazz, qbaz, qbbz, qbcz, qbdz, qbez, qbfz, qbgz, qbhz, qbiz, qbjz, qbkz, qblz, qbmz, qbnz, qboz,
 qbpz, qbqz, qbrz, qbsz, qbtz, qbuz, qbvz, qbwz, qbxz, qbyz, qbzz, qcaz, qcbz, qccz, qcdz, qcez, qcfz, qcgz, qchz, qciz, beq_true, beq_false, Bool.not_eq_true', decide_eq_true_eq, decide_eq_false_iff_not, decide_true, decide_false,
 Int.toNat_natCast, Int.ofNat_lt, Int.ofNat_le, Int.natCast_inj, Bool.false_eq_true, Bool.true_eq_false, qcjz, List.getElem?_cons_zero, List.getElem?_cons_succ, qckz, Int.reduceToNat, Int.reduceLE, true_and, and_true, reduceCtorEq, or_false, false_or, or_true, Option.some.injEq, exists_eq_left', Bool.not_true, Bool.not_false, ne_eq, Int.reduceEq, not_true_eq_false, not_false_eq_true, Int.reduceLT, UInt8.reduceLT, UInt8.reduceLE, UInt8.reduceToNat]
    exact hs _ (f1 c1) _ rfl rfl
  have q1 : ¬ (v : Int) ≤ 25 := by omega
  have q2 : (26 : Int) ≤ (v : Int) := by omega
  by_cases c2 : v ≤ 51
  · have q3 : (v : Int) ≤ 51 := by omega
    have hc := cU8 (k := .i64) (n := 97 + v - 26) (by omega)
    have ad2' : binPV .add .no (.int .i64 97) (.int .i64 (v : Int)) = some (.int .i64 ((97 + v : Nat) : Int)) := ad2
    have sb1 : binPV .sub .no (.int .i64 ((97 + v : Nat) : Int)) (.int .i64 26) = some (.int .i64 ((97 + v - 26 : Nat) : Int)) := sb _ 26 (by omega) (by omega)
    simp (maxSteps := 1000000) (disch := omega) only [a0, q1, q2, q3, ad2', sb1, hc, qaaz, qabz, qacz, qadz, qaez, qafz, qagz, qahz, qaiz, qajz, qakz, qalz, qamz, qanz, evOp, qaoz, qapz, qaqz, qarz, qasz, qatz, qauz, qavz,
 ↓reduceIte, Nat.reduceEqDiff, List.nil_append, List.cons_append, List.append_nil, List.map_cons, List.map_nil, qawz, qaxz, qayz, Option.map_some, Option.map_none, qazz, qbaz, qbbz, qbcz, qbdz, qbez, qbfz, qbgz, qbhz, qbiz, qbjz, qbkz, qblz, qbmz, qbnz, qboz,
 qbpz, qbqz, qbrz, qbsz, qbtz, qbuz, qbvz, qbwz, qbxz, qbyz, qbzz, qcaz, qcbz, qccz, qcdz, qcez, qcfz, qcgz, qchz, qciz, beq_true, beq_false, Bool.not_eq_true', decide_eq_true_eq, decide_eq_false_iff_not, decide_true, decide_false,
 Int.toNat_natCast, Int.ofNat_lt, Int.ofNat_le, Int.natCast_inj, Bool.false_eq_true, Bool.true_eq_false, qcjz, List.getElem?_cons_zero, List.getElem?_cons_succ, qckz, Int.reduceToNat, Int.reduceLE, true_and, and_true, reduceCtorEq, or_false, false_or, or_true, Option.some.injEq, exists_eq_left', Bool.not_true, Bool.not_false, ne_eq, Int.reduceEq, not_true_eq_false, not_false_eq_true, Int.reduceLT, UInt8.reduceLT, UInt8.reduceLE, UInt8.reduceToNat]
    exact hs _ (f2 ⟨by omega, c2⟩) _ rfl rfl
  have q3 : ¬ (v : Int) ≤ 51 := by omega
  have q4 : (52 : Int) ≤ (v : Int) := by omega
  by_cases c3 : v ≤ 61
  · have q5 : (v : Int) ≤ 61 := by omega
    have hc := cU8 (k := .i64) (n := 48 + v - 52) (by omega)
    have ad3' : binPV .add .no (.int .i64 48) (.int .i64 (v : Int)) = some (.int .i64 ((48 + v : Nat) : Int)) := ad3
    have sb1 : binPV .sub .no (.int .i64 ((48 + v : Nat) : Int)) (.int .i64 52) = some (.int .i64 ((48 + v - 52 : Nat) : Int)) := sb _ 52 (by omega) (by omega)
    simp (maxSteps := 1000000) (disch := omega) only [a0, q1, q2, q3, q4, q5, ad3', sb1, hc, qaaz, qabz, qacz, qadz, qaez, qafz, qagz, qahz, qaiz, qajz, qakz, qalz, qamz, qanz, evOp, qaoz, qapz, qaqz, qarz, qasz, qatz, qauz, qavz,
 ↓reduceIte, Nat.reduceEqDiff, List.nil_append, List.cons_append, List.append_nil, List.map_cons, List.map_nil, qawz, qaxz, qayz, Option.map_some, Option.map_none, qazz, qbaz, qbbz, qbcz, qbdz, qbez, qbfz, qbgz, qbhz, qbiz, qbjz, qbkz, qblz, qbmz, qbnz, qboz,
 qbpz, qbqz, qbrz, qbsz, qbtz, qbuz, qbvz, qbwz, qbxz, qbyz, qbzz, qcaz, qcbz, qccz, qcdz, qcez, qcfz, qcgz, qchz, qciz, beq_true, beq_false, Bool.not_eq_true', decide_eq_true_eq, decide_eq_false_iff_not, decide_true, decide_false,
 Int.toNat_natCast, Int.ofNat_lt, Int.ofNat_le, Int.natCast_inj, Bool.false_eq_true, Bool.true_eq_false, qcjz, List.getElem?_cons_zero, List.getElem?_cons_succ, qckz, Int.reduceToNat, Int.reduceLE, true_and, and_true, reduceCtorEq, or_false, false_or, or_true, Option.some.injEq, exists_eq_left', Bool.not_true, Bool.not_false, ne_eq, Int.reduceEq, not_true_eq_false, not_false_eq_true, Int.reduceLT, UInt8.reduceLT, UInt8.reduceLE, UInt8.reduceToNat]
    exact hs _ (f3 ⟨by omega, c3⟩) _ rfl rfl
  have q5 : ¬ (v : Int) ≤ 61 := by omega
  by_cases c4 : v = 62
  · have q6 : (v : Int) = 62 := by omega
    simp (maxSteps := 1000000) (disch := omega) only [a0, q1, q2, q3, q4, q5, eq_true q6, qaaz, qabz, qacz, qadz, qaez, qafz, qagz, qahz, qaiz, qajz, qakz, qalz, qamz, qanz, evOp, qaoz, qapz, qaqz, qarz, qasz, qatz, qauz, qavz,
 ↓reduceIte, Nat.reduceEqDiff, List.nil_append, List.cons_append, List.append_nil, List.map_cons, List.map_nil, qawz, qaxz, qayz, Option.map_some, Option.map_none, qazz, qbaz, qbbz, qbcz, qbdz, qbez, qbfz, qbgz, qbhz, qbiz, qbjz, qbkz, qblz, qbmz, qbnz, qboz,
 qbpz, qbqz, qbrz, qbsz, qbtz, qbuz, qbvz, qbwz, qbxz, qbyz, qbzz, qcaz, qcbz, qccz, qcdz, qcez, qcfz, qcgz, qchz, qciz, beq_true, beq_false, Bool.not_eq_true', decide_eq_true_eq, decide_eq_false_iff_not, decide_true, decide_false,
 Int.toNat_natCast, Int.ofNat_lt, Int.ofNat_le, Int.natCast_inj, Bool.false_eq_true, Bool.true_eq_false, qcjz, List.getElem?_cons_zero, List.getElem?_cons_succ, qckz, Int.reduceToNat, Int.reduceLE, true_and, and_true, reduceCtorEq, or_false, false_or, or_true, Option.some.injEq, exists_eq_left', Bool.not_true, Bool.not_false, ne_eq, Int.reduceEq, not_true_eq_false, not_false_eq_true, Int.reduceLT, UInt8.reduceLT, UInt8.reduceLE, UInt8.reduceToNat]
    exact hs _ (f4 c4) _ rfl rfl
  · have q6 : ¬ (v : Int) = 62 := by omega
    have q7 : (v : Int) = 63 := by omega
    simp (maxSteps := 1000000) (disch := omega) only [a0, q1, q2, q3, q4, q5, q6, eq_true q7, qaaz, qabz, qacz, qadz, qaez, qafz, qagz, qahz, qaiz, qajz, qakz, qalz, qamz, qanz, evOp, qaoz, qapz, qaqz, qarz, qasz, qatz, qauz, qavz,
 ↓reduceIte, Nat.reduceEqDiff, List.nil_append, List.cons_append, List.append_nil, List.map_cons, List.map_nil, qawz, qaxz, qayz, Option.map_some, Option.map_none, qazz, qbaz, qbbz, qbcz, qbdz, qbez, qbfz, qbgz, qbhz, qbiz, qbjz, qbkz, qblz, qbmz, qbnz, qboz,
 qbpz, qbqz, qbrz, qbsz, qbtz, qbuz, qbvz, qbwz, qbxz, qbyz, qbzz, qcaz, qcbz, qccz, qcdz, qcez, qcfz, qcgz, qchz, qciz, beq_true, beq_false, Bool.not_eq_true', decide_eq_true_eq, decide_eq_false_iff_not, decide_true, decide_false,
 Int.toNat_natCast, Int.ofNat_lt, Int.ofNat_le, Int.natCast_inj, Bool.false_eq_true, Bool.true_eq_false, qcjz, List.getElem?_cons_zero, List.getElem?_cons_succ, qckz, Int.reduceToNat, Int.reduceLE, true_and, and_true, reduceCtorEq, or_false, false_or, or_true, Option.some.injEq, exists_eq_left', Bool.not_true, Bool.not_false, ne_eq, Int.reduceEq, not_true_eq_false, not_false_eq_true, Int.reduceLT, UInt8.reduceLT, UInt8.reduceLE, UInt8.reduceToNat]
    exact hs _ (f5 (by omega)) _ rfl rfl

/-! ### Binary digits -/
def bit8 (c : UInt8) : List Nat := (List.range 8).map fun k => c.toNat / (128 / 2 ^ k) % 2
def bitsOf (l : Bs) : List Nat := l.flatMap bit8
def iV (n : Nat) : PV := .int .i64 (n : Int)
theorem bit8_eq (c : UInt8) : bit8 c = [c.toNat / 128 % 2, c.toNat / 64 % 2, c.toNat / 32 % 2, c.toNat / 16 % 2, c.toNat / 8 % 2, c.toNat / 4 % 2, c.toNat / 2 % 2, c.toNat / 1 % 2] := rfl
theorem bits_le {l : Bs} : ∀ x ∈ bitsOf l, x ≤ 1 := by
  intro x hx
  obtain ⟨c, _, hc⟩ := List.mem_flatMap.1 hx
  obtain ⟨k, _, rfl⟩ := List.mem_map.1 hc
  have := Nat.mod_lt (c.toNat / (128 / 2 ^ k)) (show 0 < 2 by omega)
  omega
theorem bits_len : ∀ l : Bs, (bitsOf l).length = 8 * l.length
  | [] => rfl
  | c :: l => by
    have := bits_len l
    simp only [bitsOf, List.flatMap_cons, List.length_append, List.length_cons] at this ⊢
    rw [this, bit8_eq]; simp; omega

end Go.Ab

/-
  The document's signs of six digits: written.
-/
namespace Go.Ab
set_option linter.unusedVariables false
set_option linter.unusedSimpArgs false
set_option maxRecDepth 20000
variable {st s : St} {e : Env}

/-- The first j digits as a number; those that lack are 0. -/
def vP (d : List Nat) : Nat → Nat
  | 0 => 0
  | j + 1 => 2 * vP d j + d.getD j 0
theorem byte_parts {a : Nat} (h : a < 256) : 2 * (2 * (2 * (2 * (2 * (a / 128 % 2) + a / 64 % 2) + a / 32 % 2) + a / 16 % 2) + a / 8 % 2) + a / 4 % 2 = a / 4 ∧ 2 * (a / 2 % 2) + a / 1 % 2 = a % 4 ∧
    2 * (2 * (2 * (a / 128 % 2) + a / 64 % 2) + a / 32 % 2) + a / 16 % 2 = a / 16 ∧ 2 * (2 * (2 * (a / 8 % 2) + a / 4 % 2) + a / 2 % 2) + a / 1 % 2 = a % 16 ∧ 2 * (a / 128 % 2) + a / 64 % 2 = a / 64 ∧
    2 * (2 * (2 * (2 * (2 * (a / 32 % 2) + a / 16 % 2) + a / 8 % 2) + a / 4 % 2) + a / 2 % 2) + a / 1 % 2 = a % 64 := by
  refine ⟨?_, ?_, ?_, ?_, ?_, ?_⟩ <;> omega

theorem slc_lo_vs {x : PV} {xs : List PV} {k : IntKind} {c : Nat} (h : x.vs 1 = some xs) (hc : c ≤ xs.length) : ∃ y, slcPV 1 x (some (.int k (c : Int))) none none = some y ∧ y.vs 1 = some (xs.drop c) := by
  rcases vs_cases h with ⟨rfl, rfl⟩ | ⟨t, rfl⟩
  · simp at hc; subst hc
    exact ⟨.nils, by simp [slcPV, bnd, intOf], by simp [PV.vs]⟩
  · refine ⟨.sl 1 (sufTok t none none xs.length xs.length) (xs.drop c), by simp [slcPV, bnd, intOf, hc], by simp [PV.vs]⟩
end Go.Ab

/-
  The document's written texts; the law WordEncodes.
-/
namespace Go.Ab
set_option linter.unusedVariables false
set_option linter.unusedSimpArgs false
set_option maxRecDepth 20000
variable {st s : St} {e : Env}

end Go.Ab
