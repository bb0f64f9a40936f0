/-
  Signs written short: both readers.
-/
import Derived.Test.YtknhnghgmhhjhaaDoorA4
import Derived.Test.YtknhnghgmhhjhaaDoorA3
namespace Go.Ab
set_option linter.unusedVariables false
set_option linter.unusedSimpArgs false
set_option maxRecDepth 20000
variable {st s : St} {e : Env}

def hexD (c : UInt8) : Option Nat := if 48 ≤ c ∧ c ≤ 57 then some (c.toNat - 48) else if 65 ≤ c ∧ c ≤ 70 then some (c.toNat - 55) else none
def digB (c : UInt8) : UInt8 := if 48 ≤ c ∧ c ≤ 57 then c - 48 else if 65 ≤ c ∧ c ≤ 70 then c - 65 + 10 else 16
def digI (c : UInt8) : Int := if 48 ≤ c ∧ c ≤ 57 then (c.toNat : Int) - 48 else if 65 ≤ c ∧ c ≤ 70 then (c.toNat : Int) - 55 else -1
theorem hex_none {c : UInt8} (h : hexD c = none) : 15 < digB c ∧ digI c < 0 := by
  have := all8 (p := fun c => (hexD c).isSome || (decide (15 < digB c) && decide (digI c < 0))) (by kernel_rfl) c
  simpa [h] using this
theorem hex_some {c : UInt8} {v : Nat} (h : hexD c = some v) : v < 16 ∧ ¬ 15 < digB c ∧ digB c = UInt8.ofNat v ∧ digI c = (v : Int) := by
  have := all8 (p := fun c => match hexD c with | none => true | some v => (decide (v < 16) && (decide (¬ 15 < digB c) && (decide (digB c = UInt8.ofNat v) && decide (digI c = (v : Int)))))) (by kernel_rfl) c
  simpa [h] using this
theorem digit_spec {c : UInt8} : call prog (.fn 251 []) [.b8 c] st = some (.b8 (digB c), st) := by
  refine call_of_W prog_251 ?_
  unfold F_word_digit; dsimp only
  have ret : ∀ (E : Env) (x : UInt8), E 2 = .b8 x → digB c = x → ∃ rv, resOf E ⟨st.boxes, st.toks, st.loops, st.boxes.length⟩ [.tmp 2] = some rv ∧ leave st ⟨st.boxes, st.toks, st.loops, st.boxes.length⟩ rv = (.b8 (digB c), st) := fun E x h1 h2 => by
    rw [h2]
    exact ⟨.b8 x, by simp [resOf, rvAll, rv1, h1, notTup, packRes], Kept.start.leave' ⟨fun _ => rfl, fun _ _ => rfl⟩⟩
  by_cases c1 : 48 ≤ c <;> by_cases c2 : c ≤ 57 <;> by_cases c3 : 65 ≤ c <;> by_cases c4 : c ≤ 70 <;>
    simp (maxSteps := 1000000) (disch := omega) only [c1, c2, c3, c4, sub_8, add_8, qaaz, qabz, qacz, qadz, qaez, qafz, qagz, qahz, qaiz, qajz, qakz, qalz, qamz, qanz, evOp, qaoz, qapz, qaqz, qarz, qasz, qatz, qauz, qavz,
 ↓reduceIte, Nat.reduceEqDiff, List.nil_append, List.cons_append, List.append_nil, List.map_cons, List.map_nil, qawz, qaxz, qayz, Option.map_some, Option.map_none, qazz, qbaz, qbbz, qbcz, qbdz, qbez, qbfz, qbgz, qbhz, qbiz, qbjz, qbkz, qblz, qbmz, qbnz, qboz,
 qbpz, qbqz, qbrz, qbsz, qbtz, qbuz, qbvz, qbwz, qbxz, qbyz, qbzz, qcaz, qcbz, qccz, qcdz, qcez, qcfz, qcgz, qchz, qciz, beq_true, beq_false, Bool.not_eq_true', decide_eq_true_eq, decide_eq_false_iff_not, decide_true, decide_false,
 Int.toNat_natCast, Int.ofNat_lt, Int.ofNat_le, Int.natCast_inj, Bool.false_eq_true, Bool.true_eq_false, qcjz, List.getElem?_cons_zero, List.getElem?_cons_succ, qckz, Int.reduceToNat, Int.reduceLE, true_and, and_true, reduceCtorEq, or_false, false_or, or_true, Option.some.injEq, exists_eq_left', Bool.not_true, Bool.not_false, ne_eq, Int.reduceEq, not_true_eq_false, not_false_eq_true, Int.reduceLT, UInt8.reduceLT, UInt8.reduceLE, UInt8.reduceToNat] <;>
    exact ret _ _ rfl (by simp [digB, c1, c2, c3, c4])
theorem hvalue_spec {c : UInt8} : call prog (.fn 255 []) [.b8 c] st = some (.int .i64 (digI c), st) := by
  refine call_of_W prog_255 ?_
  unfold F_posthornref04_value; dsimp only
  have hc := c.toNat_lt
  have s1 : binPV .sub .no (.int .i64 (c.toNat : Int)) (.int .i64 48) = some (.int .i64 ((c.toNat : Int) - 48)) := sub_i (by omega) (by omega)
  have s2 : binPV .sub .no (.int .i64 (c.toNat : Int)) (.int .i64 55) = some (.int .i64 ((c.toNat : Int) - 55)) := sub_i (by omega) (by omega)
  by_cases c1 : 48 ≤ c <;> by_cases c2 : c ≤ 57 <;> by_cases c3 : 65 ≤ c <;> by_cases c4 : c ≤ 70 <;>
    simp (maxSteps := 1000000) (disch := omega) only [c1, c2, c3, c4, s1, s2, cI8t, qaaz, qabz, qacz, qadz, qaez, qafz, qagz, qahz, qaiz, qajz, qakz, qalz, qamz, qanz, evOp, qaoz, qapz, qaqz, qarz, qasz, qatz, qauz, qavz,
 ↓reduceIte, Nat.reduceEqDiff, List.nil_append, List.cons_append, List.append_nil, List.map_cons, List.map_nil, qawz, qaxz, qayz, Option.map_some, Option.map_none, qazz, qbaz, qbbz, qbcz, qbdz, qbez, qbfz, qbgz, qbhz, qbiz, qbjz, qbkz, qblz, qbmz, qbnz, qboz,
 qbpz, qbqz, qbrz, qbsz, qbtz, qbuz, qbvz, qbwz, qbxz, qbyz, qbzz, qcaz, qcbz, qccz, qcdz, qcez, qcfz, qcgz, qchz, qciz, beq_true, beq_false, Bool.not_eq_true', decide_eq_true_eq, decide_eq_false_iff_not, decide_true, decide_false,
 Int.toNat_natCast, Int.ofNat_lt, Int.ofNat_le, Int.natCast_inj, Bool.false_eq_true, Bool.true_eq_false, qcjz, List.getElem?_cons_zero, List.getElem?_cons_succ, qckz, Int.reduceToNat, Int.reduceLE, true_and, and_true, reduceCtorEq, or_false, false_or, or_true, Option.some.injEq, exists_eq_left', Bool.not_true, Bool.not_false, ne_eq, Int.reduceEq, not_true_eq_false, not_false_eq_true, Int.reduceLT, UInt8.reduceLT, UInt8.reduceLE, UInt8.reduceToNat] <;>
    exact retI rfl Kept.start (by simp [digI, c1, c2, c3, c4])

/-- What stands short, as bytes. -/
def shR : Nat → Bs → Option Bs
  | _, [] => some []
  | 0, _ :: _ => none
  | f + 1, c :: r =>
    if c < 33 ∨ 126 < c then none
    else if c = 61 then (match r with
      | a :: b :: r' => (match hexD a, hexD b with
        | some v, some w => (shR f r').map (UInt8.ofNat (16 * v + w) :: ·)
        | _, _ => none)
      | _ => none)
    else (shR f r).map ((if c = 95 then 32 else c) :: ·)
def pairR (f : Nat) : Bs → Option Bs
  | a :: b :: r' => (match hexD a, hexD b with
    | some v, some w => (shR f r').map (UInt8.ofNat (16 * v + w) :: ·)
    | _, _ => none)
  | _ => none
theorem shR_cons {f : Nat} {c : UInt8} {r : Bs} : shR (f + 1) (c :: r) = if c < 33 ∨ 126 < c then none else if c = 61 then pairR f r else (shR f r).map ((if c = 95 then 32 else c) :: ·) := by
  rcases r with _ | ⟨a, _ | ⟨b, r⟩⟩ <;> rfl
theorem pairR_two {f : Nat} {a b : UInt8} {r : Bs} : pairR f (a :: b :: r) = (match hexD a, hexD b with
    | some v, some w => (shR f r).map (UInt8.ofNat (16 * v + w) :: ·)
    | _, _ => none) := rfl
def shV (l : Bs) : Option Bs := shR l.length l

theorem hex_two {v w : Nat} (hv : v < 16) (hw : w < 16) : UInt8.ofNat ((UInt8.ofNat v).toNat * 16) ||| UInt8.ofNat w = UInt8.ofNat (16 * v + w) := by
  have := List.all_eq_true.1 (show (List.range 16).all (fun v => (List.range 16).all fun w => UInt8.ofNat ((UInt8.ofNat v).toNat * 16) ||| UInt8.ofNat w == UInt8.ofNat (16 * v + w)) = true by kernel_rfl) v (List.mem_range.2 hv)
  have := List.all_eq_true.1 this w (List.mem_range.2 hw)
  simpa using this
theorem shl4 {a : UInt8} : binPV .shl .no (.b8 a) (.int .u64 4) = some (.b8 (UInt8.ofNat (a.toNat * 16))) := rfl

theorem map_push {T : Option Bs} {acc : Bs} {c : UInt8} {o : Option Bs} (h : T = (o.map (c :: ·)).map (acc ++ ·)) : T = o.map ((acc ++ [c]) ++ ·) := by
  rw [h]; cases o <;> simp

/-- The row at i. -/
theorem drop1 {l : Bs} {i : Nat} (h : i < l.length) : l.drop i = l.getD i 0 :: l.drop (i + 1) := by
  rw [List.drop_eq_getElem_cons h]; simp [List.getD, h]

set_option maxHeartbeats 4000000 in
theorem short_spec {l : Bs} (hl : l.length ≤ 1000000) : call prog (.fn 242 []) [.str l] st = some (.tup [.str ((shV l).getD []), .bool (shV l).isSome], st) := by
  refine call_of_W prog_242 ?_
  unfold F_word_short; dsimp only
  simp (maxSteps := 1000000) (disch := omega) only [qaaz, qabz, qacz, qadz, qaez, qafz, qagz, qahz, qaiz, qajz, qakz, qalz, qamz, qanz, evOp, qaoz, qapz, qaqz, qarz, qasz, qatz, qauz, qavz,
 ↓reduceIte, Nat.reduceEqDiff, List.nil_append, List.cons_append, List.append_nil, List.map_cons, List.map_nil, qawz, qaxz, qayz, Option.map_some, Option.map_none, qazz, qbaz, qbbz, qbcz, qbdz, qbez, qbfz, qbgz, qbhz, qbiz, qbjz, qbkz, qblz, qbmz, qbnz, qboz,
 qbpz, qbqz, qbrz, qbsz, qbtz, qbuz, qbvz, qbwz, qbxz, qbyz, qbzz, qcaz, qcbz, qccz, qcdz, qcez, qcfz, qcgz, qchz, qciz, beq_true, beq_false, Bool.not_eq_true', decide_eq_true_eq, decide_eq_false_iff_not, decide_true, decide_false,
 Int.toNat_natCast, Int.ofNat_lt, Int.ofNat_le, Int.natCast_inj, Bool.false_eq_true, Bool.true_eq_false, qcjz, List.getElem?_cons_zero, List.getElem?_cons_succ, qckz, Int.reduceToNat, Int.reduceLE, true_and, and_true, reduceCtorEq, or_false, false_or, or_true, Option.some.injEq, exists_eq_left', Bool.not_true, Bool.not_false, ne_eq, Int.reduceEq, not_true_eq_false, not_false_eq_true, Int.reduceLT, UInt8.reduceLT, UInt8.reduceLE, UInt8.reduceToNat]
  obtain ⟨T, hT⟩ : ∃ T, T = shV l := ⟨_, rfl⟩
  rw [← hT]
  obtain ⟨Q0, hQ0⟩ : ∃ Q0 : Ex → Env → St → Prop, Q0 = endQ st [.tmp 2, .tmp 3] (.tup [.str (T.getD []), .bool T.isSome], st) := ⟨_, rfl⟩
  rw [← hQ0]
  have hroom : room = 68719476736 := rfl
  obtain ⟨I, hI⟩ : ∃ I : Nat → Env → St → Prop, I = fun k E S => ∃ (i f : Nat) (acc : Bs) (w : PV), k = l.length - i ∧ i ≤ l.length ∧ l.length - i ≤ f ∧ Kept st S ∧ Mine st S w acc ∧ acc.length ≤ i ∧ T = (shR f (l.drop i)).map (acc ++ ·) ∧ E 0 = .str l ∧ E 4 = w ∧ E 5 = .int .i64 (i : Int) := ⟨_, rfl⟩
  refine W_loop I ?_ (n := l.length) (by
    rw [hI]; exact ⟨0, l.length, [], .nils, rfl, by omega, by omega, Kept.start, Mine.nil, by simp, by rw [hT]; simp [shV], rfl, rfl, rfl⟩)
  intro k E S hh
  rw [hI] at hh
  obtain ⟨i, f, acc, w, rfl, hi, hf, hk, hm, hal, hTT, h0, h4, h5⟩ := hh
  have bad : ∀ (E2 : Env) (S2 : St), Kept st S2 → T = none → E2 2 = .str [] → E2 3 = .bool false → Q0 .ret E2 S2 := fun E2 S2 k2 ht e2 e3 => by
    rw [hQ0, qblz, ht]
    exact retV2 e2 e3 rfl rfl k2 ⟨fun _ => rfl, fun _ _ => rfl⟩
  have hby : ∀ {S2 : St} {v : PV} {a : Bs}, Mine st S2 v a → b2s false S2 v = some a := fun hm2 => by
    rcases by_cases' hm2.by with ⟨rfl, h0⟩ | ⟨t, rfl⟩
    · rw [h0]; rfl
    · rfl
  by_cases hlt : i < l.length
  · obtain ⟨f, rfl⟩ : ∃ g, f = g + 1 := ⟨f - 1, by omega⟩
    obtain ⟨c, hc⟩ : ∃ c, c = l.getD i 0 := ⟨_, rfl⟩
    rw [drop1 hlt, ← hc] at hTT
    have next : ∀ (j : Nat) (x : UInt8) (w1 : PV) (E2 : Env) (S2 : St), i < j → j ≤ l.length → Kept st S2 → Mine st S2 w1 (acc ++ [x]) → T = ((shR f (l.drop j)).map (x :: ·)).map (acc ++ ·) → E2 0 = .str l → E2 4 = w1 → E2 5 = .int .i64 (j : Int) → ∃ m, m < l.length - i ∧ I m E2 S2 := fun j x w1 E2 S2 q1 q2 k1 m1 ht e0 e4 e5 => by
      refine ⟨l.length - j, by omega, ?_⟩
      rw [hI]
      exact ⟨j, f, acc ++ [x], w1, rfl, q2, by omega, k1, m1, by simp; omega, map_push ht, e0, e4, e5⟩
    by_cases c1 : c < 33
    · simp (maxSteps := 1000000) (disch := omega) only [h0, h4, h5, len_s, hlt, idx_s, ← hc, c1, qaaz, qabz, qacz, qadz, qaez, qafz, qagz, qahz, qaiz, qajz, qakz, qalz, qamz, qanz, evOp, qaoz, qapz, qaqz, qarz, qasz, qatz, qauz, qavz,
 ↓reduceIte, Nat.reduceEqDiff, List.nil_append, List.cons_append, List.append_nil, List.map_cons, List.map_nil, qawz, qaxz, qayz, Option.map_some, Option.map_none, qazz, qbaz, qbbz, qbcz, qbdz, qbez, qbfz, qbgz, qbhz, qbiz, qbjz, qbkz, qblz, qbmz, qbnz, qboz,
 qbpz, qbqz, qbrz, qbsz, qbtz, qbuz, qbvz, qbwz, qbxz, qbyz, qbzz, qcaz, qcbz, qccz, qcdz, qcez, qcfz, qcgz, qchz, qciz, beq_true, beq_false, Bool.not_eq_true', decide_eq_true_eq, decide_eq_false_iff_not, decide_true, decide_false,
 Int.toNat_natCast, Int.ofNat_lt, Int.ofNat_le, Int.natCast_inj, Bool.false_eq_true, Bool.true_eq_false, qcjz, List.getElem?_cons_zero, List.getElem?_cons_succ, qckz, Int.reduceToNat, Int.reduceLE, true_and, and_true, reduceCtorEq, or_false, false_or, or_true, Option.some.injEq, exists_eq_left', Bool.not_true, Bool.not_false, ne_eq, Int.reduceEq, not_true_eq_false, not_false_eq_true, Int.reduceLT, UInt8.reduceLT, UInt8.reduceLE, UInt8.reduceToNat]
      exact bad _ _ hk (by rw [hTT, shR_cons, if_pos (.inl c1)]; rfl) rfl rfl
    · by_cases c2 : 126 < c
      · simp (maxSteps := 1000000) (disch := omega) only [h0, h4, h5, len_s, hlt, idx_s, ← hc, c1, c2, qaaz, qabz, qacz, qadz, qaez, qafz, qagz, qahz, qaiz, qajz, qakz, qalz, qamz, qanz, evOp, qaoz, qapz, qaqz, qarz, qasz, qatz, qauz, qavz,
 ↓reduceIte, Nat.reduceEqDiff, List.nil_append, List.cons_append, List.append_nil, List.map_cons, List.map_nil, qawz, qaxz, qayz, Option.map_some, Option.map_none, qazz, qbaz, qbbz, qbcz, qbdz, qbez, qbfz, qbgz, qbhz, qbiz, qbjz, qbkz, qblz, qbmz, qbnz, qboz,
 qbpz, qbqz, qbrz, qbsz, qbtz, qbuz, qbvz, qbwz, qbxz, qbyz, qbzz, qcaz, qcbz, qccz, qcdz, qcez, qcfz, qcgz, qchz, qciz, beq_true, beq_false, Bool.not_eq_true', decide_eq_true_eq, decide_eq_false_iff_not, decide_true, decide_false,
 Int.toNat_natCast, Int.ofNat_lt, Int.ofNat_le, Int.natCast_inj, Bool.false_eq_true, Bool.true_eq_false, qcjz, List.getElem?_cons_zero, List.getElem?_cons_succ, qckz, Int.reduceToNat, Int.reduceLE, true_and, and_true, reduceCtorEq, or_false, false_or, or_true, Option.some.injEq, exists_eq_left', Bool.not_true, Bool.not_false, ne_eq, Int.reduceEq, not_true_eq_false, not_false_eq_true, Int.reduceLT, UInt8.reduceLT, UInt8.reduceLE, UInt8.reduceToNat]
        exact bad _ _ hk (by rw [hTT, shR_cons, if_pos (.inr c2)]; rfl) rfl rfl
      · rw [shR_cons, if_neg (by simp only [c1, c2]; simp)] at hTT
        by_cases c3 : c = 95
        · have c4 : ¬ c = 61 := by rw [c3]; decide
          obtain ⟨w1, S1, a1, k1, m1⟩ := hk.push (c := 32) hm (by omega)
          simp (maxSteps := 1000000) (disch := omega) only [h0, h4, h5, len_s, hlt, idx_s, ← hc, c1, c2, eq_true c3, lit8_1, freshT_eq, a1, add_n, loopQ_normal, qaaz, qabz, qacz, qadz, qaez, qafz, qagz, qahz, qaiz, qajz, qakz, qalz, qamz, qanz, evOp, qaoz, qapz, qaqz, qarz, qasz, qatz, qauz, qavz,
 ↓reduceIte, Nat.reduceEqDiff, List.nil_append, List.cons_append, List.append_nil, List.map_cons, List.map_nil, qawz, qaxz, qayz, Option.map_some, Option.map_none, qazz, qbaz, qbbz, qbcz, qbdz, qbez, qbfz, qbgz, qbhz, qbiz, qbjz, qbkz, qblz, qbmz, qbnz, qboz,
 qbpz, qbqz, qbrz, qbsz, qbtz, qbuz, qbvz, qbwz, qbxz, qbyz, qbzz, qcaz, qcbz, qccz, qcdz, qcez, qcfz, qcgz, qchz, qciz, beq_true, beq_false, Bool.not_eq_true', decide_eq_true_eq, decide_eq_false_iff_not, decide_true, decide_false,
 Int.toNat_natCast, Int.ofNat_lt, Int.ofNat_le, Int.natCast_inj, Bool.false_eq_true, Bool.true_eq_false, qcjz, List.getElem?_cons_zero, List.getElem?_cons_succ, qckz, Int.reduceToNat, Int.reduceLE, true_and, and_true, reduceCtorEq, or_false, false_or, or_true, Option.some.injEq, exists_eq_left', Bool.not_true, Bool.not_false, ne_eq, Int.reduceEq, not_true_eq_false, not_false_eq_true, Int.reduceLT, UInt8.reduceLT, UInt8.reduceLE, UInt8.reduceToNat]
          exact next (i + 1) 32 w1 _ _ (by omega) (by omega) k1 m1 (by rw [hTT, if_neg c4, if_pos c3]) h0 rfl rfl
        · by_cases c4 : c = 61
          · rw [if_pos c4] at hTT
            by_cases c5 : l.length ≤ i + 2
            · have hr : l.drop (i + 1) = [] ∨ ∃ a, l.drop (i + 1) = [a] := by
                rcases Nat.lt_or_ge (i + 1) l.length with q | q
                · right; exact ⟨_, by rw [drop1 q, List.drop_of_length_le (by omega)]⟩
                · left; exact List.drop_of_length_le q
              simp (maxSteps := 1000000) (disch := omega) only [h0, h4, h5, len_s, hlt, idx_s, ← hc, c1, c2, c3, eq_true c4, add_n, c5, qaaz, qabz, qacz, qadz, qaez, qafz, qagz, qahz, qaiz, qajz, qakz, qalz, qamz, qanz, evOp, qaoz, qapz, qaqz, qarz, qasz, qatz, qauz, qavz,
 ↓reduceIte, Nat.reduceEqDiff, List.nil_append, List.cons_append, List.append_nil, List.map_cons, List.map_nil, qawz, qaxz, qayz, Option.map_some, Option.map_none, qazz, qbaz, qbbz, qbcz, qbdz, qbez, qbfz, qbgz, qbhz, qbiz, qbjz, qbkz, qblz, qbmz, qbnz, qboz,
 qbpz, qbqz, qbrz, qbsz, qbtz, qbuz, qbvz, qbwz, qbxz, qbyz, qbzz, qcaz, qcbz, qccz, qcdz, qcez, qcfz, qcgz, qchz, qciz, beq_true, beq_false, Bool.not_eq_true', decide_eq_true_eq, decide_eq_false_iff_not, decide_true, decide_false,
 Int.toNat_natCast, Int.ofNat_lt, Int.ofNat_le, Int.natCast_inj, Bool.false_eq_true, Bool.true_eq_false, qcjz, List.getElem?_cons_zero, List.getElem?_cons_succ, qckz, Int.reduceToNat, Int.reduceLE, true_and, and_true, reduceCtorEq, or_false, false_or, or_true, Option.some.injEq, exists_eq_left', Bool.not_true, Bool.not_false, ne_eq, Int.reduceEq, not_true_eq_false, not_false_eq_true, Int.reduceLT, UInt8.reduceLT, UInt8.reduceLE, UInt8.reduceToNat]
              refine bad _ _ hk ?_ rfl rfl
              rw [hTT]; rcases hr with hr | ⟨a, hr⟩ <;> rw [hr] <;> rfl
            · obtain ⟨a, ha⟩ : ∃ a, a = l.getD (i + 1) 0 := ⟨_, rfl⟩
              obtain ⟨b, hb⟩ : ∃ b, b = l.getD (i + 2) 0 := ⟨_, rfl⟩
              have hr : l.drop (i + 1) = a :: b :: l.drop (i + 3) := by rw [drop1 (by omega), drop1 (by omega), ← ha, ← hb]
              rw [hr, pairR_two] at hTT
              have i1 : idxSPV (.str l) (.int .i64 ((i + 1 : Nat) : Int)) = some (.b8 a) := by rw [idx_s (by omega) (by omega), Int.toNat_natCast, ha]
              have i2 : idxSPV (.str l) (.int .i64 ((i + 2 : Nat) : Int)) = some (.b8 b) := by rw [idx_s (by omega) (by omega), Int.toNat_natCast, hb]
              cases x1 : hexD a with
              | none =>
                have q1 := (hex_none x1).1
                simp (maxSteps := 1000000) (disch := omega) only [h0, h4, h5, len_s, hlt, idx_s, ← hc, c1, c2, c3, eq_true c4, add_n, c5, i1, i2, digit_spec, q1, qaaz, qabz, qacz, qadz, qaez, qafz, qagz, qahz, qaiz, qajz, qakz, qalz, qamz, qanz, evOp, qaoz, qapz, qaqz, qarz, qasz, qatz, qauz, qavz,
 ↓reduceIte, Nat.reduceEqDiff, List.nil_append, List.cons_append, List.append_nil, List.map_cons, List.map_nil, qawz, qaxz, qayz, Option.map_some, Option.map_none, qazz, qbaz, qbbz, qbcz, qbdz, qbez, qbfz, qbgz, qbhz, qbiz, qbjz, qbkz, qblz, qbmz, qbnz, qboz,
 qbpz, qbqz, qbrz, qbsz, qbtz, qbuz, qbvz, qbwz, qbxz, qbyz, qbzz, qcaz, qcbz, qccz, qcdz, qcez, qcfz, qcgz, qchz, qciz, beq_true, beq_false, Bool.not_eq_true', decide_eq_true_eq, decide_eq_false_iff_not, decide_true, decide_false,
 Int.toNat_natCast, Int.ofNat_lt, Int.ofNat_le, Int.natCast_inj, Bool.false_eq_true, Bool.true_eq_false, qcjz, List.getElem?_cons_zero, List.getElem?_cons_succ, qckz, Int.reduceToNat, Int.reduceLE, true_and, and_true, reduceCtorEq, or_false, false_or, or_true, Option.some.injEq, exists_eq_left', Bool.not_true, Bool.not_false, ne_eq, Int.reduceEq, not_true_eq_false, not_false_eq_true, Int.reduceLT, UInt8.reduceLT, UInt8.reduceLE, UInt8.reduceToNat]
                exact bad _ _ hk (by rw [hTT, x1]; rfl) rfl rfl
              | some v =>
                obtain ⟨v1, v2, v3, _⟩ := hex_some x1
                cases x2 : hexD b with
                | none =>
                  have q2 := (hex_none x2).1
                  simp (maxSteps := 1000000) (disch := omega) only [h0, h4, h5, len_s, hlt, idx_s, ← hc, c1, c2, c3, eq_true c4, add_n, c5, i1, i2, digit_spec, v2, q2, qaaz, qabz, qacz, qadz, qaez, qafz, qagz, qahz, qaiz, qajz, qakz, qalz, qamz, qanz, evOp, qaoz, qapz, qaqz, qarz, qasz, qatz, qauz, qavz,
 ↓reduceIte, Nat.reduceEqDiff, List.nil_append, List.cons_append, List.append_nil, List.map_cons, List.map_nil, qawz, qaxz, qayz, Option.map_some, Option.map_none, qazz, qbaz, qbbz, qbcz, qbdz, qbez, qbfz, qbgz, qbhz, qbiz, qbjz, qbkz, qblz, qbmz, qbnz, qboz,
 qbpz, qbqz, qbrz, qbsz, qbtz, qbuz, qbvz, qbwz, qbxz, qbyz, qbzz, qcaz, qcbz, qccz, qcdz, qcez, qcfz, qcgz, qchz, qciz, beq_true, beq_false, Bool.not_eq_true', decide_eq_true_eq, decide_eq_false_iff_not, decide_true, decide_false,
 Int.toNat_natCast, Int.ofNat_lt, Int.ofNat_le, Int.natCast_inj, Bool.false_eq_true, Bool.true_eq_false, qcjz, List.getElem?_cons_zero, List.getElem?_cons_succ, qckz, Int.reduceToNat, Int.reduceLE, true_and, and_true, reduceCtorEq, or_false, false_or, or_true, Option.some.injEq, exists_eq_left', Bool.not_true, Bool.not_false, ne_eq, Int.reduceEq, not_true_eq_false, not_false_eq_true, Int.reduceLT, UInt8.reduceLT, UInt8.reduceLE, UInt8.reduceToNat]
                  exact bad _ _ hk (by rw [hTT, x1, x2]; rfl) rfl rfl
                | some u =>
                  obtain ⟨u1, u2, u3, _⟩ := hex_some x2
                  have hor : binPV .or .no (.b8 (UInt8.ofNat ((digB a).toNat * 16))) (.b8 (digB b)) = some (.b8 (UInt8.ofNat (16 * v + u))) := by rw [or_8, v3, u3, hex_two v1 u1]
                  obtain ⟨w1, S1, a1, k1, m1⟩ := hk.push (c := UInt8.ofNat (16 * v + u)) hm (by omega)
                  simp (maxSteps := 1000000) (disch := omega) only [h0, h4, h5, len_s, hlt, idx_s, ← hc, c1, c2, c3, eq_true c4, add_n, c5, i1, i2, digit_spec, v2, u2, shl4, hor, lit8_1, freshT_eq, a1, loopQ_normal, qaaz, qabz, qacz, qadz, qaez, qafz, qagz, qahz, qaiz, qajz, qakz, qalz, qamz, qanz, evOp, qaoz, qapz, qaqz, qarz, qasz, qatz, qauz, qavz,
 ↓reduceIte, Nat.reduceEqDiff, List.nil_append, List.cons_append, List.append_nil, List.map_cons, List.map_nil, qawz, qaxz, qayz, Option.map_some, Option.map_none, qazz, qbaz, qbbz, qbcz, qbdz, qbez, qbfz, qbgz, qbhz, qbiz, qbjz, qbkz, qblz, qbmz, qbnz, qboz,
 qbpz, qbqz, qbrz, qbsz, qbtz, qbuz, qbvz, qbwz, qbxz, qbyz, qbzz, qcaz, qcbz, qccz, qcdz, qcez, qcfz, qcgz, qchz, qciz, beq_true, beq_false, Bool.not_eq_true', decide_eq_true_eq, decide_eq_false_iff_not, decide_true, decide_false,
 Int.toNat_natCast, Int.ofNat_lt, Int.ofNat_le, Int.natCast_inj, Bool.false_eq_true, Bool.true_eq_false, qcjz, List.getElem?_cons_zero, List.getElem?_cons_succ, qckz, Int.reduceToNat, Int.reduceLE, true_and, and_true, reduceCtorEq, or_false, false_or, or_true, Option.some.injEq, exists_eq_left', Bool.not_true, Bool.not_false, ne_eq, Int.reduceEq, not_true_eq_false, not_false_eq_true, Int.reduceLT, UInt8.reduceLT, UInt8.reduceLE, UInt8.reduceToNat]
                  exact next (i + 3) (UInt8.ofNat (16 * v + u)) w1 _ _ (by omega) (by omega) k1 m1 (by rw [hTT, x1, x2]) h0 rfl rfl
          · rw [if_neg c4, if_neg c3] at hTT
            obtain ⟨w1, S1, a1, k1, m1⟩ := hk.push (c := c) hm (by omega)
            simp (maxSteps := 1000000) (disch := omega) only [h0, h4, h5, len_s, hlt, idx_s, ← hc, c1, c2, c3, c4, lit8_1, freshT_eq, a1, add_n, loopQ_normal, qaaz, qabz, qacz, qadz, qaez, qafz, qagz, qahz, qaiz, qajz, qakz, qalz, qamz, qanz, evOp, qaoz, qapz, qaqz, qarz, qasz, qatz, qauz, qavz,
 ↓reduceIte, Nat.reduceEqDiff, List.nil_append, List.cons_append, List.append_nil, List.map_cons, List.map_nil, qawz, qaxz, qayz, Option.map_some, Option.map_none, qazz, qbaz, qbbz, qbcz, qbdz, qbez, qbfz, qbgz, qbhz, qbiz, qbjz, qbkz, qblz, qbmz, qbnz, qboz,
 qbpz, qbqz, qbrz, qbsz, qbtz, qbuz, qbvz, qbwz, qbxz, qbyz, qbzz, qcaz, qcbz, qccz, qcdz, qcez, qcfz, qcgz, qchz, qciz, beq_true, beq_false, Bool.not_eq_true', decide_eq_true_eq, decide_eq_false_iff_not, decide_true, decide_false,
 Int.toNat_natCast, Int.ofNat_lt, Int.ofNat_le, Int.natCast_inj, Bool.false_eq_true, Bool.true_eq_false, qcjz, List.getElem?_cons_zero, List.getElem?_cons_succ, qckz, Int.reduceToNat, Int.reduceLE, true_and, and_true, reduceCtorEq, or_false, false_or, or_true, Option.some.injEq, exists_eq_left', Bool.not_true, Bool.not_false, ne_eq, Int.reduceEq, not_true_eq_false, not_false_eq_true, Int.reduceLT, UInt8.reduceLT, UInt8.reduceLE, UInt8.reduceToNat]
            exact next (i + 1) c w1 _ _ (by omega) (by omega) k1 m1 hTT h0 rfl rfl
  · have hd : l.drop i = [] := List.drop_of_length_le (by omega)
    have hTa : T = some acc := by rw [hTT, hd]; cases f <;> simp [shR]
    simp (maxSteps := 1000000) (disch := omega) only [h0, h4, h5, len_s, hlt, hby hm, qaaz, qabz, qacz, qadz, qaez, qafz, qagz, qahz, qaiz, qajz, qakz, qalz, qamz, qanz, evOp, qaoz, qapz, qaqz, qarz, qasz, qatz, qauz, qavz,
 ↓reduceIte, Nat.reduceEqDiff, List.nil_append, List.cons_append, List.append_nil, List.map_cons, List.map_nil, qawz, qaxz, qayz, Option.map_some, Option.map_none, qazz, qbaz, qbbz, qbcz, qbdz, qbez, qbfz, qbgz, qbhz, qbiz, qbjz, qbkz, qblz, qbmz, qbnz, qboz,
 qbpz, qbqz, qbrz, qbsz, qbtz, qbuz, qbvz, qbwz, qbxz, qbyz, qbzz, qcaz, qcbz, qccz, qcdz, qcez, qcfz, qcgz, qchz, qciz, beq_true, beq_false, Bool.not_eq_true', decide_eq_true_eq, decide_eq_false_iff_not, decide_true, decide_false,
 Int.toNat_natCast, Int.ofNat_lt, Int.ofNat_le, Int.natCast_inj, Bool.false_eq_true, Bool.true_eq_false, qcjz, List.getElem?_cons_zero, List.getElem?_cons_succ, qckz, Int.reduceToNat, Int.reduceLE, true_and, and_true, reduceCtorEq, or_false, false_or, or_true, Option.some.injEq, exists_eq_left', Bool.not_true, Bool.not_false, ne_eq, Int.reduceEq, not_true_eq_false, not_false_eq_true, Int.reduceLT, UInt8.reduceLT, UInt8.reduceLE, UInt8.reduceToNat]
    rw [hQ0, qblz, hTa]
    exact retV2 rfl rfl rfl rfl hk ⟨fun _ => rfl, fun _ _ => rfl⟩

set_option maxHeartbeats 4000000 in
theorem rshort_spec {l : Bs} (hl : l.length ≤ 1000000) : call prog (.fn 244 []) [.str l] st = some (.tup [.str ((shV l).getD []), .bool (shV l).isSome], st) := by
  refine call_of_W prog_244 ?_
  unfold F_posthornref04_short; dsimp only
  simp (maxSteps := 1000000) (disch := omega) only [qaaz, qabz, qacz, qadz, qaez, qafz, qagz, qahz, qaiz, qajz, qakz, qalz, qamz, qanz, evOp, qaoz, qapz, qaqz, qarz, qasz, qatz, qauz, qavz,
 ↓reduceIte, Nat.reduceEqDiff, List.nil_append, List.cons_append, List.append_nil, List.map_cons, List.map_nil, qawz, qaxz, qayz, Option.map_some, Option.map_none, qazz, qbaz, qbbz, qbcz, qbdz, qbez, qbfz, qbgz, qbhz, qbiz, qbjz, qbkz, qblz, qbmz, qbnz, qboz,
 qbpz, qbqz, qbrz, qbsz, qbtz, qbuz, qbvz, qbwz, qbxz, qbyz, qbzz, qcaz, qcbz, qccz, qcdz, qcez, qcfz, qcgz, qchz, qciz, beq_true, beq_false, Bool.not_eq_true', decide_eq_true_eq, decide_eq_false_iff_not, decide_true, decide_false,
 Int.toNat_natCast, Int.ofNat_lt, Int.ofNat_le, Int.natCast_inj, Bool.false_eq_true, Bool.true_eq_false, qcjz, List.getElem?_cons_zero, List.getElem?_cons_succ, qckz, Int.reduceToNat, Int.reduceLE, true_and, and_true, reduceCtorEq, or_false, false_or, or_true, Option.some.injEq, exists_eq_left', Bool.not_true, Bool.not_false, ne_eq, Int.reduceEq, not_true_eq_false, not_false_eq_true, Int.reduceLT, UInt8.reduceLT, UInt8.reduceLE, UInt8.reduceToNat]
  obtain ⟨T, hT⟩ : ∃ T, T = shV l := ⟨_, rfl⟩
  rw [← hT]
  obtain ⟨Q0, hQ0⟩ : ∃ Q0 : Ex → Env → St → Prop, Q0 = endQ st [.tmp 2, .tmp 3] (.tup [.str (T.getD []), .bool T.isSome], st) := ⟨_, rfl⟩
  rw [← hQ0]
  have hroom : room = 68719476736 := rfl
  obtain ⟨I, hI⟩ : ∃ I : Nat → Env → St → Prop, I = fun k E S => ∃ (i f : Nat) (acc : Bs) (w : PV), k = l.length - i ∧ i ≤ l.length ∧ l.length - i ≤ f ∧ Kept st S ∧ Mine st S w acc ∧ acc.length ≤ i ∧ T = (shR f (l.drop i)).map (acc ++ ·) ∧ E 0 = .str l ∧ E 4 = w ∧ E 5 = .int .i64 (i : Int) := ⟨_, rfl⟩
  refine W_loop I ?_ (n := l.length) (by
    rw [hI]; exact ⟨0, l.length, [], .nils, rfl, by omega, by omega, Kept.start, Mine.nil, by simp, by rw [hT]; simp [shV], rfl, rfl, rfl⟩)
  intro k E S hh
  rw [hI] at hh
  obtain ⟨i, f, acc, w, rfl, hi, hf, hk, hm, hal, hTT, h0, h4, h5⟩ := hh
  have bad : ∀ (E2 : Env) (S2 : St), Kept st S2 → T = none → E2 2 = .str [] → E2 3 = .bool false → Q0 .ret E2 S2 := fun E2 S2 k2 ht e2 e3 => by
    rw [hQ0, qblz, ht]
    exact retV2 e2 e3 rfl rfl k2 ⟨fun _ => rfl, fun _ _ => rfl⟩
  have hby : ∀ {S2 : St} {v : PV} {a : Bs}, Mine st S2 v a → b2s false S2 v = some a := fun hm2 => by
    rcases by_cases' hm2.by with ⟨rfl, h0⟩ | ⟨t, rfl⟩
    · rw [h0]; rfl
    · rfl
  by_cases hlt : i < l.length
  · obtain ⟨f, rfl⟩ : ∃ g, f = g + 1 := ⟨f - 1, by omega⟩
    obtain ⟨c, hc⟩ : ∃ c, c = l.getD i 0 := ⟨_, rfl⟩
    rw [drop1 hlt, ← hc] at hTT
    have le32 : (c ≤ 32) = (c < 33) := by apply propext; rw [UInt8.le_iff_toNat_le, UInt8.lt_iff_toNat_lt]; show c.toNat ≤ 32 ↔ c.toNat < 33; omega
    have next : ∀ (j : Nat) (x : UInt8) (w1 : PV) (E2 : Env) (S2 : St), i < j → j ≤ l.length → Kept st S2 → Mine st S2 w1 (acc ++ [x]) → T = ((shR f (l.drop j)).map (x :: ·)).map (acc ++ ·) → E2 0 = .str l → E2 4 = w1 → E2 5 = .int .i64 (j : Int) → ∃ m, m < l.length - i ∧ I m E2 S2 := fun j x w1 E2 S2 q1 q2 k1 m1 ht e0 e4 e5 => by
      refine ⟨l.length - j, by omega, ?_⟩
      rw [hI]
      exact ⟨j, f, acc ++ [x], w1, rfl, q2, by omega, k1, m1, by simp; omega, map_push ht, e0, e4, e5⟩
    by_cases c1 : c < 33
    · simp (maxSteps := 1000000) (disch := omega) only [h0, h4, h5, len_s, hlt, idx_s, ← hc, le32, c1, qaaz, qabz, qacz, qadz, qaez, qafz, qagz, qahz, qaiz, qajz, qakz, qalz, qamz, qanz, evOp, qaoz, qapz, qaqz, qarz, qasz, qatz, qauz, qavz,
 ↓reduceIte, Nat.reduceEqDiff, List.nil_append, List.cons_append, List.append_nil, List.map_cons, List.map_nil, qawz, qaxz, qayz, Option.map_some, Option.map_none, qazz, qbaz, qbbz, qbcz, qbdz, qbez, qbfz, qbgz, qbhz, qbiz, qbjz, qbkz, qblz, qbmz, qbnz, qboz,
 qbpz, qbqz, qbrz, qbsz, qbtz, qbuz, qbvz, qbwz, qbxz, qbyz, qbzz, qcaz, qcbz, qccz, qcdz, qcez, qcfz, qcgz, qchz, qciz, beq_true, beq_false, Bool.not_eq_true', decide_eq_true_eq, decide_eq_false_iff_not, decide_true, decide_false,
 Int.toNat_natCast, Int.ofNat_lt, Int.ofNat_le, Int.natCast_inj, Bool.false_eq_true, Bool.true_eq_false, qcjz, List.getElem?_cons_zero, List.getElem?_cons_succ, qckz, Int.reduceToNat, Int.reduceLE, true_and, and_true, reduceCtorEq, or_false, false_or, or_true, Option.some.injEq, exists_eq_left', Bool.not_true, Bool.not_false, ne_eq, Int.reduceEq, not_true_eq_false, not_false_eq_true, Int.reduceLT, UInt8.reduceLT, UInt8.reduceLE, UInt8.reduceToNat]
      exact bad _ _ hk (by rw [hTT, shR_cons, if_pos (.inl c1)]; rfl) rfl rfl
    · by_cases c2 : 126 < c
      · simp (maxSteps := 1000000) (disch := omega) only [h0, h4, h5, len_s, hlt, idx_s, ← hc, le32, c1, c2, qaaz, qabz, qacz, qadz, qaez, qafz, qagz, qahz, qaiz, qajz, qakz, qalz, qamz, qanz, evOp, qaoz, qapz, qaqz, qarz, qasz, qatz, qauz, qavz,
 ↓reduceIte, Nat.reduceEqDiff, List.nil_append, List.cons_append, List.append_nil, List.map_cons, List.map_nil, qawz, qaxz, qayz, Option.map_some, Option.map_none, qazz, qbaz, qbbz, qbcz, qbdz, qbez, qbfz, qbgz, qbhz, qbiz, qbjz, qbkz, qblz, qbmz, qbnz, qboz,
 qbpz, qbqz, qbrz, qbsz, qbtz, qbuz, qbvz, qbwz, qbxz, qbyz, qbzz, qcaz, qcbz, qccz, qcdz, qcez, qcfz, qcgz, qchz, qciz, beq_true, beq_false, Bool.not_eq_true', decide_eq_true_eq, decide_eq_false_iff_not, decide_true, decide_false,
 Int.toNat_natCast, Int.ofNat_lt, Int.ofNat_le, Int.natCast_inj, Bool.false_eq_true, Bool.true_eq_false, qcjz, List.getElem?_cons_zero, List.getElem?_cons_succ, qckz, Int.reduceToNat, Int.reduceLE, true_and, and_true, reduceCtorEq, or_false, false_or, or_true, Option.some.injEq, exists_eq_left', Bool.not_true, Bool.not_false, ne_eq, Int.reduceEq, not_true_eq_false, not_false_eq_true, Int.reduceLT, UInt8.reduceLT, UInt8.reduceLE, UInt8.reduceToNat]
        exact bad _ _ hk (by rw [hTT, shR_cons, if_pos (.inr c2)]; rfl) rfl rfl
      · rw [shR_cons, if_neg (by simp only [c1, c2]; simp)] at hTT
        by_cases c4 : c = 61
        · rw [if_pos c4] at hTT
          have hsb : binPV .sub .no (.int .i64 (l.length : Int)) (.int .i64 (i : Int)) = some (.int .i64 ((l.length - i : Nat) : Int)) := by
            rw [sub_i (by omega) (by omega)]; congr 2; omega
          by_cases c5 : l.length ≤ i + 2
          · have c5' : ((l.length - i : Nat) : Int) < 3 := by omega
            have hr : l.drop (i + 1) = [] ∨ ∃ a, l.drop (i + 1) = [a] := by
              rcases Nat.lt_or_ge (i + 1) l.length with q | q
              · right; exact ⟨_, by rw [drop1 q, List.drop_of_length_le (by omega)]⟩
              · left; exact List.drop_of_length_le q
            simp (maxSteps := 1000000) (disch := omega) only [h0, h4, h5, len_s, hlt, idx_s, ← hc, le32, c1, c2, eq_true c4, hsb, c5', qaaz, qabz, qacz, qadz, qaez, qafz, qagz, qahz, qaiz, qajz, qakz, qalz, qamz, qanz, evOp, qaoz, qapz, qaqz, qarz, qasz, qatz, qauz, qavz,
 ↓reduceIte, Nat.reduceEqDiff, List.nil_append, List.cons_append, List.append_nil, List.map_cons, List.map_nil, qawz, qaxz, qayz, Option.map_some, Option.map_none, qazz, qbaz, qbbz, qbcz, qbdz, qbez, qbfz, qbgz, qbhz, qbiz, qbjz, qbkz, qblz, qbmz, qbnz, qboz,
 qbpz, qbqz, qbrz, qbsz, qbtz, qbuz, qbvz, qbwz, qbxz, qbyz, qbzz, qcaz, qcbz, qccz, qcdz, qcez, qcfz, qcgz, qchz, qciz, beq_true, beq_false, Bool.not_eq_true', decide_eq_true_eq, decide_eq_false_iff_not, decide_true, decide_false,
 Int.toNat_natCast, Int.ofNat_lt, Int.ofNat_le, Int.natCast_inj, Bool.false_eq_true, Bool.true_eq_false, qcjz, List.getElem?_cons_zero, List.getElem?_cons_succ, qckz, Int.reduceToNat, Int.reduceLE, true_and, and_true, reduceCtorEq, or_false, false_or, or_true, Option.some.injEq, exists_eq_left', Bool.not_true, Bool.not_false, ne_eq, Int.reduceEq, not_true_eq_false, not_false_eq_true, Int.reduceLT, UInt8.reduceLT, UInt8.reduceLE, UInt8.reduceToNat]
            refine bad _ _ hk ?_ rfl rfl
            rw [hTT]; rcases hr with hr | ⟨a, hr⟩ <;> rw [hr] <;> rfl
          · have c5' : ¬ ((l.length - i : Nat) : Int) < 3 := by omega
            obtain ⟨a, ha⟩ : ∃ a, a = l.getD (i + 1) 0 := ⟨_, rfl⟩
            obtain ⟨b, hb⟩ : ∃ b, b = l.getD (i + 2) 0 := ⟨_, rfl⟩
            have hr : l.drop (i + 1) = a :: b :: l.drop (i + 3) := by rw [drop1 (by omega), drop1 (by omega), ← ha, ← hb]
            rw [hr, pairR_two] at hTT
            have i1 : idxSPV (.str l) (.int .i64 ((i + 1 : Nat) : Int)) = some (.b8 a) := by rw [idx_s (by omega) (by omega), Int.toNat_natCast, ha]
            have i2 : idxSPV (.str l) (.int .i64 ((i + 2 : Nat) : Int)) = some (.b8 b) := by rw [idx_s (by omega) (by omega), Int.toNat_natCast, hb]
            have i3 : idxSPV (.str l) (.int .i64 (i : Int)) = some (.b8 c) := by rw [idx_s (by omega) (by omega), Int.toNat_natCast, hc]
            cases x1 : hexD a with
            | none =>
              have q1 := (hex_none x1).2
              simp (maxSteps := 1000000) (disch := omega) only [h0, h4, h5, len_s, hlt, i3, le32, c1, c2, eq_true c4, hsb, c5', add_n, i1, i2, hvalue_spec, q1, qaaz, qabz, qacz, qadz, qaez, qafz, qagz, qahz, qaiz, qajz, qakz, qalz, qamz, qanz, evOp, qaoz, qapz, qaqz, qarz, qasz, qatz, qauz, qavz,
 ↓reduceIte, Nat.reduceEqDiff, List.nil_append, List.cons_append, List.append_nil, List.map_cons, List.map_nil, qawz, qaxz, qayz, Option.map_some, Option.map_none, qazz, qbaz, qbbz, qbcz, qbdz, qbez, qbfz, qbgz, qbhz, qbiz, qbjz, qbkz, qblz, qbmz, qbnz, qboz,
 qbpz, qbqz, qbrz, qbsz, qbtz, qbuz, qbvz, qbwz, qbxz, qbyz, qbzz, qcaz, qcbz, qccz, qcdz, qcez, qcfz, qcgz, qchz, qciz, beq_true, beq_false, Bool.not_eq_true', decide_eq_true_eq, decide_eq_false_iff_not, decide_true, decide_false,
 Int.toNat_natCast, Int.ofNat_lt, Int.ofNat_le, Int.natCast_inj, Bool.false_eq_true, Bool.true_eq_false, qcjz, List.getElem?_cons_zero, List.getElem?_cons_succ, qckz, Int.reduceToNat, Int.reduceLE, true_and, and_true, reduceCtorEq, or_false, false_or, or_true, Option.some.injEq, exists_eq_left', Bool.not_true, Bool.not_false, ne_eq, Int.reduceEq, not_true_eq_false, not_false_eq_true, Int.reduceLT, UInt8.reduceLT, UInt8.reduceLE, UInt8.reduceToNat]
              exact bad _ _ hk (by rw [hTT, x1]; rfl) rfl rfl
            | some v =>
              obtain ⟨v1, _, _, v4⟩ := hex_some x1
              have v5 : ¬ ((v : Int) < 0) := by omega
              cases x2 : hexD b with
              | none =>
                have q2 := (hex_none x2).2
                simp (maxSteps := 1000000) (disch := omega) only [h0, h4, h5, len_s, hlt, i3, le32, c1, c2, eq_true c4, hsb, c5', add_n, i1, i2, hvalue_spec, v4, v5, q2, qaaz, qabz, qacz, qadz, qaez, qafz, qagz, qahz, qaiz, qajz, qakz, qalz, qamz, qanz, evOp, qaoz, qapz, qaqz, qarz, qasz, qatz, qauz, qavz,
 ↓reduceIte, Nat.reduceEqDiff, List.nil_append, List.cons_append, List.append_nil, List.map_cons, List.map_nil, qawz, qaxz, qayz, Option.map_some, Option.map_none, qazz, qbaz, qbbz, qbcz, qbdz, qbez, qbfz, qbgz, qbhz, qbiz, qbjz, qbkz, qblz, qbmz, qbnz, qboz,
 qbpz, qbqz, qbrz, qbsz, qbtz, qbuz, qbvz, qbwz, qbxz, qbyz, qbzz, qcaz, qcbz, qccz, qcdz, qcez, qcfz, qcgz, qchz, qciz, beq_true, beq_false, Bool.not_eq_true', decide_eq_true_eq, decide_eq_false_iff_not, decide_true, decide_false,
 Int.toNat_natCast, Int.ofNat_lt, Int.ofNat_le, Int.natCast_inj, Bool.false_eq_true, Bool.true_eq_false, qcjz, List.getElem?_cons_zero, List.getElem?_cons_succ, qckz, Int.reduceToNat, Int.reduceLE, true_and, and_true, reduceCtorEq, or_false, false_or, or_true, Option.some.injEq, exists_eq_left', Bool.not_true, Bool.not_false, ne_eq, Int.reduceEq, not_true_eq_false, not_false_eq_true, Int.reduceLT, UInt8.reduceLT, UInt8.reduceLE, UInt8.reduceToNat]
                exact bad _ _ hk (by rw [hTT, x1, x2]; rfl) rfl rfl
              | some u =>
                obtain ⟨u1, _, _, u4⟩ := hex_some x2
                have u5 : ¬ ((u : Int) < 0) := by omega
                have mm : binPV .mul .no (.int .i64 16) (.int .i64 (v : Int)) = some (.int .i64 ((16 * v : Nat) : Int)) := mul_n (c := 16) (by omega)
                have ad : binPV .add .no (.int .i64 ((16 * v : Nat) : Int)) (.int .i64 (u : Int)) = some (.int .i64 ((16 * v + u : Nat) : Int)) := by
                  rw [add_i (by omega) (by omega)]; congr 2
                have cu := cU8 (k := .i64) (n := 16 * v + u) (by omega)
                obtain ⟨w1, S1, a1, k1, m1⟩ := hk.push (c := UInt8.ofNat (16 * v + u)) hm (by omega)
                simp (maxSteps := 1000000) (disch := omega) only [h0, h4, h5, len_s, hlt, i3, le32, c1, c2, eq_true c4, hsb, c5', add_n, i1, i2, hvalue_spec, v4, v5, u4, u5, mm, ad, cu, lit8_1, freshT_eq, a1, loopQ_normal, qaaz, qabz, qacz, qadz, qaez, qafz, qagz, qahz, qaiz, qajz, qakz, qalz, qamz, qanz, evOp, qaoz, qapz, qaqz, qarz, qasz, qatz, qauz, qavz,
 ↓reduceIte, Nat.reduceEqDiff, List.nil_append, List.cons_append, List.append_nil, List.map_cons, List.map_nil, qawz, qaxz, qayz, Option.map_some, Option.map_none, qazz, qbaz, qbbz, qbcz, qbdz, qbez, qbfz, qbgz, qbhz, qbiz, qbjz, qbkz, qblz, qbmz, qbnz, qboz,
 qbpz, qbqz, qbrz, qbsz, qbtz, qbuz, qbvz, qbwz, qbxz, qbyz, qbzz, qcaz, qcbz, qccz, qcdz, qcez, qcfz, qcgz, qchz, qciz, beq_true, beq_false, Bool.not_eq_true', decide_eq_true_eq, decide_eq_false_iff_not, decide_true, decide_false,
 Int.toNat_natCast, Int.ofNat_lt, Int.ofNat_le, Int.natCast_inj, Bool.false_eq_true, Bool.true_eq_false, qcjz, List.getElem?_cons_zero, List.getElem?_cons_succ, qckz, Int.reduceToNat, Int.reduceLE, true_and, and_true, reduceCtorEq, or_false, false_or, or_true, Option.some.injEq, exists_eq_left', Bool.not_true, Bool.not_false, ne_eq, Int.reduceEq, not_true_eq_false, not_false_eq_true, Int.reduceLT, UInt8.reduceLT, UInt8.reduceLE, UInt8.reduceToNat]
                exact next (i + 3) (UInt8.ofNat (16 * v + u)) w1 _ _ (by omega) (by omega) k1 m1 (by rw [hTT, x1, x2]) h0 rfl rfl
        · rw [if_neg c4] at hTT
          by_cases c3 : c = 95
          · obtain ⟨w1, S1, a1, k1, m1⟩ := hk.push (c := 32) hm (by omega)
            simp (maxSteps := 1000000) (disch := omega) only [h0, h4, h5, len_s, hlt, idx_s, ← hc, le32, c1, c2, c4, eq_true c3, lit8_1, freshT_eq, a1, add_n, loopQ_normal, qaaz, qabz, qacz, qadz, qaez, qafz, qagz, qahz, qaiz, qajz, qakz, qalz, qamz, qanz, evOp, qaoz, qapz, qaqz, qarz, qasz, qatz, qauz, qavz,
 ↓reduceIte, Nat.reduceEqDiff, List.nil_append, List.cons_append, List.append_nil, List.map_cons, List.map_nil, qawz, qaxz, qayz, Option.map_some, Option.map_none, qazz, qbaz, qbbz, qbcz, qbdz, qbez, qbfz, qbgz, qbhz, qbiz, qbjz, qbkz, qblz, qbmz, qbnz, qboz,
 qbpz, qbqz, qbrz, qbsz, qbtz, qbuz, qbvz, qbwz, qbxz, qbyz, qbzz, qcaz, qcbz, qccz, qcdz, qcez, qcfz, qcgz, qchz, qciz, beq_true, beq_false, Bool.not_eq_true', decide_eq_true_eq, decide_eq_false_iff_not, decide_true, decide_false,
 Int.toNat_natCast, Int.ofNat_lt, Int.ofNat_le, Int.natCast_inj, Bool.false_eq_true, Bool.true_eq_false, qcjz, List.getElem?_cons_zero, List.getElem?_cons_succ, qckz, Int.reduceToNat, Int.reduceLE, true_and, and_true, reduceCtorEq, or_false, false_or, or_true, Option.some.injEq, exists_eq_left', Bool.not_true, Bool.not_false, ne_eq, Int.reduceEq, not_true_eq_false, not_false_eq_true, Int.reduceLT, UInt8.reduceLT, UInt8.reduceLE, UInt8.reduceToNat]
            exact next (i + 1) 32 w1 _ _ (by omega) (by omega) k1 m1 (by rw [hTT, if_pos c3]) h0 rfl rfl
          · rw [if_neg c3] at hTT
            obtain ⟨w1, S1, a1, k1, m1⟩ := hk.push (c := c) hm (by omega)
            simp (maxSteps := 1000000) (disch := omega) only [h0, h4, h5, len_s, hlt, idx_s, ← hc, le32, c1, c2, c3, c4, lit8_1, freshT_eq, a1, add_n, loopQ_normal, qaaz, qabz, qacz, qadz, qaez, qafz, qagz, qahz, qaiz, qajz, qakz, qalz, qamz, qanz, evOp, qaoz, qapz, qaqz, qarz, qasz, qatz, qauz, qavz,
 ↓reduceIte, Nat.reduceEqDiff, List.nil_append, List.cons_append, List.append_nil, List.map_cons, List.map_nil, qawz, qaxz, qayz, Option.map_some, Option.map_none, qazz, qbaz, qbbz, qbcz, qbdz, qbez, qbfz, qbgz, qbhz, qbiz, qbjz, qbkz, qblz, qbmz, qbnz, qboz,
 qbpz, qbqz, qbrz, qbsz, qbtz, qbuz, qbvz, qbwz, qbxz, qbyz, qbzz, qcaz, qcbz, qccz, qcdz, qcez, qcfz, qcgz, qchz, qciz, beq_true, beq_false, Bool.not_eq_true', decide_eq_true_eq, decide_eq_false_iff_not, decide_true, decide_false,
 Int.toNat_natCast, Int.ofNat_lt, Int.ofNat_le, Int.natCast_inj, Bool.false_eq_true, Bool.true_eq_false, qcjz, List.getElem?_cons_zero, List.getElem?_cons_succ, qckz, Int.reduceToNat, Int.reduceLE, true_and, and_true, reduceCtorEq, or_false, false_or, or_true, Option.some.injEq, exists_eq_left', Bool.not_true, Bool.not_false, ne_eq, Int.reduceEq, not_true_eq_false, not_false_eq_true, Int.reduceLT, UInt8.reduceLT, UInt8.reduceLE, UInt8.reduceToNat]
            exact next (i + 1) c w1 _ _ (by omega) (by omega) k1 m1 hTT h0 rfl rfl
  · have hd : l.drop i = [] := List.drop_of_length_le (by omega)
    have hTa : T = some acc := by rw [hTT, hd]; cases f <;> simp [shR]
    simp (maxSteps := 1000000) (disch := omega) only [h0, h4, h5, len_s, hlt, hby hm, qaaz, qabz, qacz, qadz, qaez, qafz, qagz, qahz, qaiz, qajz, qakz, qalz, qamz, qanz, evOp, qaoz, qapz, qaqz, qarz, qasz, qatz, qauz, qavz,
 ↓reduceIte, Nat.reduceEqDiff, List.nil_append, List.cons_append, List.append_nil, List.map_cons, List.map_nil, qawz, qaxz, qayz, Option.map_some, Option.map_none, qazz, qbaz, qbbz, qbcz, qbdz, qbez, qbfz, qbgz, qbhz, qbiz, qbjz, qbkz, qblz, qbmz, qbnz, qboz,
 qbpz, qbqz, qbrz, qbsz, qbtz, qbuz, qbvz, qbwz, qbxz, qbyz, qbzz, qcaz, qcbz, qccz, qcdz, qcez, qcfz, qcgz, qchz, qciz, beq_true, beq_false, Bool.not_eq_true', decide_eq_true_eq, decide_eq_false_iff_not, decide_true, decide_false,
 Int.toNat_natCast, Int.ofNat_lt, Int.ofNat_le, Int.natCast_inj, Bool.false_eq_true, Bool.true_eq_false, qcjz, List.getElem?_cons_zero, List.getElem?_cons_succ, qckz, Int.reduceToNat, Int.reduceLE, true_and, and_true, reduceCtorEq, or_false, false_or, or_true, Option.some.injEq, exists_eq_left', Bool.not_true, Bool.not_false, ne_eq, Int.reduceEq, not_true_eq_false, not_false_eq_true, Int.reduceLT, UInt8.reduceLT, UInt8.reduceLE, UInt8.reduceToNat]
    rw [hQ0, qblz, hTa]
    exact retV2 rfl rfl rfl rfl hk ⟨fun _ => rfl, fun _ _ => rfl⟩
end Go.Ab

/-
  A word of signs, whatever it is: read.
-/
namespace Go.Ab
set_option linter.unusedVariables false
set_option linter.unusedSimpArgs false
set_option maxRecDepth 20000
variable {st s : St} {e : Env}

def asciiT : Bs := [117, 115, 45, 97, 115, 99, 105, 105]
def decT (how text : Bs) : Option Bs := if lowOf how = [98] then dec64 text else if lowOf how = [113] then shV text else none
def okT (set : Bs) (p : Bs) : Bool := (decide (lowOf set = utf8T) || decide (lowOf set = asciiT)) && validOf p && !(decide (lowOf set = asciiT) && p.any fun c => decide (127 < c))
def oneP (set how text : Bs) : Bs × Bool := match decT how text with
  | none => ([], false)
  | some p => if okT set p = true then (p, true) else ([], false)
def oneV (s : Bs) : Bs × Bool := if 75 < s.length then ([], false) else match splitOn 63 [] s with
  | [a, set, how, text, z] => if a = [61] ∧ z = [61] ∧ hasB s [32] = false then oneP set how text else ([], false)
  | _ => ([], false)

/-! ### The parts and the ends -/
theorem pre_of {s a : Bs} {r : List Bs} (h : splitOn 63 [] s = a :: r) (hr : r ≠ []) (ha : 63 ∉ a) : ([61, 63] : Bs) <+: s ↔ a = [61] := by
  obtain ⟨x, q, h1, h2⟩ := join_split (c := 63) s []
  rw [h] at h1
  obtain ⟨rfl, rfl⟩ := List.cons.inj h1
  obtain ⟨b, r, rfl⟩ := List.exists_cons_of_ne_nil hr
  simp only [List.flatMap_cons, List.cons_append, List.nil_append] at h2
  rw [← h2]
  constructor
  · rintro ⟨t, ht⟩
    match a, ha with
    | [], _ => simp at ht
    | [x], _ => simp at ht; rw [← ht.1]
    | x :: y :: a, ha => simp at ht ha; exact absurd ht.2.1 (by rintro rfl; exact ha.2.1 rfl)
  · rintro rfl; exact ⟨b ++ List.flatMap (fun y => 63 :: y) r, by simp⟩
theorem suf_of {z u : Bs} (hz : 63 ∉ z) : ([63, 61] : Bs) <:+ u ++ 63 :: z ↔ z = [61] := by
  constructor
  · rintro ⟨t, ht⟩
    have h1 := congrArg List.reverse ht
    simp at h1
    have hz' : 63 ∉ z.reverse := by simpa using hz
    generalize hq : z.reverse = q at h1 hz'
    match q, hz' with
    | [], _ => simp at h1
    | [x], _ =>
      simp at h1
      have := congrArg List.reverse hq
      simp at this; rw [this, ← h1.1]
    | x :: y :: q, hq' => simp at h1 hq'; exact absurd h1.2.1 (by rintro rfl; exact hq'.2.1 rfl)
  · rintro rfl; exact ⟨u, rfl⟩
theorem split_no {c : UInt8} : ∀ (s acc : Bs), c ∉ acc → ∀ x ∈ splitOn c acc s, c ∉ x
  | [], acc, ha, x, hx => by simp [splitOn] at hx; subst hx; exact ha
  | d :: s, acc, ha, x, hx => by
    rw [splitOn] at hx
    by_cases h : d = c
    · rw [if_pos h] at hx
      rcases List.mem_cons.1 hx with rfl | hx
      · exact ha
      · exact split_no s [] (by simp) x hx
    · rw [if_neg h] at hx
      exact split_no s _ (by simp [ha]; exact fun q => h q.symm) x hx
theorem ends_of {s a b c d z : Bs} (h : splitOn 63 [] s = [a, b, c, d, z]) : (([61, 63] : Bs) <+: s ↔ a = [61]) ∧ (([63, 61] : Bs) <:+ s ↔ z = [61]) := by
  have hn := split_no (c := 63) s [] (by simp)
  rw [h] at hn
  refine ⟨pre_of h (by simp) (hn a (by simp)), ?_⟩
  obtain ⟨x, q, h1, h2⟩ := join_split (c := 63) s []
  rw [h] at h1
  obtain ⟨rfl, rfl⟩ := List.cons.inj h1
  simp only [List.flatMap_cons, List.flatMap_nil, List.cons_append, List.nil_append, List.append_nil] at h2
  have e : s = (a ++ 63 :: (b ++ 63 :: (c ++ 63 :: d))) ++ 63 :: z := by rw [← h2]; simp
  rw [e]; exact suf_of (hn z (by simp))

theorem d6put_len {D D' : D6} {v p : Nat} (h : d6put D v p = some D') : D'.out.length ≤ D.out.length + 3 := by
  unfold d6put at h
  split at h
  · split at h
    · cases h
    · obtain rfl := Option.some.inj h; simp
  · obtain rfl := Option.some.inj h; simp
theorem d6one_len {D D' : D6} {c : UInt8} (h : d6one D c = some D') : D'.out.length ≤ D.out.length + 3 := by
  unfold d6one at h
  split at h
  · split at h
    · cases h
    · exact d6put_len h
  · split at h
    · cases h
    · split at h
      · cases h
      · exact d6put_len h
theorem dec6_len : ∀ (k : Nat) (l : Bs) (D : D6) (p : Bs), l.length ≤ k → dec6 D l = some p → p.length ≤ D.out.length + 3 * l.length := by
  intro k
  induction k with
  | zero =>
    intro l D p h hd
    have : l = [] := List.eq_nil_of_length_eq_zero (by omega)
    subst this
    rw [dec6] at hd; split at hd
    · obtain rfl := Option.some.inj hd; simp
    · cases hd
  | succ k ih =>
    intro l D p h hd
    match l with
    | [] =>
      rw [dec6] at hd; split at hd
      · obtain rfl := Option.some.inj hd; simp
      · cases hd
    | [c] =>
      rw [dec6] at hd
      split at hd
      · rename_i D' h1
        have := ih [] D' p (by simp) hd
        have := d6one_len h1
        simp at *; omega
      · cases hd
    | c :: d :: r =>
      rw [dec6] at hd
      split at hd
      · have := ih r D p (by simp at h; omega) hd
        simp; omega
      · split at hd
        · rename_i D' h1
          have := ih (d :: r) D' p (by simp at h ⊢; omega) hd
          have := d6one_len h1
          simp at *; omega
        · cases hd
theorem dec64_len {s p : Bs} (h : dec64 s = some p) : p.length ≤ 3 * s.length := by
  have := dec6_len s.length s _ p (Nat.le_refl _) h
  simpa using this
theorem shR_len : ∀ (f : Nat) (l p : Bs), shR f l = some p → p.length ≤ l.length := by
  intro f
  induction f with
  | zero => intro l p h; cases l with
    | nil => simp [shR] at h; simp [h]
    | cons c r => simp [shR] at h
  | succ f ih =>
    intro l p h
    match l with
    | [] => simp [shR] at h; simp [h]
    | c :: r =>
      rw [shR_cons] at h
      split at h
      · cases h
      · split at h
        · match r, h with
          | [], h => cases h
          | [a], h => cases h
          | a :: b :: r, h =>
            rw [pairR_two] at h
            split at h
            · cases hq : shR f r with
              | none => rw [hq] at h; cases h
              | some q =>
                rw [hq] at h
                obtain rfl := Option.some.inj h
                have := ih r q hq
                simp; omega
            · cases h
        · cases hq : shR f r with
          | none => rw [hq] at h; cases h
          | some q =>
            rw [hq] at h
            obtain rfl := Option.some.inj h
            have := ih r q hq
            simp; omega
theorem decT_len {how text p : Bs} (h : decT how text = some p) : p.length ≤ 3 * text.length := by
  unfold decT at h
  split at h
  · exact dec64_len h
  · split at h
    · have := shR_len _ _ _ h; omega
    · cases h

theorem W_cutW {A : AP} {a b : ACode} {Q : Ex → Env → St → Prop} (M : Env → St → Prop) (h1 : W A a e st (fun x e' s' => (x = .normal ∧ M e' s') ∨ (x = .ret ∧ Q .ret e' s'))) (h2 : ∀ e' s', M e' s' → W A b e' s' Q) : W A (.seq a b) e st Q := by
  rw [qaaz]
  refine W_mono h1 ?_
  rintro x e s (⟨rfl, h⟩ | ⟨rfl, h⟩)
  · exact h2 e s h
  · rw [qbaz]; exact h
theorem any_getD {p : Bs} {i : Nat} {q : UInt8 → Bool} (h : i < p.length) (hq : q (p.getD i 0) = true) : p.any q = true := by
  rw [List.any_eq_true]
  refine ⟨p.getD i 0, ?_, hq⟩
  simp [List.getD, h]
theorem any_none {p : Bs} {q : UInt8 → Bool} (h : ∀ i, i < p.length → q (p.getD i 0) = false) : p.any q = false := by
  rw [List.any_eq_false]
  intro x hx
  obtain ⟨i, hi, rfl⟩ := List.mem_iff_getElem.1 hx
  have := h i hi
  simp [List.getD, hi] at this
  simp [this]

set_option maxHeartbeats 8000000 in
theorem One_spec {s : Bs} (hl : s.length ≤ 1000000) : call prog (.fn 227 []) [.str s] st = some (.tup [.str (oneV s).1, .bool (oneV s).2], st) := by
  refine call_of_W prog_227 ?_
  unfold F_word_One; dsimp only
  obtain ⟨Q0, hQ0⟩ : ∃ Q0 : Ex → Env → St → Prop, Q0 = endQ st [.tmp 2, .tmp 3] (.tup [.str (oneV s).1, .bool (oneV s).2], st) := ⟨_, rfl⟩
  rw [← hQ0]
  have bad : ∀ (E2 : Env) (S2 : St), Kept st S2 → oneV s = ([], false) → E2 2 = .str [] → E2 3 = .bool false → Q0 .ret E2 S2 := fun E2 S2 k2 ht e2 e3 => by
    rw [hQ0, qblz, ht]
    exact retV2 e2 e3 rfl rfl k2 ⟨fun _ => rfl, fun _ _ => rfl⟩
  by_cases h75 : (75 : Int) < (s.length : Int)
  · simp (maxSteps := 1000000) (disch := omega) only [len_s, h75, qaaz, qabz, qacz, qadz, qaez, qafz, qagz, qahz, qaiz, qajz, qakz, qalz, qamz, qanz, evOp, qaoz, qapz, qaqz, qarz, qasz, qatz, qauz, qavz,
 ↓reduceIte, Nat.reduceEqDiff, List.nil_append, List.cons_append, List.append_nil, List.map_cons, List.map_nil, qawz, qaxz, qayz, Option.map_some, Option.map_none, qazz, qbaz, qbbz, qbcz, qbdz, qbez, qbfz, qbgz, qbhz, qbiz, qbjz, qbkz, qblz, qbmz, qbnz, qboz,
 qbpz, qbqz, qbrz, qbsz, qbtz, qbuz, qbvz, qbwz, qbxz, qbyz, qbzz, qcaz, qcbz, qccz, qcdz, qcez, qcfz, qcgz, qchz, qciz, beq_true, beq_false, Bool.not_eq_true', decide_eq_true_eq, decide_eq_false_iff_not, decide_true, decide_false,
 Int.toNat_natCast, Int.ofNat_lt, Int.ofNat_le, Int.natCast_inj, Bool.false_eq_true, Bool.true_eq_false, qcjz, List.getElem?_cons_zero, List.getElem?_cons_succ, qckz, Int.reduceToNat, Int.reduceLE, true_and, and_true, reduceCtorEq, or_false, false_or, or_true, Option.some.injEq, exists_eq_left', Bool.not_true, Bool.not_false, ne_eq, Int.reduceEq, not_true_eq_false, not_false_eq_true, Int.reduceLT, UInt8.reduceLT, UInt8.reduceLE, UInt8.reduceToNat]
    exact bad _ _ Kept.start (by unfold oneV; rw [if_pos (by omega)]) rfl rfl
  have h75' : ¬ 75 < s.length := by omega
  have hO : oneV s = (match splitOn 63 [] s with
    | [a, set, how, text, z] => if a = [61] ∧ z = [61] ∧ hasB s [32] = false then oneP set how text else ([], false)
    | _ => ([], false)) := by unfold oneV; rw [if_neg h75']
  have hlen := split_len (sep := 63) s []
  simp only [List.length_nil, Nat.zero_add] at hlen
  have p1 := fun S : St => sHasPrefix_spec (st := S) (a := s) (b := [61, 63])
  have p2 := fun S : St => HasSuffix_spec (st := S) (a := s) (b := [63, 61]) (by omega)
  have p3 := fun S : St => Split_spec (st := S) (l := s) (c := 63) (by omega)
  have p4 := fun S : St => Contains_spec (st := S) (a := s) (b := [32]) (by omega)
  have hends : ∀ a b c d z : Bs, splitOn 63 [] s = [a, b, c, d, z] → (([61, 63] : Bs) <+: s ↔ a = [61]) ∧ (([63, 61] : Bs) <:+ s ↔ z = [61]) := fun _ _ _ _ _ h => ends_of h
  generalize splitOn 63 [] s = L at hO hlen p3 hends
  have hv5 : (∃ a b c d z, L = [a, b, c, d, z]) ∨ L.length ≠ 5 := by
    match L with
    | [a, b, c, d, z] => exact .inl ⟨a, b, c, d, z, rfl⟩
    | [] => exact .inr (by simp)
    | [_] => exact .inr (by simp)
    | [_, _] => exact .inr (by simp)
    | [_, _, _] => exact .inr (by simp)
    | [_, _, _, _] => exact .inr (by simp)
    | _ :: _ :: _ :: _ :: _ :: _ :: _ => exact .inr (by simp)
  have hO5 : L.length ≠ 5 → oneV s = ([], false) := fun h => by
    rw [hO]; split
    · exact absurd rfl h
    · rfl
  by_cases hpre : ([61, 63] : Bs) <+: s
  rotate_left
  · have p1' : ∀ S : St, call prog (.fn 72 []) [.str s, .str [61, 63]] S = some (.bool false, S) := fun S => by rw [p1, decide_eq_false hpre]
    simp (maxSteps := 1000000) (disch := omega) only [len_s, h75, p1', qaaz, qabz, qacz, qadz, qaez, qafz, qagz, qahz, qaiz, qajz, qakz, qalz, qamz, qanz, evOp, qaoz, qapz, qaqz, qarz, qasz, qatz, qauz, qavz,
 ↓reduceIte, Nat.reduceEqDiff, List.nil_append, List.cons_append, List.append_nil, List.map_cons, List.map_nil, qawz, qaxz, qayz, Option.map_some, Option.map_none, qazz, qbaz, qbbz, qbcz, qbdz, qbez, qbfz, qbgz, qbhz, qbiz, qbjz, qbkz, qblz, qbmz, qbnz, qboz,
 qbpz, qbqz, qbrz, qbsz, qbtz, qbuz, qbvz, qbwz, qbxz, qbyz, qbzz, qcaz, qcbz, qccz, qcdz, qcez, qcfz, qcgz, qchz, qciz, beq_true, beq_false, Bool.not_eq_true', decide_eq_true_eq, decide_eq_false_iff_not, decide_true, decide_false,
 Int.toNat_natCast, Int.ofNat_lt, Int.ofNat_le, Int.natCast_inj, Bool.false_eq_true, Bool.true_eq_false, qcjz, List.getElem?_cons_zero, List.getElem?_cons_succ, qckz, Int.reduceToNat, Int.reduceLE, true_and, and_true, reduceCtorEq, or_false, false_or, or_true, Option.some.injEq, exists_eq_left', Bool.not_true, Bool.not_false, ne_eq, Int.reduceEq, not_true_eq_false, not_false_eq_true, Int.reduceLT, UInt8.reduceLT, UInt8.reduceLE, UInt8.reduceToNat]
    refine bad _ _ Kept.start ?_ rfl rfl
    rcases hv5 with ⟨a, b, c, d, z, rfl⟩ | h
    · rw [hO]; exact if_neg (fun q => hpre ((hends _ _ _ _ _ rfl).1.2 q.1))
    · exact hO5 h
  have p1' : ∀ S : St, call prog (.fn 72 []) [.str s, .str [61, 63]] S = some (.bool true, S) := fun S => by rw [p1, decide_eq_true hpre]
  by_cases hsuf : ([63, 61] : Bs) <:+ s
  rotate_left
  · have p2' : ∀ S : St, call prog (.fn 130 []) [.str s, .str [63, 61]] S = some (.bool false, S) := fun S => by rw [p2, decide_eq_false hsuf]
    simp (maxSteps := 1000000) (disch := omega) only [len_s, h75, p1', p2', qaaz, qabz, qacz, qadz, qaez, qafz, qagz, qahz, qaiz, qajz, qakz, qalz, qamz, qanz, evOp, qaoz, qapz, qaqz, qarz, qasz, qatz, qauz, qavz,
 ↓reduceIte, Nat.reduceEqDiff, List.nil_append, List.cons_append, List.append_nil, List.map_cons, List.map_nil, qawz, qaxz, qayz, Option.map_some, Option.map_none, qazz, qbaz, qbbz, qbcz, qbdz, qbez, qbfz, qbgz, qbhz, qbiz, qbjz, qbkz, qblz, qbmz, qbnz, qboz,
 qbpz, qbqz, qbrz, qbsz, qbtz, qbuz, qbvz, qbwz, qbxz, qbyz, qbzz, qcaz, qcbz, qccz, qcdz, qcez, qcfz, qcgz, qchz, qciz, beq_true, beq_false, Bool.not_eq_true', decide_eq_true_eq, decide_eq_false_iff_not, decide_true, decide_false,
 Int.toNat_natCast, Int.ofNat_lt, Int.ofNat_le, Int.natCast_inj, Bool.false_eq_true, Bool.true_eq_false, qcjz, List.getElem?_cons_zero, List.getElem?_cons_succ, qckz, Int.reduceToNat, Int.reduceLE, true_and, and_true, reduceCtorEq, or_false, false_or, or_true, Option.some.injEq, exists_eq_left', Bool.not_true, Bool.not_false, ne_eq, Int.reduceEq, not_true_eq_false, not_false_eq_true, Int.reduceLT, UInt8.reduceLT, UInt8.reduceLE, UInt8.reduceToNat]
    refine bad _ _ Kept.start ?_ rfl rfl
    rcases hv5 with ⟨a, b, c, d, z, rfl⟩ | h
    · rw [hO]; exact if_neg (fun q => hsuf ((hends _ _ _ _ _ rfl).2.2 q.2.1))
    · exact hO5 h
  have p2' : ∀ S : St, call prog (.fn 130 []) [.str s, .str [63, 61]] S = some (.bool true, S) := fun S => by rw [p2, decide_eq_true hsuf]
  clear p1 p2
  obtain ⟨v, hvv⟩ : ∃ v, v = PV.sl 1 .no (L.map .str) := ⟨_, rfl⟩
  have hvs : v.vs 1 = some (L.map .str) := by rw [hvv]; simp [PV.vs]
  have hln : lenPV false v = some (.int .i64 (L.length : Int)) := by rw [hvv]; simp [lenPV]
  rw [← hvv] at p3
  rcases hv5 with ⟨a, set, how, text, z, rfl⟩ | h5
  rotate_left
  · have h5' : ¬ (L.length : Int) = 5 := by omega
    simp (maxSteps := 1000000) (disch := omega) only [len_s, h75, p1', p2', p3, hln, h5', qaaz, qabz, qacz, qadz, qaez, qafz, qagz, qahz, qaiz, qajz, qakz, qalz, qamz, qanz, evOp, qaoz, qapz, qaqz, qarz, qasz, qatz, qauz, qavz,
 ↓reduceIte, Nat.reduceEqDiff, List.nil_append, List.cons_append, List.append_nil, List.map_cons, List.map_nil, qawz, qaxz, qayz, Option.map_some, Option.map_none, qazz, qbaz, qbbz, qbcz, qbdz, qbez, qbfz, qbgz, qbhz, qbiz, qbjz, qbkz, qblz, qbmz, qbnz, qboz,
 qbpz, qbqz, qbrz, qbsz, qbtz, qbuz, qbvz, qbwz, qbxz, qbyz, qbzz, qcaz, qcbz, qccz, qcdz, qcez, qcfz, qcgz, qchz, qciz, beq_true, beq_false, Bool.not_eq_true', decide_eq_true_eq, decide_eq_false_iff_not, decide_true, decide_false,
 Int.toNat_natCast, Int.ofNat_lt, Int.ofNat_le, Int.natCast_inj, Bool.false_eq_true, Bool.true_eq_false, qcjz, List.getElem?_cons_zero, List.getElem?_cons_succ, qckz, Int.reduceToNat, Int.reduceLE, true_and, and_true, reduceCtorEq, or_false, false_or, or_true, Option.some.injEq, exists_eq_left', Bool.not_true, Bool.not_false, ne_eq, Int.reduceEq, not_true_eq_false, not_false_eq_true, Int.reduceLT, UInt8.reduceLT, UInt8.reduceLE, UInt8.reduceToNat]
    exact bad _ _ Kept.start (hO5 h5) rfl rfl
  obtain ⟨ha, hz⟩ := hends _ _ _ _ _ rfl
  have ha := ha.1 hpre
  have hz := hz.1 hsuf
  have hln5 : lenPV false v = some (.int .i64 5) := hln
  cases hsp : hasB s [32] with
  | true =>
    rw [hsp] at p4 hO
    simp (maxSteps := 1000000) (disch := omega) only [len_s, h75, p1', p2', p3, hln5, p4, qaaz, qabz, qacz, qadz, qaez, qafz, qagz, qahz, qaiz, qajz, qakz, qalz, qamz, qanz, evOp, qaoz, qapz, qaqz, qarz, qasz, qatz, qauz, qavz,
 ↓reduceIte, Nat.reduceEqDiff, List.nil_append, List.cons_append, List.append_nil, List.map_cons, List.map_nil, qawz, qaxz, qayz, Option.map_some, Option.map_none, qazz, qbaz, qbbz, qbcz, qbdz, qbez, qbfz, qbgz, qbhz, qbiz, qbjz, qbkz, qblz, qbmz, qbnz, qboz,
 qbpz, qbqz, qbrz, qbsz, qbtz, qbuz, qbvz, qbwz, qbxz, qbyz, qbzz, qcaz, qcbz, qccz, qcdz, qcez, qcfz, qcgz, qchz, qciz, beq_true, beq_false, Bool.not_eq_true', decide_eq_true_eq, decide_eq_false_iff_not, decide_true, decide_false,
 Int.toNat_natCast, Int.ofNat_lt, Int.ofNat_le, Int.natCast_inj, Bool.false_eq_true, Bool.true_eq_false, qcjz, List.getElem?_cons_zero, List.getElem?_cons_succ, qckz, Int.reduceToNat, Int.reduceLE, true_and, and_true, reduceCtorEq, or_false, false_or, or_true, Option.some.injEq, exists_eq_left', Bool.not_true, Bool.not_false, ne_eq, Int.reduceEq, not_true_eq_false, not_false_eq_true, Int.reduceLT, UInt8.reduceLT, UInt8.reduceLE, UInt8.reduceToNat]
    exact bad _ _ Kept.start (by rw [hO]; exact if_neg (by simp)) rfl rfl
  | false =>
    rw [hsp] at p4 hO
    have hO2 : oneV s = oneP set how text := by rw [hO]; exact if_pos ⟨ha, hz, rfl⟩
    clear hO hO5 hends ha hz
    have l1 := hlen set (by simp); have l2 := hlen how (by simp); have l3 := hlen text (by simp)
    have i1 : iaddrPV 1 v (.int .i64 1) = some (.cp [.str set]) := iaddr_t hvs (by omega) (by simp)
    have i2 : iaddrPV 1 v (.int .i64 2) = some (.cp [.str how]) := iaddr_t hvs (by omega) (by simp)
    have i3 : iaddrPV 1 v (.int .i64 3) = some (.cp [.str text]) := iaddr_t hvs (by omega) (by simp)
    have w1 := fun S : St => wlower_spec (st := S) (s := set) (by omega)
    have w2 := fun S : St => wlower_spec (st := S) (s := how) (by omega)
    simp (maxSteps := 1000000) (disch := omega) only [len_s, h75, p1', p2', p3, p4, hln5, i1, i2, i3, lc1, w1, w2, qaaz, qabz, qacz, qaez, qafz, qagz, qahz, qaiz, qajz, qakz, qalz, qamz, qanz, evOp, qaoz, qapz, qaqz, qarz, qasz, qatz, qauz, qavz,
 ↓reduceIte, Nat.reduceEqDiff, List.nil_append, List.cons_append, List.append_nil, List.map_cons, List.map_nil, qawz, qaxz, qayz, Option.map_some, Option.map_none, qazz, qbaz, qbbz, qbcz, qbdz, qbez, qbfz, qbgz, qbhz, qbiz, qbjz, qbkz, qblz, qbmz, qbnz, qboz,
 qbpz, qbqz, qbrz, qbsz, qbtz, qbuz, qbvz, qbwz, qbxz, qbyz, qbzz, qcaz, qcbz, qccz, qcdz, qcez, qcfz, qcgz, qchz, qciz, beq_true, beq_false, Bool.not_eq_true', decide_eq_true_eq, decide_eq_false_iff_not, decide_true, decide_false,
 Int.toNat_natCast, Int.ofNat_lt, Int.ofNat_le, Int.natCast_inj, Bool.false_eq_true, Bool.true_eq_false, qcjz, List.getElem?_cons_zero, List.getElem?_cons_succ, qckz, Int.reduceToNat, Int.reduceLE, true_and, and_true, reduceCtorEq, or_false, false_or, or_true, Option.some.injEq, exists_eq_left', Bool.not_true, Bool.not_false, ne_eq, Int.reduceEq, not_true_eq_false, not_false_eq_true, Int.reduceLT, UInt8.reduceLT, UInt8.reduceLE, UInt8.reduceToNat]
    refine W_mono (Q := fun x E S => x = .normal ∧ Kept st S ∧ E 5 = .str (lowOf set) ∧ ∃ q b, E 8 = .str q ∧ E 9 = .bool b ∧ (match decT how text with | none => b = false | some p => q = p ∧ b = true)) ?_ ?_
    · rw [qadz]
      by_cases c1 : lowOf how = [98]
      · obtain ⟨⟨r1, s1⟩, d1, y, f0, f1, hr1, hs1, hm⟩ := bDecode_spec (st := ⟨st.boxes, st.toks, st.loops, st.boxes.length⟩) (s := text) (by omega)
        simp only at hr1 hs1
        rw [hr1] at d1
        obtain ⟨T, rfl⟩ : ∃ T, s1 = ⟨st.boxes, st.toks ++ T, st.loops, st.boxes.length⟩ := by
          rcases hs1 with rfl | rfl
          · exact ⟨[], by simp⟩
          · exact ⟨[true], rfl⟩
        have hst : ∀ T : List Bool, storePV ⟨st.boxes ++ [[.int .i64 0, .int .i64 0]], T, st.loops, st.boxes.length⟩ 2 (.ptr st.boxes.length 0) (.agg [.int .i64 f0, .int .i64 f1]) = some ⟨st.boxes ++ [[.int .i64 f0, .int .i64 f1]], T, st.loops, st.boxes.length⟩ := fun T => flt_store rfl
        have hld : ∀ T : List Bool, loadPV ⟨st.boxes ++ [[.int .i64 f0, .int .i64 f1]], T, st.loops, st.boxes.length⟩ false 1 (.ptr st.boxes.length 1) = some (.int .i64 f1) := fun T => by simp [loadPV, readCells]
        have hfa : faddrPV 1 (.ptr st.boxes.length 0) = some (.ptr st.boxes.length 1) := rfl
        have hdT : decT how text = dec64 text := by unfold decT; rw [if_pos c1]
        rw [hdT]
        obtain ⟨q, hy⟩ : ∃ q, y.by = some q := by
          cases hd : dec64 text with
          | none => rw [hd] at hm; exact hm.2
          | some p => rw [hd] at hm; exact ⟨p, hm.2⟩
        simp (maxSteps := 1000000) (disch := omega) only [eq_true c1, d1, allocPV, hst, hld, hfa, b2s_by hy, qaaz, qabz, qacz, qadz, qaez, qafz, qagz, qahz, qaiz, qajz, qakz, qalz, qamz, qanz, evOp, qaoz, qapz, qaqz, qarz, qasz, qatz, qauz, qavz,
 ↓reduceIte, Nat.reduceEqDiff, List.nil_append, List.cons_append, List.append_nil, List.map_cons, List.map_nil, qawz, qaxz, qayz, Option.map_some, Option.map_none, qazz, qbaz, qbbz, qbcz, qbdz, qbez, qbfz, qbgz, qbhz, qbiz, qbjz, qbkz, qblz, qbmz, qbnz, qboz,
 qbpz, qbqz, qbrz, qbsz, qbtz, qbuz, qbvz, qbwz, qbxz, qbyz, qbzz, qcaz, qcbz, qccz, qcdz, qcez, qcfz, qcgz, qchz, qciz, beq_true, beq_false, Bool.not_eq_true', decide_eq_true_eq, decide_eq_false_iff_not, decide_true, decide_false,
 Int.toNat_natCast, Int.ofNat_lt, Int.ofNat_le, Int.natCast_inj, Bool.false_eq_true, Bool.true_eq_false, qcjz, List.getElem?_cons_zero, List.getElem?_cons_succ, qckz, Int.reduceToNat, Int.reduceLE, true_and, and_true, reduceCtorEq, or_false, false_or, or_true, Option.some.injEq, exists_eq_left', Bool.not_true, Bool.not_false, ne_eq, Int.reduceEq, not_true_eq_false, not_false_eq_true, Int.reduceLT, UInt8.reduceLT, UInt8.reduceLE, UInt8.reduceToNat]
        refine ⟨⟨by simp, rfl, Nat.le_refl _, by simp⟩, q, decide (f1 = 0), rfl, rfl, ?_⟩
        cases hd : dec64 text with
        | none => rw [hd] at hm; simpa using hm.1
        | some p => rw [hd, hy] at hm; simp only [hm.1]; exact ⟨Option.some.inj hm.2, by simp⟩
      · by_cases c2 : lowOf how = [113]
        · have hdT : decT how text = shV text := by unfold decT; rw [if_neg c1, if_pos c2]
          rw [hdT]
          have hsh := fun S : St => short_spec (st := S) (l := text) (by omega)
          simp (maxSteps := 1000000) (disch := omega) only [c1, eq_true c2, hsh, qaaz, qabz, qacz, qadz, qaez, qafz, qagz, qahz, qaiz, qajz, qakz, qalz, qamz, qanz, evOp, qaoz, qapz, qaqz, qarz, qasz, qatz, qauz, qavz,
 ↓reduceIte, Nat.reduceEqDiff, List.nil_append, List.cons_append, List.append_nil, List.map_cons, List.map_nil, qawz, qaxz, qayz, Option.map_some, Option.map_none, qazz, qbaz, qbbz, qbcz, qbdz, qbez, qbfz, qbgz, qbhz, qbiz, qbjz, qbkz, qblz, qbmz, qbnz, qboz,
 qbpz, qbqz, qbrz, qbsz, qbtz, qbuz, qbvz, qbwz, qbxz, qbyz, qbzz, qcaz, qcbz, qccz, qcdz, qcez, qcfz, qcgz, qchz, qciz, beq_true, beq_false, Bool.not_eq_true', decide_eq_true_eq, decide_eq_false_iff_not, decide_true, decide_false,
 Int.toNat_natCast, Int.ofNat_lt, Int.ofNat_le, Int.natCast_inj, Bool.false_eq_true, Bool.true_eq_false, qcjz, List.getElem?_cons_zero, List.getElem?_cons_succ, qckz, Int.reduceToNat, Int.reduceLE, true_and, and_true, reduceCtorEq, or_false, false_or, or_true, Option.some.injEq, exists_eq_left', Bool.not_true, Bool.not_false, ne_eq, Int.reduceEq, not_true_eq_false, not_false_eq_true, Int.reduceLT, UInt8.reduceLT, UInt8.reduceLE, UInt8.reduceToNat]
          refine ⟨Kept.start, _, _, rfl, rfl, ?_⟩
          cases shV text with
          | none => rfl
          | some p => exact ⟨rfl, rfl⟩
        · have hdT : decT how text = none := by unfold decT; rw [if_neg c1, if_neg c2]
          rw [hdT]
          simp (maxSteps := 1000000) (disch := omega) only [c1, c2, qaaz, qabz, qacz, qadz, qaez, qafz, qagz, qahz, qaiz, qajz, qakz, qalz, qamz, qanz, evOp, qaoz, qapz, qaqz, qarz, qasz, qatz, qauz, qavz,
 ↓reduceIte, Nat.reduceEqDiff, List.nil_append, List.cons_append, List.append_nil, List.map_cons, List.map_nil, qawz, qaxz, qayz, Option.map_some, Option.map_none, qazz, qbaz, qbbz, qbcz, qbdz, qbez, qbfz, qbgz, qbhz, qbiz, qbjz, qbkz, qblz, qbmz, qbnz, qboz,
 qbpz, qbqz, qbrz, qbsz, qbtz, qbuz, qbvz, qbwz, qbxz, qbyz, qbzz, qcaz, qcbz, qccz, qcdz, qcez, qcfz, qcgz, qchz, qciz, beq_true, beq_false, Bool.not_eq_true', decide_eq_true_eq, decide_eq_false_iff_not, decide_true, decide_false,
 Int.toNat_natCast, Int.ofNat_lt, Int.ofNat_le, Int.natCast_inj, Bool.false_eq_true, Bool.true_eq_false, qcjz, List.getElem?_cons_zero, List.getElem?_cons_succ, qckz, Int.reduceToNat, Int.reduceLE, true_and, and_true, reduceCtorEq, or_false, false_or, or_true, Option.some.injEq, exists_eq_left', Bool.not_true, Bool.not_false, ne_eq, Int.reduceEq, not_true_eq_false, not_false_eq_true, Int.reduceLT, UInt8.reduceLT, UInt8.reduceLE, UInt8.reduceToNat]
          exact ⟨Kept.start, _, _, rfl, rfl, rfl⟩
    · rintro x E S ⟨rfl, hk, h5, q, b, h8, h9, hq⟩
      have hdl : ∀ p, decT how text = some p → p.length ≤ 3 * text.length := fun p h => decT_len h
      have hP : oneV s = (match decT how text with | none => ([], false) | some p => if okT set p = true then (p, true) else ([], false)) := hO2
      generalize decT how text = dt at hq hdl hP
      cases dt with
      | none =>
        have hb : b = false := hq
        rw [hb] at h9
        simp (maxSteps := 1000000) (disch := omega) only [h5, h8, h9, qaaz, qabz, qacz, qadz, qaez, qafz, qagz, qahz, qaiz, qajz, qakz, qalz, qamz, qanz, evOp, qaoz, qapz, qaqz, qarz, qasz, qatz, qauz, qavz,
 ↓reduceIte, Nat.reduceEqDiff, List.nil_append, List.cons_append, List.append_nil, List.map_cons, List.map_nil, qawz, qaxz, qayz, Option.map_some, Option.map_none, qazz, qbaz, qbbz, qbcz, qbdz, qbez, qbfz, qbgz, qbhz, qbiz, qbjz, qbkz, qblz, qbmz, qbnz, qboz,
 qbpz, qbqz, qbrz, qbsz, qbtz, qbuz, qbvz, qbwz, qbxz, qbyz, qbzz, qcaz, qcbz, qccz, qcdz, qcez, qcfz, qcgz, qchz, qciz, beq_true, beq_false, Bool.not_eq_true', decide_eq_true_eq, decide_eq_false_iff_not, decide_true, decide_false,
 Int.toNat_natCast, Int.ofNat_lt, Int.ofNat_le, Int.natCast_inj, Bool.false_eq_true, Bool.true_eq_false, qcjz, List.getElem?_cons_zero, List.getElem?_cons_succ, qckz, Int.reduceToNat, Int.reduceLE, true_and, and_true, reduceCtorEq, or_false, false_or, or_true, Option.some.injEq, exists_eq_left', Bool.not_true, Bool.not_false, ne_eq, Int.reduceEq, not_true_eq_false, not_false_eq_true, Int.reduceLT, UInt8.reduceLT, UInt8.reduceLE, UInt8.reduceToNat]
        exact bad _ _ hk hP rfl rfl
      | some p =>
        obtain ⟨rfl, hb⟩ := hq
        rw [hb] at h9
        have hpl := hdl q rfl
        have hP : oneV s = if okT set q = true then (q, true) else ([], false) := hP
        have hval : ∀ S : St, ∀ t : Tok, call prog (.fn 53 []) [.bys t q] S = some (.bool (validOf q), S) := fun S t => uValid_spec qcgz (by omega)
        obtain ⟨L, hL⟩ : ∃ L, L = lowOf set := ⟨_, rfl⟩
        rw [← hL] at h5
        have hok : okT set q = ((decide (L = utf8T) || decide (L = asciiT)) && validOf q && !(decide (L = asciiT) && q.any fun c => decide (127 < c))) := by unfold okT; rw [← hL]
        have hu8 : (L = ([117, 116, 102, 45, 56] : Bs)) = (L = utf8T) := rfl
        have huA : (L = ([117, 115, 45, 97, 115, 99, 105, 105] : Bs)) = (L = asciiT) := rfl
        have no : okT set q = false → oneV s = ([], false) := fun h => by rw [hP, if_neg (by rw [h]; decide)]
        by_cases hset : L = utf8T ∨ L = asciiT
        rotate_left
        · have c1 : ¬ L = utf8T := fun h => hset (.inl h)
          have c2 : ¬ L = asciiT := fun h => hset (.inr h)
          simp (maxSteps := 1000000) (disch := omega) only [h5, h8, h9, hu8, huA, c1, c2, qaaz, qabz, qacz, qadz, qaez, qafz, qagz, qahz, qaiz, qajz, qakz, qalz, qamz, qanz, evOp, qaoz, qapz, qaqz, qarz, qasz, qatz, qauz, qavz,
 ↓reduceIte, Nat.reduceEqDiff, List.nil_append, List.cons_append, List.append_nil, List.map_cons, List.map_nil, qawz, qaxz, qayz, Option.map_some, Option.map_none, qazz, qbaz, qbbz, qbcz, qbdz, qbez, qbfz, qbgz, qbhz, qbiz, qbjz, qbkz, qblz, qbmz, qbnz, qboz,
 qbpz, qbqz, qbrz, qbsz, qbtz, qbuz, qbvz, qbwz, qbxz, qbyz, qbzz, qcaz, qcbz, qccz, qcdz, qcez, qcfz, qcgz, qchz, qciz, beq_true, beq_false, Bool.not_eq_true', decide_eq_true_eq, decide_eq_false_iff_not, decide_true, decide_false,
 Int.toNat_natCast, Int.ofNat_lt, Int.ofNat_le, Int.natCast_inj, Bool.false_eq_true, Bool.true_eq_false, qcjz, List.getElem?_cons_zero, List.getElem?_cons_succ, qckz, Int.reduceToNat, Int.reduceLE, true_and, and_true, reduceCtorEq, or_false, false_or, or_true, Option.some.injEq, exists_eq_left', Bool.not_true, Bool.not_false, ne_eq, Int.reduceEq, not_true_eq_false, not_false_eq_true, Int.reduceLT, UInt8.reduceLT, UInt8.reduceLE, UInt8.reduceToNat]
          exact bad _ _ hk (no (by rw [hok]; simp [c1, c2])) rfl rfl
        have hne : utf8T ≠ asciiT := by decide
        obtain ⟨J, hJ⟩ : ∃ J : Env → St → Prop, J = fun E S => Kept st S ∧ E 5 = .str L ∧ E 8 = .str q ∧ validOf q = true := ⟨_, rfl⟩
        refine W_cutW J ?_ ?_
        · cases hv : validOf q with
          | false =>
            rw [hv] at hval
            have hno := no (by rw [hok, hv]; simp)
            rcases hset with c1 | c1
            · simp (maxSteps := 1000000) (disch := omega) only [h5, h8, h9, hu8, huA, eq_true c1, freshT, hval, qaaz, qabz, qacz, qadz, qaez, qafz, qagz, qahz, qaiz, qajz, qakz, qalz, qamz, qanz, evOp, qaoz, qapz, qaqz, qarz, qasz, qatz, qauz, qavz,
 ↓reduceIte, Nat.reduceEqDiff, List.nil_append, List.cons_append, List.append_nil, List.map_cons, List.map_nil, qawz, qaxz, qayz, Option.map_some, Option.map_none, qazz, qbaz, qbbz, qbcz, qbdz, qbez, qbfz, qbgz, qbhz, qbiz, qbjz, qbkz, qblz, qbmz, qbnz, qboz,
 qbpz, qbqz, qbrz, qbsz, qbtz, qbuz, qbvz, qbwz, qbxz, qbyz, qbzz, qcaz, qcbz, qccz, qcdz, qcez, qcfz, qcgz, qchz, qciz, beq_true, beq_false, Bool.not_eq_true', decide_eq_true_eq, decide_eq_false_iff_not, decide_true, decide_false,
 Int.toNat_natCast, Int.ofNat_lt, Int.ofNat_le, Int.natCast_inj, Bool.false_eq_true, Bool.true_eq_false, qcjz, List.getElem?_cons_zero, List.getElem?_cons_succ, qckz, Int.reduceToNat, Int.reduceLE, true_and, and_true, reduceCtorEq, or_false, false_or, or_true, Option.some.injEq, exists_eq_left', Bool.not_true, Bool.not_false, ne_eq, Int.reduceEq, not_true_eq_false, not_false_eq_true, Int.reduceLT, UInt8.reduceLT, UInt8.reduceLE, UInt8.reduceToNat]
              exact .inr (bad _ _ hk.tok1 hno rfl rfl)
            · have c2 : ¬ L = utf8T := fun h => hne (h.symm.trans c1)
              simp (maxSteps := 1000000) (disch := omega) only [h5, h8, h9, hu8, huA, c2, eq_true c1, freshT, hval, qaaz, qabz, qacz, qadz, qaez, qafz, qagz, qahz, qaiz, qajz, qakz, qalz, qamz, qanz, evOp, qaoz, qapz, qaqz, qarz, qasz, qatz, qauz, qavz,
 ↓reduceIte, Nat.reduceEqDiff, List.nil_append, List.cons_append, List.append_nil, List.map_cons, List.map_nil, qawz, qaxz, qayz, Option.map_some, Option.map_none, qazz, qbaz, qbbz, qbcz, qbdz, qbez, qbfz, qbgz, qbhz, qbiz, qbjz, qbkz, qblz, qbmz, qbnz, qboz,
 qbpz, qbqz, qbrz, qbsz, qbtz, qbuz, qbvz, qbwz, qbxz, qbyz, qbzz, qcaz, qcbz, qccz, qcdz, qcez, qcfz, qcgz, qchz, qciz, beq_true, beq_false, Bool.not_eq_true', decide_eq_true_eq, decide_eq_false_iff_not, decide_true, decide_false,
 Int.toNat_natCast, Int.ofNat_lt, Int.ofNat_le, Int.natCast_inj, Bool.false_eq_true, Bool.true_eq_false, qcjz, List.getElem?_cons_zero, List.getElem?_cons_succ, qckz, Int.reduceToNat, Int.reduceLE, true_and, and_true, reduceCtorEq, or_false, false_or, or_true, Option.some.injEq, exists_eq_left', Bool.not_true, Bool.not_false, ne_eq, Int.reduceEq, not_true_eq_false, not_false_eq_true, Int.reduceLT, UInt8.reduceLT, UInt8.reduceLE, UInt8.reduceToNat]
              exact .inr (bad _ _ hk.tok1 hno rfl rfl)
          | true =>
            rw [hv] at hval hJ
            rcases hset with c1 | c1
            · simp (maxSteps := 1000000) (disch := omega) only [h5, h8, h9, hu8, huA, eq_true c1, freshT, hval, qaaz, qabz, qacz, qadz, qaez, qafz, qagz, qahz, qaiz, qajz, qakz, qalz, qamz, qanz, evOp, qaoz, qapz, qaqz, qarz, qasz, qatz, qauz, qavz,
 ↓reduceIte, Nat.reduceEqDiff, List.nil_append, List.cons_append, List.append_nil, List.map_cons, List.map_nil, qawz, qaxz, qayz, Option.map_some, Option.map_none, qazz, qbaz, qbbz, qbcz, qbdz, qbez, qbfz, qbgz, qbhz, qbiz, qbjz, qbkz, qblz, qbmz, qbnz, qboz,
 qbpz, qbqz, qbrz, qbsz, qbtz, qbuz, qbvz, qbwz, qbxz, qbyz, qbzz, qcaz, qcbz, qccz, qcdz, qcez, qcfz, qcgz, qchz, qciz, beq_true, beq_false, Bool.not_eq_true', decide_eq_true_eq, decide_eq_false_iff_not, decide_true, decide_false,
 Int.toNat_natCast, Int.ofNat_lt, Int.ofNat_le, Int.natCast_inj, Bool.false_eq_true, Bool.true_eq_false, qcjz, List.getElem?_cons_zero, List.getElem?_cons_succ, qckz, Int.reduceToNat, Int.reduceLE, true_and, and_true, reduceCtorEq, or_false, false_or, or_true, Option.some.injEq, exists_eq_left', Bool.not_true, Bool.not_false, ne_eq, Int.reduceEq, not_true_eq_false, not_false_eq_true, Int.reduceLT, UInt8.reduceLT, UInt8.reduceLE, UInt8.reduceToNat]
              rw [hJ]; exact .inl ⟨hk.tok1, h5, h8, rfl⟩
            · have c2 : ¬ L = utf8T := fun h => hne (h.symm.trans c1)
              simp (maxSteps := 1000000) (disch := omega) only [h5, h8, h9, hu8, huA, c2, eq_true c1, freshT, hval, qaaz, qabz, qacz, qadz, qaez, qafz, qagz, qahz, qaiz, qajz, qakz, qalz, qamz, qanz, evOp, qaoz, qapz, qaqz, qarz, qasz, qatz, qauz, qavz,
 ↓reduceIte, Nat.reduceEqDiff, List.nil_append, List.cons_append, List.append_nil, List.map_cons, List.map_nil, qawz, qaxz, qayz, Option.map_some, Option.map_none, qazz, qbaz, qbbz, qbcz, qbdz, qbez, qbfz, qbgz, qbhz, qbiz, qbjz, qbkz, qblz, qbmz, qbnz, qboz,
 qbpz, qbqz, qbrz, qbsz, qbtz, qbuz, qbvz, qbwz, qbxz, qbyz, qbzz, qcaz, qcbz, qccz, qcdz, qcez, qcfz, qcgz, qchz, qciz, beq_true, beq_false, Bool.not_eq_true', decide_eq_true_eq, decide_eq_false_iff_not, decide_true, decide_false,
 Int.toNat_natCast, Int.ofNat_lt, Int.ofNat_le, Int.natCast_inj, Bool.false_eq_true, Bool.true_eq_false, qcjz, List.getElem?_cons_zero, List.getElem?_cons_succ, qckz, Int.reduceToNat, Int.reduceLE, true_and, and_true, reduceCtorEq, or_false, false_or, or_true, Option.some.injEq, exists_eq_left', Bool.not_true, Bool.not_false, ne_eq, Int.reduceEq, not_true_eq_false, not_false_eq_true, Int.reduceLT, UInt8.reduceLT, UInt8.reduceLE, UInt8.reduceToNat]
              rw [hJ]; exact .inl ⟨hk.tok1, h5, h8, rfl⟩
        · clear h5 h8 h9 hk
          intro E S hj
          rw [hJ] at hj
          obtain ⟨hk, h5, h8, hv⟩ := hj
          have hokL : okT set q = !(decide (L = asciiT) && q.any fun c => decide (127 < c)) := by
            rw [hok, hv]
            rcases hset with c1 | c1 <;> simp [c1]
          simp (maxSteps := 1000000) (disch := omega) only [h5, h8, len_s, qaaz, qabz, qacz, qadz, qaez, qafz, qagz, qahz, qaiz, qajz, qakz, qalz, qamz, qanz, evOp, qaoz, qapz, qaqz, qarz, qasz, qatz, qauz, qavz,
 ↓reduceIte, Nat.reduceEqDiff, List.nil_append, List.cons_append, List.append_nil, List.map_cons, List.map_nil, qawz, qaxz, qayz, Option.map_some, Option.map_none, qazz, qbaz, qbbz, qbcz, qbdz, qbez, qbfz, qbgz, qbhz, qbiz, qbjz, qbkz, qblz, qbmz, qbnz, qboz,
 qbpz, qbqz, qbrz, qbsz, qbtz, qbuz, qbvz, qbwz, qbxz, qbyz, qbzz, qcaz, qcbz, qccz, qcdz, qcez, qcfz, qcgz, qchz, qciz, beq_true, beq_false, Bool.not_eq_true', decide_eq_true_eq, decide_eq_false_iff_not, decide_true, decide_false,
 Int.toNat_natCast, Int.ofNat_lt, Int.ofNat_le, Int.natCast_inj, Bool.false_eq_true, Bool.true_eq_false, qcjz, List.getElem?_cons_zero, List.getElem?_cons_succ, qckz, Int.reduceToNat, Int.reduceLE, true_and, and_true, reduceCtorEq, or_false, false_or, or_true, Option.some.injEq, exists_eq_left', Bool.not_true, Bool.not_false, ne_eq, Int.reduceEq, not_true_eq_false, not_false_eq_true, Int.reduceLT, UInt8.reduceLT, UInt8.reduceLE, UInt8.reduceToNat]
          obtain ⟨I, hI⟩ : ∃ I : Nat → Env → St → Prop, I = fun k E S => ∃ i : Nat, k = q.length - i ∧ i ≤ q.length ∧ Kept st S ∧ (L = asciiT → ∀ j, j < i → decide (127 < q.getD j 0) = false) ∧ E 5 = .str L ∧ E 8 = .str q ∧ E 83 = .int .i64 (q.length : Int) ∧ E 84 = .int .i64 (i : Int) := ⟨_, rfl⟩
          refine W_loop I ?_ (n := q.length) (by
            rw [hI]
            exact ⟨0, rfl, by omega, hk, fun _ j h => by omega, h5, h8, rfl, rfl⟩)
          intro k E S hh
          rw [hI] at hh
          obtain ⟨i, rfl, hi, hk, hall, g5, g8, g83, g84⟩ := hh
          have next : ∀ E2 : Env, (L = asciiT → decide (127 < q.getD i 0) = false) → i < q.length → E2 5 = .str L → E2 8 = .str q → E2 83 = .int .i64 (q.length : Int) → E2 84 = .int .i64 ((i + 1 : Nat) : Int) → ∃ m, m < q.length - i ∧ I m E2 S := fun E2 hc hlt e5 e8 e83 e84 => by
            refine ⟨q.length - (i + 1), by omega, ?_⟩
            rw [hI]
            refine ⟨i + 1, rfl, by omega, hk, fun h j hj => ?_, e5, e8, e83, e84⟩
            by_cases hji : j = i
            · subst hji; exact hc h
            · exact hall h j (by omega)
          by_cases hlt : i < q.length
          · by_cases c1 : L = asciiT
            · obtain ⟨c, hc⟩ : ∃ c, c = q.getD i 0 := ⟨_, rfl⟩
              by_cases c2 : 127 < c
              · simp (maxSteps := 1000000) (disch := omega) only [g5, g8, g83, g84, hlt, huA, eq_true c1, idx_s, ← hc, c2, qaaz, qabz, qacz, qadz, qaez, qafz, qagz, qahz, qaiz, qajz, qakz, qalz, qamz, qanz, evOp, qaoz, qapz, qaqz, qarz, qasz, qatz, qauz, qavz,
 ↓reduceIte, Nat.reduceEqDiff, List.nil_append, List.cons_append, List.append_nil, List.map_cons, List.map_nil, qawz, qaxz, qayz, Option.map_some, Option.map_none, qazz, qbaz, qbbz, qbcz, qbdz, qbez, qbfz, qbgz, qbhz, qbiz, qbjz, qbkz, qblz, qbmz, qbnz, qboz,
 qbpz, qbqz, qbrz, qbsz, qbtz, qbuz, qbvz, qbwz, qbxz, qbyz, qbzz, qcaz, qcbz, qccz, qcdz, qcez, qcfz, qcgz, qchz, qciz, beq_true, beq_false, Bool.not_eq_true', decide_eq_true_eq, decide_eq_false_iff_not, decide_true, decide_false,
 Int.toNat_natCast, Int.ofNat_lt, Int.ofNat_le, Int.natCast_inj, Bool.false_eq_true, Bool.true_eq_false, qcjz, List.getElem?_cons_zero, List.getElem?_cons_succ, qckz, Int.reduceToNat, Int.reduceLE, true_and, and_true, reduceCtorEq, or_false, false_or, or_true, Option.some.injEq, exists_eq_left', Bool.not_true, Bool.not_false, ne_eq, Int.reduceEq, not_true_eq_false, not_false_eq_true, Int.reduceLT, UInt8.reduceLT, UInt8.reduceLE, UInt8.reduceToNat]
                refine bad _ _ hk (no ?_) rfl rfl
                rw [hokL, any_getD hlt (by rw [← hc]; simpa using c2)]; simp [c1]
              · simp (maxSteps := 1000000) (disch := omega) only [g5, g8, g83, g84, hlt, huA, eq_true c1, idx_s, ← hc, c2, add_n, loopQ_normal, qaaz, qabz, qacz, qadz, qaez, qafz, qagz, qahz, qaiz, qajz, qakz, qalz, qamz, qanz, evOp, qaoz, qapz, qaqz, qarz, qasz, qatz, qauz, qavz,
 ↓reduceIte, Nat.reduceEqDiff, List.nil_append, List.cons_append, List.append_nil, List.map_cons, List.map_nil, qawz, qaxz, qayz, Option.map_some, Option.map_none, qazz, qbaz, qbbz, qbcz, qbdz, qbez, qbfz, qbgz, qbhz, qbiz, qbjz, qbkz, qblz, qbmz, qbnz, qboz,
 qbpz, qbqz, qbrz, qbsz, qbtz, qbuz, qbvz, qbwz, qbxz, qbyz, qbzz, qcaz, qcbz, qccz, qcdz, qcez, qcfz, qcgz, qchz, qciz, beq_true, beq_false, Bool.not_eq_true', decide_eq_true_eq, decide_eq_false_iff_not, decide_true, decide_false,
 Int.toNat_natCast, Int.ofNat_lt, Int.ofNat_le, Int.natCast_inj, Bool.false_eq_true, Bool.true_eq_false, qcjz, List.getElem?_cons_zero, List.getElem?_cons_succ, qckz, Int.reduceToNat, Int.reduceLE, true_and, and_true, reduceCtorEq, or_false, false_or, or_true, Option.some.injEq, exists_eq_left', Bool.not_true, Bool.not_false, ne_eq, Int.reduceEq, not_true_eq_false, not_false_eq_true, Int.reduceLT, UInt8.reduceLT, UInt8.reduceLE, UInt8.reduceToNat]
                exact next _ (fun _ => by rw [← hc]; simpa using c2) hlt g5 g8 g83 rfl
            · simp (maxSteps := 1000000) (disch := omega) only [g5, g8, g83, g84, hlt, huA, c1, add_n, loopQ_normal, qaaz, qabz, qacz, qadz, qaez, qafz, qagz, qahz, qaiz, qajz, qakz, qalz, qamz, qanz, evOp, qaoz, qapz, qaqz, qarz, qasz, qatz, qauz, qavz,
 ↓reduceIte, Nat.reduceEqDiff, List.nil_append, List.cons_append, List.append_nil, List.map_cons, List.map_nil, qawz, qaxz, qayz, Option.map_some, Option.map_none, qazz, qbaz, qbbz, qbcz, qbdz, qbez, qbfz, qbgz, qbhz, qbiz, qbjz, qbkz, qblz, qbmz, qbnz, qboz,
 qbpz, qbqz, qbrz, qbsz, qbtz, qbuz, qbvz, qbwz, qbxz, qbyz, qbzz, qcaz, qcbz, qccz, qcdz, qcez, qcfz, qcgz, qchz, qciz, beq_true, beq_false, Bool.not_eq_true', decide_eq_true_eq, decide_eq_false_iff_not, decide_true, decide_false,
 Int.toNat_natCast, Int.ofNat_lt, Int.ofNat_le, Int.natCast_inj, Bool.false_eq_true, Bool.true_eq_false, qcjz, List.getElem?_cons_zero, List.getElem?_cons_succ, qckz, Int.reduceToNat, Int.reduceLE, true_and, and_true, reduceCtorEq, or_false, false_or, or_true, Option.some.injEq, exists_eq_left', Bool.not_true, Bool.not_false, ne_eq, Int.reduceEq, not_true_eq_false, not_false_eq_true, Int.reduceLT, UInt8.reduceLT, UInt8.reduceLE, UInt8.reduceToNat]
              exact next _ (fun h => absurd h c1) hlt g5 g8 g83 rfl
          · simp (maxSteps := 1000000) (disch := omega) only [g5, g8, g83, g84, hlt, qaaz, qabz, qacz, qadz, qaez, qafz, qagz, qahz, qaiz, qajz, qakz, qalz, qamz, qanz, evOp, qaoz, qapz, qaqz, qarz, qasz, qatz, qauz, qavz,
 ↓reduceIte, Nat.reduceEqDiff, List.nil_append, List.cons_append, List.append_nil, List.map_cons, List.map_nil, qawz, qaxz, qayz, Option.map_some, Option.map_none, qazz, qbaz, qbbz, qbcz, qbdz, qbez, qbfz, qbgz, qbhz, qbiz, qbjz, qbkz, qblz, qbmz, qbnz, qboz,
 qbpz, qbqz, qbrz, qbsz, qbtz, qbuz, qbvz, qbwz, qbxz, qbyz, qbzz, qcaz, qcbz, qccz, qcdz, qcez, qcfz, qcgz, qchz, qciz, beq_true, beq_false, Bool.not_eq_true', decide_eq_true_eq, decide_eq_false_iff_not, decide_true, decide_false,
 Int.toNat_natCast, Int.ofNat_lt, Int.ofNat_le, Int.natCast_inj, Bool.false_eq_true, Bool.true_eq_false, qcjz, List.getElem?_cons_zero, List.getElem?_cons_succ, qckz, Int.reduceToNat, Int.reduceLE, true_and, and_true, reduceCtorEq, or_false, false_or, or_true, Option.some.injEq, exists_eq_left', Bool.not_true, Bool.not_false, ne_eq, Int.reduceEq, not_true_eq_false, not_false_eq_true, Int.reduceLT, UInt8.reduceLT, UInt8.reduceLE, UInt8.reduceToNat]
            rw [hQ0, qblz, hP, if_pos]
            · exact retV2 rfl rfl rfl rfl hk ⟨fun _ => rfl, fun _ _ => rfl⟩
            · rw [hokL]
              by_cases c1 : L = asciiT
              · rw [any_none fun j hj => hall c1 j (by omega)]; simp
              · simp [c1]
end Go.Ab

/-
  The document's reader of signs: what it calls.
-/
namespace Go.Ab
set_option linter.unusedVariables false
set_option linter.unusedSimpArgs false
set_option maxRecDepth 20000
variable {st s : St} {e : Env}

/-! ### A sign's number -/
theorem sg_of {c : UInt8} {v : Nat} (h : sgI c = some v) : sg v = c := by
  have := all8 (p := fun c => match sgI c with | some v => sg v == c | none => true) (by kernel_rfl) c
  rw [h] at this; simpa using this
def sgN (c : UInt8) : Int := match sgI c with | some v => (v : Int) | none => -1
set_option maxHeartbeats 2000000 in
theorem sValue_spec {c : UInt8} : call prog (.fn 253 []) [.b8 c] st = some (.int .i64 (sgN c), st) := by
  refine call_of_W prog_253 ?_
  unfold F_posthornref01_Value; dsimp only
  simp (maxSteps := 1000000) (disch := omega) only [qaaz, qabz, qacz, qadz, qaez, qafz, qagz, qahz, qaiz, qajz, qakz, qalz, qamz, qanz, evOp, qaoz, qapz, qaqz, qarz, qasz, qatz, qauz, qavz,
 ↓reduceIte, Nat.reduceEqDiff, List.nil_append, List.cons_append, List.append_nil, List.map_cons, List.map_nil, qawz, qaxz, qayz, Option.map_some, Option.map_none, qazz, qbaz, qbbz, qbcz, qbdz, qbez, qbfz, qbgz, qbhz, qbiz, qbjz, qbkz, qblz, qbmz, qbnz, qboz,
 qbpz, qbqz, qbrz, qbsz, qbtz, qbuz, qbvz, qbwz, qbxz, qbyz, qbzz, qcaz, qcbz, qccz, qcdz, qcez, qcfz, qcgz, qchz, qciz, beq_true, beq_false, Bool.not_eq_true', decide_eq_true_eq, decide_eq_false_iff_not, decide_true, decide_false,
 Int.toNat_natCast, Int.ofNat_lt, Int.ofNat_le, Int.natCast_inj, Bool.false_eq_true, Bool.true_eq_false, qcjz, List.getElem?_cons_zero, List.getElem?_cons_succ, qckz, Int.reduceToNat, Int.reduceLE, true_and, and_true, reduceCtorEq, or_false, false_or, or_true, Option.some.injEq, exists_eq_left', Bool.not_true, Bool.not_false, ne_eq, Int.reduceEq, not_true_eq_false, not_false_eq_true, Int.reduceLT, UInt8.reduceLT, UInt8.reduceLE, UInt8.reduceToNat]
  obtain ⟨Q0, hQ0⟩ : ∃ Q0 : Ex → Env → St → Prop, Q0 = endQ st [.tmp 2] (.int .i64 (sgN c), st) := ⟨_, rfl⟩
  rw [← hQ0]
  obtain ⟨I, hI⟩ : ∃ I : Nat → Env → St → Prop, I = fun k E S => ∃ i : Nat, k = 64 - i ∧ i ≤ 64 ∧ S = (⟨st.boxes, st.toks, st.loops, st.boxes.length⟩ : St) ∧ (∀ j, j < i → sg j ≠ c) ∧ E 0 = .b8 c ∧ E 3 = .int .i64 (i : Int) := ⟨_, rfl⟩
  refine W_loop I ?_ (n := 64) (by
    rw [hI]; exact ⟨0, rfl, by omega, rfl, fun j h => by omega, rfl, rfl⟩)
  intro k E S hh
  rw [hI] at hh
  obtain ⟨i, rfl, hi, rfl, hall, h0, h3⟩ := hh
  by_cases hlt : i < 64
  · have hlt' : (i : Int) < 64 := by omega
    have hsg := fun S : St => rSign_spec (st := S) (v := i) hlt
    by_cases hc : sg i = c
    · simp (maxSteps := 1000000) (disch := omega) only [h0, h3, hlt', hsg, eq_true hc, qaaz, qabz, qacz, qadz, qaez, qafz, qagz, qahz, qaiz, qajz, qakz, qalz, qamz, qanz, evOp, qaoz, qapz, qaqz, qarz, qasz, qatz, qauz, qavz,
 ↓reduceIte, Nat.reduceEqDiff, List.nil_append, List.cons_append, List.append_nil, List.map_cons, List.map_nil, qawz, qaxz, qayz, Option.map_some, Option.map_none, qazz, qbaz, qbbz, qbcz, qbdz, qbez, qbfz, qbgz, qbhz, qbiz, qbjz, qbkz, qblz, qbmz, qbnz, qboz,
 qbpz, qbqz, qbrz, qbsz, qbtz, qbuz, qbvz, qbwz, qbxz, qbyz, qbzz, qcaz, qcbz, qccz, qcdz, qcez, qcfz, qcgz, qchz, qciz, beq_true, beq_false, Bool.not_eq_true', decide_eq_true_eq, decide_eq_false_iff_not, decide_true, decide_false,
 Int.toNat_natCast, Int.ofNat_lt, Int.ofNat_le, Int.natCast_inj, Bool.false_eq_true, Bool.true_eq_false, qcjz, List.getElem?_cons_zero, List.getElem?_cons_succ, qckz, Int.reduceToNat, Int.reduceLE, true_and, and_true, reduceCtorEq, or_false, false_or, or_true, Option.some.injEq, exists_eq_left', Bool.not_true, Bool.not_false, ne_eq, Int.reduceEq, not_true_eq_false, not_false_eq_true, Int.reduceLT, UInt8.reduceLT, UInt8.reduceLE, UInt8.reduceToNat]
      rw [hQ0, qblz]
      exact retI rfl Kept.start (by rw [← hc]; simp [sgN, (b6_facts hlt).1])
    · simp (maxSteps := 1000000) (disch := omega) only [h0, h3, hlt', hsg, hc, add_n, loopQ_normal, qaaz, qabz, qacz, qadz, qaez, qafz, qagz, qahz, qaiz, qajz, qakz, qalz, qamz, qanz, evOp, qaoz, qapz, qaqz, qarz, qasz, qatz, qauz, qavz,
 ↓reduceIte, Nat.reduceEqDiff, List.nil_append, List.cons_append, List.append_nil, List.map_cons, List.map_nil, qawz, qaxz, qayz, Option.map_some, Option.map_none, qazz, qbaz, qbbz, qbcz, qbdz, qbez, qbfz, qbgz, qbhz, qbiz, qbjz, qbkz, qblz, qbmz, qbnz, qboz,
 qbpz, qbqz, qbrz, qbsz, qbtz, qbuz, qbvz, qbwz, qbxz, qbyz, qbzz, qcaz, qcbz, qccz, qcdz, qcez, qcfz, qcgz, qchz, qciz, beq_true, beq_false, Bool.not_eq_true', decide_eq_true_eq, decide_eq_false_iff_not, decide_true, decide_false,
 Int.toNat_natCast, Int.ofNat_lt, Int.ofNat_le, Int.natCast_inj, Bool.false_eq_true, Bool.true_eq_false, qcjz, List.getElem?_cons_zero, List.getElem?_cons_succ, qckz, Int.reduceToNat, Int.reduceLE, true_and, and_true, reduceCtorEq, or_false, false_or, or_true, Option.some.injEq, exists_eq_left', Bool.not_true, Bool.not_false, ne_eq, Int.reduceEq, not_true_eq_false, not_false_eq_true, Int.reduceLT, UInt8.reduceLT, UInt8.reduceLE, UInt8.reduceToNat]
      refine ⟨64 - (i + 1), by omega, ?_⟩
      rw [hI]
      refine ⟨i + 1, rfl, by omega, rfl, fun j hj => ?_, h0, rfl⟩
      by_cases hji : j = i
      · subst hji; exact hc
      · exact hall j (by omega)
  · have hlt' : ¬ (i : Int) < 64 := by omega
    simp (maxSteps := 1000000) (disch := omega) only [h0, h3, hlt', qaaz, qabz, qacz, qadz, qaez, qafz, qagz, qahz, qaiz, qajz, qakz, qalz, qamz, qanz, evOp, qaoz, qapz, qaqz, qarz, qasz, qatz, qauz, qavz,
 ↓reduceIte, Nat.reduceEqDiff, List.nil_append, List.cons_append, List.append_nil, List.map_cons, List.map_nil, qawz, qaxz, qayz, Option.map_some, Option.map_none, qazz, qbaz, qbbz, qbcz, qbdz, qbez, qbfz, qbgz, qbhz, qbiz, qbjz, qbkz, qblz, qbmz, qbnz, qboz,
 qbpz, qbqz, qbrz, qbsz, qbtz, qbuz, qbvz, qbwz, qbxz, qbyz, qbzz, qcaz, qcbz, qccz, qcdz, qcez, qcfz, qcgz, qchz, qciz, beq_true, beq_false, Bool.not_eq_true', decide_eq_true_eq, decide_eq_false_iff_not, decide_true, decide_false,
 Int.toNat_natCast, Int.ofNat_lt, Int.ofNat_le, Int.natCast_inj, Bool.false_eq_true, Bool.true_eq_false, qcjz, List.getElem?_cons_zero, List.getElem?_cons_succ, qckz, Int.reduceToNat, Int.reduceLE, true_and, and_true, reduceCtorEq, or_false, false_or, or_true, Option.some.injEq, exists_eq_left', Bool.not_true, Bool.not_false, ne_eq, Int.reduceEq, not_true_eq_false, not_false_eq_true, Int.reduceLT, UInt8.reduceLT, UInt8.reduceLE, UInt8.reduceToNat]
    rw [hQ0, qblz]
    have hn : sgI c = none := by
      cases hs : sgI c with
      | none => rfl
      | some v => exact absurd (sg_of hs) (hall v (by have := sgI_lt hs; omega))
    exact retI rfl Kept.start (by simp [sgN, hn])

/-! ### What is left over -/
def tailB (d : List Nat) : Bool := (d.drop (8 * (d.length / 8))).any fun x => decide (0 < x)
set_option maxHeartbeats 2000000 in
theorem rtail_spec {v : PV} {d : List Nat} (hv : v.vs 1 = some (d.map iV)) (hl : d.length ≤ 100000000) : call prog (.fn 254 []) [v] st = some (.bool (tailB d), st) := by
  refine call_of_W prog_254 ?_
  unfold F_posthornref01_tail; dsimp only
  have hlv : lenPV false v = some (.int .i64 (d.length : Int)) := by rw [len_vs hv, List.length_map]
  have hq : binPV .quo .no (.int .i64 (d.length : Int)) (.int .i64 8) = some (.int .i64 ((d.length / 8 : Nat) : Int)) := quo_n (c := 8) (by omega) (by omega)
  have hm : binPV .mul .no (.int .i64 ((d.length / 8 : Nat) : Int)) (.int .i64 8) = some (.int .i64 ((d.length / 8 * 8 : Nat) : Int)) := mul_n (a := 8) (by omega)
  simp (maxSteps := 1000000) (disch := omega) only [hlv, hq, hm, qaaz, qabz, qacz, qadz, qaez, qafz, qagz, qahz, qaiz, qajz, qakz, qalz, qamz, qanz, evOp, qaoz, qapz, qaqz, qarz, qasz, qatz, qauz, qavz,
 ↓reduceIte, Nat.reduceEqDiff, List.nil_append, List.cons_append, List.append_nil, List.map_cons, List.map_nil, qawz, qaxz, qayz, Option.map_some, Option.map_none, qazz, qbaz, qbbz, qbcz, qbdz, qbez, qbfz, qbgz, qbhz, qbiz, qbjz, qbkz, qblz, qbmz, qbnz, qboz,
 qbpz, qbqz, qbrz, qbsz, qbtz, qbuz, qbvz, qbwz, qbxz, qbyz, qbzz, qcaz, qcbz, qccz, qcdz, qcez, qcfz, qcgz, qchz, qciz, beq_true, beq_false, Bool.not_eq_true', decide_eq_true_eq, decide_eq_false_iff_not, decide_true, decide_false,
 Int.toNat_natCast, Int.ofNat_lt, Int.ofNat_le, Int.natCast_inj, Bool.false_eq_true, Bool.true_eq_false, qcjz, List.getElem?_cons_zero, List.getElem?_cons_succ, qckz, Int.reduceToNat, Int.reduceLE, true_and, and_true, reduceCtorEq, or_false, false_or, or_true, Option.some.injEq, exists_eq_left', Bool.not_true, Bool.not_false, ne_eq, Int.reduceEq, not_true_eq_false, not_false_eq_true, Int.reduceLT, UInt8.reduceLT, UInt8.reduceLE, UInt8.reduceToNat]
  obtain ⟨Q0, hQ0⟩ : ∃ Q0 : Ex → Env → St → Prop, Q0 = endQ st [.tmp 2] (.bool (tailB d), st) := ⟨_, rfl⟩
  rw [← hQ0]
  obtain ⟨I, hI⟩ : ∃ I : Nat → Env → St → Prop, I = fun k E S => ∃ i : Nat, k = d.length - i ∧ i ≤ d.length ∧ S = (⟨st.boxes, st.toks, st.loops, st.boxes.length⟩ : St) ∧ tailB d = ((d.drop i).any fun x => decide (0 < x)) ∧ E 0 = v ∧ E 3 = .int .i64 (i : Int) := ⟨_, rfl⟩
  refine W_loop I ?_ (n := d.length - d.length / 8 * 8) (by
    rw [hI]; exact ⟨d.length / 8 * 8, rfl, by omega, rfl, by unfold tailB; rw [Nat.mul_comm], rfl, rfl⟩)
  intro k E S hh
  rw [hI] at hh
  obtain ⟨i, rfl, hi, rfl, hT, h0, h3⟩ := hh
  by_cases hlt : i < d.length
  · obtain ⟨x, hx⟩ : ∃ x, x = d.getD i 0 := ⟨_, rfl⟩
    have hia : iaddrPV 1 v (.int .i64 (i : Int)) = some (.cp [.int .i64 (x : Int)]) := by
      rw [iaddr_vs hv (by omega) (by simpa using hlt), hx]
      simp [List.getD, hlt, iV, PV.cells]
    have hd : d.drop i = x :: d.drop (i + 1) := by rw [List.drop_eq_getElem_cons hlt, hx]; simp [List.getD, hlt]
    rw [hd, List.any_cons] at hT
    by_cases hc : 0 < x
    · have hc' : (0 : Int) < (x : Int) := by omega
      simp (maxSteps := 1000000) (disch := omega) only [h0, h3, hlv, hlt, hia, hc', qaaz, qabz, qacz, qadz, qaez, qafz, qagz, qahz, qaiz, qajz, qakz, qalz, qamz, qanz, evOp, qaoz, qapz, qaqz, qarz, qasz, qatz, qauz, qavz,
 ↓reduceIte, Nat.reduceEqDiff, List.nil_append, List.cons_append, List.append_nil, List.map_cons, List.map_nil, qawz, qaxz, qayz, Option.map_some, Option.map_none, qazz, qbaz, qbbz, qbcz, qbdz, qbez, qbfz, qbgz, qbhz, qbiz, qbjz, qbkz, qblz, qbmz, qbnz, qboz,
 qbpz, qbqz, qbrz, qbsz, qbtz, qbuz, qbvz, qbwz, qbxz, qbyz, qbzz, qcaz, qcbz, qccz, qcdz, qcez, qcfz, qcgz, qchz, qciz, beq_true, beq_false, Bool.not_eq_true', decide_eq_true_eq, decide_eq_false_iff_not, decide_true, decide_false,
 Int.toNat_natCast, Int.ofNat_lt, Int.ofNat_le, Int.natCast_inj, Bool.false_eq_true, Bool.true_eq_false, qcjz, List.getElem?_cons_zero, List.getElem?_cons_succ, qckz, Int.reduceToNat, Int.reduceLE, true_and, and_true, reduceCtorEq, or_false, false_or, or_true, Option.some.injEq, exists_eq_left', Bool.not_true, Bool.not_false, ne_eq, Int.reduceEq, not_true_eq_false, not_false_eq_true, Int.reduceLT, UInt8.reduceLT, UInt8.reduceLE, UInt8.reduceToNat]
      rw [hQ0, qblz, hT]
      exact retB rfl Kept.start (by simp [hc])
    · have hc' : ¬ (0 : Int) < (x : Int) := by omega
      simp (maxSteps := 1000000) (disch := omega) only [h0, h3, hlv, hlt, hia, hc', add_n, loopQ_normal, qaaz, qabz, qacz, qadz, qaez, qafz, qagz, qahz, qaiz, qajz, qakz, qalz, qamz, qanz, evOp, qaoz, qapz, qaqz, qarz, qasz, qatz, qauz, qavz,
 ↓reduceIte, Nat.reduceEqDiff, List.nil_append, List.cons_append, List.append_nil, List.map_cons, List.map_nil, qawz, qaxz, qayz, Option.map_some, Option.map_none, qazz, qbaz, qbbz, qbcz, qbdz, qbez, qbfz, qbgz, qbhz, qbiz, qbjz, qbkz, qblz, qbmz, qbnz, qboz,
 qbpz, qbqz, qbrz, qbsz, qbtz, qbuz, qbvz, qbwz, qbxz, qbyz, qbzz, qcaz, qcbz, qccz, qcdz, qcez, qcfz, qcgz, qchz, qciz, beq_true, beq_false, Bool.not_eq_true', decide_eq_true_eq, decide_eq_false_iff_not, decide_true, decide_false,
 Int.toNat_natCast, Int.ofNat_lt, Int.ofNat_le, Int.natCast_inj, Bool.false_eq_true, Bool.true_eq_false, qcjz, List.getElem?_cons_zero, List.getElem?_cons_succ, qckz, Int.reduceToNat, Int.reduceLE, true_and, and_true, reduceCtorEq, or_false, false_or, or_true, Option.some.injEq, exists_eq_left', Bool.not_true, Bool.not_false, ne_eq, Int.reduceEq, not_true_eq_false, not_false_eq_true, Int.reduceLT, UInt8.reduceLT, UInt8.reduceLE, UInt8.reduceToNat]
      refine ⟨d.length - (i + 1), by omega, ?_⟩
      rw [hI]
      exact ⟨i + 1, rfl, by omega, rfl, by rw [hT]; simp [hc], h0, rfl⟩
  · simp (maxSteps := 1000000) (disch := omega) only [h0, h3, hlv, hlt, qaaz, qabz, qacz, qadz, qaez, qafz, qagz, qahz, qaiz, qajz, qakz, qalz, qamz, qanz, evOp, qaoz, qapz, qaqz, qarz, qasz, qatz, qauz, qavz,
 ↓reduceIte, Nat.reduceEqDiff, List.nil_append, List.cons_append, List.append_nil, List.map_cons, List.map_nil, qawz, qaxz, qayz, Option.map_some, Option.map_none, qazz, qbaz, qbbz, qbcz, qbdz, qbez, qbfz, qbgz, qbhz, qbiz, qbjz, qbkz, qblz, qbmz, qbnz, qboz,
 qbpz, qbqz, qbrz, qbsz, qbtz, qbuz, qbvz, qbwz, qbxz, qbyz, qbzz, qcaz, qcbz, qccz, qcdz, qcez, qcfz, qcgz, qchz, qciz, beq_true, beq_false, Bool.not_eq_true', decide_eq_true_eq, decide_eq_false_iff_not, decide_true, decide_false,
 Int.toNat_natCast, Int.ofNat_lt, Int.ofNat_le, Int.natCast_inj, Bool.false_eq_true, Bool.true_eq_false, qcjz, List.getElem?_cons_zero, List.getElem?_cons_succ, qckz, Int.reduceToNat, Int.reduceLE, true_and, and_true, reduceCtorEq, or_false, false_or, or_true, Option.some.injEq, exists_eq_left', Bool.not_true, Bool.not_false, ne_eq, Int.reduceEq, not_true_eq_false, not_false_eq_true, Int.reduceLT, UInt8.reduceLT, UInt8.reduceLE, UInt8.reduceToNat]
    rw [hQ0, qblz, hT, List.drop_of_length_le (by omega)]
    exact retB rfl Kept.start rfl

/-! ### Lines' ends are left out -/
def bareL : Bs → Bs
  | [] => []
  | [c] => [c]
  | c :: d :: r => if c = 13 ∧ d = 10 then bareL r else c :: bareL (d :: r)
termination_by l => l.length
theorem bareL_cons {c : UInt8} {r : Bs} (h : ¬ (c = 13 ∧ r.getD 0 0 = 10 ∧ r ≠ [])) : bareL (c :: r) = c :: bareL r := by
  cases r with
  | nil => simp [bareL]
  | cons d r => rw [bareL, if_neg (fun q => h ⟨q.1, q.2, by simp⟩)]
def dec7 : D6 → Bs → Option Bs
  | s, [] => if s.n % 4 = 0 then some s.out else none
  | s, c :: r => match d6one s c with
    | some s' => dec7 s' r
    | none => none
theorem dec6_bare : ∀ (k : Nat) (l : Bs) (D : D6), l.length ≤ k → dec6 D l = dec7 D (bareL l) := by
  intro k
  induction k with
  | zero =>
    intro l D h
    have : l = [] := List.eq_nil_of_length_eq_zero (by omega)
    subst this; rw [dec6, bareL, dec7]
  | succ k ih =>
    intro l D h
    match l with
    | [] => rw [dec6, bareL, dec7]
    | [c] =>
      rw [dec6, bareL, dec7]
      cases d6one D c with
      | none => rfl
      | some D' => show dec6 D' [] = dec7 D' []; rw [dec6, dec7]
    | c :: d :: r =>
      rw [dec6, bareL]
      by_cases hc : c = 13 ∧ d = 10
      · rw [if_pos hc, if_pos hc]; exact ih r D (by simp at h; omega)
      · rw [if_neg hc, if_neg hc, dec7]
        cases d6one D c with
        | none => rfl
        | some D' => exact ih (d :: r) D' (by simp at h ⊢; omega)

theorem Own.stay {esz : Nat} {u w : PV} {xs : List PV} (h : Own st s esz u xs) (hd : ∀ i j, tokOf w = some i → tokOf u = some j → i ≠ j) : Own st (appS s w) esz u xs := by
  rcases h with h | ⟨j, rfl, h2, h3⟩
  · exact .inl h
  · refine .inr ⟨j, rfl, h2, ?_⟩
    have hlt := (List.getElem?_eq_some_iff.1 h3).1
    unfold appS; split
    · rename_i i _
      show (s.toks.set i false ++ [true])[j]? = some true
      rw [List.getElem?_append_left (by simpa using hlt), List.getElem?_set_ne (hd i j rfl rfl)]; exact h3
    · rename_i i _
      show (s.toks.set i false ++ [true])[j]? = some true
      rw [List.getElem?_append_left (by simpa using hlt), List.getElem?_set_ne (hd i j rfl rfl)]; exact h3
    · show (s.toks ++ [true])[j]? = some true
      rw [List.getElem?_append_left hlt]; exact h3
theorem OwnB.stay {u w : PV} {l : Bs} (h : OwnB st s u l) (hd : ∀ i j, tokOf w = some i → tokOf u = some j → i ≠ j) : OwnB st (appS s w) u l := by
  rcases h with h | ⟨j, rfl, h2, h3⟩
  · exact .inl h
  · refine .inr ⟨j, rfl, h2, ?_⟩
    have hlt := (List.getElem?_eq_some_iff.1 h3).1
    unfold appS; split
    · rename_i i _
      show (s.toks.set i false ++ [true])[j]? = some true
      rw [List.getElem?_append_left (by simpa using hlt), List.getElem?_set_ne (hd i j rfl rfl)]; exact h3
    · rename_i i _
      show (s.toks.set i false ++ [true])[j]? = some true
      rw [List.getElem?_append_left (by simpa using hlt), List.getElem?_set_ne (hd i j rfl rfl)]; exact h3
    · show (s.toks ++ [true])[j]? = some true
      rw [List.getElem?_append_left hlt]; exact h3
theorem Own.lt {esz : Nat} {u : PV} {xs : List PV} (h : Own st s esz u xs) {j : Nat} (hj : tokOf u = some j) : j < s.toks.length := by
  rcases h with ⟨rfl, _⟩ | ⟨i, rfl, _, h3⟩
  · cases hj
  · simp only [tokOf, Option.some.injEq] at hj; subst hj; exact (List.getElem?_eq_some_iff.1 h3).1

def bareOK (st : St) (s : Bs) (r : PV × St) : Prop := ∃ (y z : PV) (T : List Bool) (ats : List Nat), r.1 = .tup [y, z] ∧ r.2 = ⟨st.boxes, st.toks ++ T, st.loops, st.low⟩ ∧ y.by = some (bareL s) ∧ z.vs 1 = some (ats.map iV) ∧ ats.length = (bareL s).length ∧ (bareL s).length ≤ s.length

theorem bare_leave {S : St} {y z : PV} {l : Bs} {xs : List PV} (hg : Grew st S) (hy : OwnB st S y l) (hz : Own st S 1 z xs) (hd : ∀ i j, tokOf y = some i → tokOf z = some j → i ≠ j) :
    ∃ y' z' T, leave st S (.tup [y, z]) = (.tup [y', z'], ⟨st.boxes, st.toks ++ T, st.loops, st.low⟩) ∧ y'.by = some l ∧ z'.vs 1 = some xs := by
  obtain ⟨hb, hl, hw, ht⟩ := hg
  rcases hy with ⟨rfl, rfl⟩ | ⟨i, rfl, hi1, hi2⟩
  · rcases hz with ⟨rfl, rfl⟩ | ⟨j, rfl, hj1, hj2⟩
    · refine ⟨.nils, .nils, [], ?_, rfl, rfl⟩
      simp [leave, PV.inB, PV.inB.inBAll, hw, hb, hl, ht, keepRes, keepVals, keepVal, keepLeaf]
    · refine ⟨.nils, .sl 1 (.own st.toks.length) xs, [true], ?_, rfl, by simp [PV.vs]⟩
      simp [leave, PV.inB, PV.inB.inBAll, hw, hb, hl, ht, keepRes, keepVals, keepVal, keepLeaf, keepTok, hj2, show ¬ j < st.toks.length by omega]
  · rcases hz with ⟨rfl, rfl⟩ | ⟨j, rfl, hj1, hj2⟩
    · refine ⟨.bys (.own st.toks.length) l, .nils, [true], ?_, rfl, rfl⟩
      simp [leave, PV.inB, PV.inB.inBAll, hw, hb, hl, ht, keepRes, keepVals, keepVal, keepLeaf, keepTok, hi2, show ¬ i < st.toks.length by omega]
    · have hij := hd i j rfl rfl
      refine ⟨.bys (.own st.toks.length) l, .sl 1 (.own (st.toks.length + 1)) xs, [true, true], ?_, rfl, by simp [PV.vs]⟩
      simp [leave, PV.inB, PV.inB.inBAll, hw, hb, hl, ht, keepRes, keepVals, keepVal, keepLeaf, keepTok, hi2, hj2, show ¬ i < st.toks.length by omega, show ¬ j < st.toks.length by omega, Ne.symm hij]

set_option maxHeartbeats 4000000 in
theorem rBare_spec {s : Bs} (hl : s.length ≤ 1000000) : ∃ r, call prog (.fn 252 []) [.str s] st = some r ∧ bareOK st s r := by
  refine call_ex prog_252 ?_
  unfold F_posthornref01_Bare; dsimp only
  obtain ⟨Q0, hQ0⟩ : ∃ Q0 : Ex → Env → St → Prop, Q0 = endX st [.tmp 2, .tmp 3] (bareOK st s) := ⟨_, rfl⟩
  rw [← hQ0]
  have hroom : room = 68719476736 := rfl
  simp (maxSteps := 1000000) (disch := omega) only [qaaz, qabz, qacz, qadz, qaez, qafz, qagz, qahz, qaiz, qajz, qakz, qalz, qamz, qanz, evOp, qaoz, qapz, qaqz, qarz, qasz, qatz, qauz, qavz,
 ↓reduceIte, Nat.reduceEqDiff, List.nil_append, List.cons_append, List.append_nil, List.map_cons, List.map_nil, qawz, qaxz, qayz, Option.map_some, Option.map_none, qazz, qbaz, qbbz, qbcz, qbdz, qbez, qbfz, qbgz, qbhz, qbiz, qbjz, qbkz, qblz, qbmz, qbnz, qboz,
 qbpz, qbqz, qbrz, qbsz, qbtz, qbuz, qbvz, qbwz, qbxz, qbyz, qbzz, qcaz, qcbz, qccz, qcdz, qcez, qcfz, qcgz, qchz, qciz, beq_true, beq_false, Bool.not_eq_true', decide_eq_true_eq, decide_eq_false_iff_not, decide_true, decide_false,
 Int.toNat_natCast, Int.ofNat_lt, Int.ofNat_le, Int.natCast_inj, Bool.false_eq_true, Bool.true_eq_false, qcjz, List.getElem?_cons_zero, List.getElem?_cons_succ, qckz, Int.reduceToNat, Int.reduceLE, true_and, and_true, reduceCtorEq, or_false, false_or, or_true, Option.some.injEq, exists_eq_left', Bool.not_true, Bool.not_false, ne_eq, Int.reduceEq, not_true_eq_false, not_false_eq_true, Int.reduceLT, UInt8.reduceLT, UInt8.reduceLE, UInt8.reduceToNat]
  obtain ⟨I, hI⟩ : ∃ I : Nat → Env → St → Prop, I = fun k E S => ∃ (i : Nat) (acc : Bs) (ats : List Nat) (w u : PV), k = s.length - i ∧ i ≤ s.length ∧ Grew st S ∧ OwnB st S w acc ∧ Own st S 1 u (ats.map iV) ∧ (∀ i j, tokOf w = some i → tokOf u = some j → i ≠ j) ∧ ats.length = acc.length ∧ acc.length ≤ i ∧ bareL s = acc ++ bareL (s.drop i) ∧ E 0 = .str s ∧ E 4 = w ∧ E 5 = u ∧ E 6 = .int .i64 (i : Int) := ⟨_, rfl⟩
  refine W_loop I ?_ (n := s.length) (by
    rw [hI]; exact ⟨0, [], [], .nils, .nils, rfl, by omega, Grew.start, .inl ⟨rfl, rfl⟩, .inl ⟨rfl, rfl⟩, (fun i j h => by cases h), rfl, by simp, rfl, rfl, rfl, rfl, rfl⟩)
  intro k E S hh
  rw [hI] at hh
  obtain ⟨i, acc, ats, w, u, rfl, hi, hg, hw, hu, hd, hal, hai, hT, h0, h4, h5, h6⟩ := hh
  by_cases hlt : i < s.length
  · obtain ⟨c, hc⟩ : ∃ c, c = s.getD i 0 := ⟨_, rfl⟩
    have hdr : s.drop i = c :: s.drop (i + 1) := by rw [drop1 hlt, ← hc]
    have push : ¬ (c = 13 ∧ i + 1 < s.length ∧ s.getD (i + 1) 0 = 10) → bareL s = acc ++ c :: bareL (s.drop (i + 1)) := fun h => by
      rw [hT, hdr, bareL_cons]
      rintro ⟨q1, q2, q3⟩
      have : i + 1 < s.length := by
        rcases Nat.lt_or_ge (i + 1) s.length with q | q
        · exact q
        · exact absurd (List.drop_of_length_le q) q3
      exact h ⟨q1, this, by rw [drop1 this] at q2; simpa using q2⟩
    obtain ⟨S2, hS2⟩ : ∃ S2, S2 = appS S.tok1 w := ⟨_, rfl⟩
    obtain ⟨S3, hS3⟩ : ∃ S3, S3 = appS S2.tok1 u := ⟨_, rfl⟩
    have a1 : app8 S.tok1 w (.bys (.own S.toks.length) [c]) = some (.bys (.own S.tok1.toks.length) (acc ++ [c]), S2) := by
      rw [hS2]; exact app8_own hw.tok1 rfl (by simp) (by simp; omega)
    obtain ⟨g2, o2⟩ := OwnB.app (m := acc ++ [c]) hg.tok1 hw.tok1
    have u2 : Own st S2 1 u (ats.map iV) := by rw [hS2]; exact hu.tok1.stay hd
    rw [← hS2] at g2 o2
    have a2 : ∀ n : Nat, appV 1 S2.tok1 u (.sl 1 (.own S2.toks.length) [iV n]) = some (.sl 1 (.own S2.tok1.toks.length) (ats.map iV ++ [iV n]), S3) := fun n => by
      rw [hS3]; exact appV_own u2.tok1 (by simp; omega)
    obtain ⟨g3, o3⟩ := Own.app (ys := ats.map iV ++ [iV i]) g2.tok1 u2.tok1
    have o2' := o2.tok1.stay (w := u) (fun a b ha hb => by
      have h1 := hu.lt ha
      have h2 : S.tok1.toks.length = b := by simpa [tokOf] using hb
      have h3 : S.tok1.toks.length = S.toks.length + 1 := by simp [St.tok1]
      omega)
    rw [← hS3] at g3 o3 o2'
    have hne : ∀ a b, tokOf (.bys (.own S.tok1.toks.length) (acc ++ [c])) = some a → tokOf (.sl 1 (.own S2.tok1.toks.length) (ats.map iV ++ [iV i])) = some b → a ≠ b := fun a b ha hb => by
      have h2 : S.tok1.toks.length = a := by simpa [tokOf] using ha
      have h3 : S2.tok1.toks.length = b := by simpa [tokOf] using hb
      have h4 : S2.tok1.toks.length = S2.toks.length + 1 := by simp [St.tok1]
      have h5 : S2.toks.length = S.tok1.toks.length + 1 := by rw [hS2, appS_len]
      omega
    have hlit : litFill 1 (List.replicate 1 (.int .i64 0)) [(0, .int .i64 (i : Int))] = some [iV i] := rfl
    have next : ¬ (c = 13 ∧ i + 1 < s.length ∧ s.getD (i + 1) 0 = 10) → ∀ E2 : Env, E2 0 = .str s → E2 4 = .bys (.own S.tok1.toks.length) (acc ++ [c]) → E2 5 = .sl 1 (.own S2.tok1.toks.length) (ats.map iV ++ [iV i]) → E2 6 = .int .i64 ((i + 1 : Nat) : Int) → ∃ m, m < s.length - i ∧ I m E2 S3 := fun hp E2 e0 e4 e5 e6 => by
      refine ⟨s.length - (i + 1), by omega, ?_⟩
      rw [hI]
      exact ⟨i + 1, acc ++ [c], ats ++ [i], _, _, rfl, by omega, g3, o2', by rw [List.map_append]; exact o3, hne, by simp [hal], by simp; omega, by rw [push hp]; simp, e0, e4, e5, e6⟩
    have hn1 : i + 1 < s.length → idxSPV (.str s) (.int .i64 ((i + 1 : Nat) : Int)) = some (.b8 (s.getD (i + 1) 0)) := fun h => by rw [idx_s (by omega) (by omega), Int.toNat_natCast]
    by_cases c1 : c = 13
    · by_cases c2 : i + 1 < s.length
      · have hn1 := hn1 c2
        by_cases c3 : s.getD (i + 1) 0 = 10
        · rw [c3] at hn1
          simp (maxSteps := 1000000) (disch := omega) only [h0, h4, h5, h6, len_s, hlt, idx_s, ← hc, eq_true c1, add_n, c2, hn1, loopQ_normal, qaaz, qabz, qacz, qadz, qaez, qafz, qagz, qahz, qaiz, qajz, qakz, qalz, qamz, qanz, evOp, qaoz, qapz, qaqz, qarz, qasz, qatz, qauz, qavz,
 ↓reduceIte, Nat.reduceEqDiff, List.nil_append, List.cons_append, List.append_nil, List.map_cons, List.map_nil, qawz, qaxz, qayz, Option.map_some, Option.map_none, qazz, qbaz, qbbz, qbcz, qbdz, qbez, qbfz, qbgz, qbhz, qbiz, qbjz, qbkz, qblz, qbmz, qbnz, qboz,
 qbpz, qbqz, qbrz, qbsz, qbtz, qbuz, qbvz, qbwz, qbxz, qbyz, qbzz, qcaz, qcbz, qccz, qcdz, qcez, qcfz, qcgz, qchz, qciz, beq_true, beq_false, Bool.not_eq_true', decide_eq_true_eq, decide_eq_false_iff_not, decide_true, decide_false,
 Int.toNat_natCast, Int.ofNat_lt, Int.ofNat_le, Int.natCast_inj, Bool.false_eq_true, Bool.true_eq_false, qcjz, List.getElem?_cons_zero, List.getElem?_cons_succ, qckz, Int.reduceToNat, Int.reduceLE, true_and, and_true, reduceCtorEq, or_false, false_or, or_true, Option.some.injEq, exists_eq_left', Bool.not_true, Bool.not_false, ne_eq, Int.reduceEq, not_true_eq_false, not_false_eq_true, Int.reduceLT, UInt8.reduceLT, UInt8.reduceLE, UInt8.reduceToNat]
          refine ⟨s.length - (i + 2), by omega, ?_⟩
          rw [hI]
          refine ⟨i + 2, acc, ats, w, u, rfl, by omega, hg, hw, hu, hd, hal, by omega, ?_, h0, h4, h5, rfl⟩
          rw [hT, hdr, drop1 c2, c3, c1, bareL, if_pos ⟨rfl, rfl⟩]
        · simp (maxSteps := 1000000) (disch := omega) only [h0, h4, h5, h6, len_s, hlt, idx_s, ← hc, eq_true c1, add_n, c2, hn1, c3, lit8_1, freshT_eq, a1, hlit, a2, loopQ_normal, qaaz, qabz, qacz, qadz, qaez, qafz, qagz, qahz, qaiz, qajz, qakz, qalz, qamz, qanz, evOp, qaoz, qapz, qaqz, qarz, qasz, qatz, qauz, qavz,
 ↓reduceIte, Nat.reduceEqDiff, List.nil_append, List.cons_append, List.append_nil, List.map_cons, List.map_nil, qawz, qaxz, qayz, Option.map_some, Option.map_none, qazz, qbaz, qbbz, qbcz, qbdz, qbez, qbfz, qbgz, qbhz, qbiz, qbjz, qbkz, qblz, qbmz, qbnz, qboz,
 qbpz, qbqz, qbrz, qbsz, qbtz, qbuz, qbvz, qbwz, qbxz, qbyz, qbzz, qcaz, qcbz, qccz, qcdz, qcez, qcfz, qcgz, qchz, qciz, beq_true, beq_false, Bool.not_eq_true', decide_eq_true_eq, decide_eq_false_iff_not, decide_true, decide_false,
 Int.toNat_natCast, Int.ofNat_lt, Int.ofNat_le, Int.natCast_inj, Bool.false_eq_true, Bool.true_eq_false, qcjz, List.getElem?_cons_zero, List.getElem?_cons_succ, qckz, Int.reduceToNat, Int.reduceLE, true_and, and_true, reduceCtorEq, or_false, false_or, or_true, Option.some.injEq, exists_eq_left', Bool.not_true, Bool.not_false, ne_eq, Int.reduceEq, not_true_eq_false, not_false_eq_true, Int.reduceLT, UInt8.reduceLT, UInt8.reduceLE, UInt8.reduceToNat]
          exact next (fun q => c3 q.2.2) _ h0 rfl rfl rfl
      · simp (maxSteps := 1000000) (disch := omega) only [h0, h4, h5, h6, len_s, hlt, idx_s, ← hc, eq_true c1, add_n, c2, lit8_1, freshT_eq, a1, hlit, a2, loopQ_normal, qaaz, qabz, qacz, qadz, qaez, qafz, qagz, qahz, qaiz, qajz, qakz, qalz, qamz, qanz, evOp, qaoz, qapz, qaqz, qarz, qasz, qatz, qauz, qavz,
 ↓reduceIte, Nat.reduceEqDiff, List.nil_append, List.cons_append, List.append_nil, List.map_cons, List.map_nil, qawz, qaxz, qayz, Option.map_some, Option.map_none, qazz, qbaz, qbbz, qbcz, qbdz, qbez, qbfz, qbgz, qbhz, qbiz, qbjz, qbkz, qblz, qbmz, qbnz, qboz,
 qbpz, qbqz, qbrz, qbsz, qbtz, qbuz, qbvz, qbwz, qbxz, qbyz, qbzz, qcaz, qcbz, qccz, qcdz, qcez, qcfz, qcgz, qchz, qciz, beq_true, beq_false, Bool.not_eq_true', decide_eq_true_eq, decide_eq_false_iff_not, decide_true, decide_false,
 Int.toNat_natCast, Int.ofNat_lt, Int.ofNat_le, Int.natCast_inj, Bool.false_eq_true, Bool.true_eq_false, qcjz, List.getElem?_cons_zero, List.getElem?_cons_succ, qckz, Int.reduceToNat, Int.reduceLE, true_and, and_true, reduceCtorEq, or_false, false_or, or_true, Option.some.injEq, exists_eq_left', Bool.not_true, Bool.not_false, ne_eq, Int.reduceEq, not_true_eq_false, not_false_eq_true, Int.reduceLT, UInt8.reduceLT, UInt8.reduceLE, UInt8.reduceToNat]
        exact next (fun q => c2 q.2.1) _ h0 rfl rfl rfl
    · simp (maxSteps := 1000000) (disch := omega) only [h0, h4, h5, h6, len_s, hlt, idx_s, ← hc, c1, add_n, lit8_1, freshT_eq, a1, hlit, a2, loopQ_normal, qaaz, qabz, qacz, qadz, qaez, qafz, qagz, qahz, qaiz, qajz, qakz, qalz, qamz, qanz, evOp, qaoz, qapz, qaqz, qarz, qasz, qatz, qauz, qavz,
 ↓reduceIte, Nat.reduceEqDiff, List.nil_append, List.cons_append, List.append_nil, List.map_cons, List.map_nil, qawz, qaxz, qayz, Option.map_some, Option.map_none, qazz, qbaz, qbbz, qbcz, qbdz, qbez, qbfz, qbgz, qbhz, qbiz, qbjz, qbkz, qblz, qbmz, qbnz, qboz,
 qbpz, qbqz, qbrz, qbsz, qbtz, qbuz, qbvz, qbwz, qbxz, qbyz, qbzz, qcaz, qcbz, qccz, qcdz, qcez, qcfz, qcgz, qchz, qciz, beq_true, beq_false, Bool.not_eq_true', decide_eq_true_eq, decide_eq_false_iff_not, decide_true, decide_false,
 Int.toNat_natCast, Int.ofNat_lt, Int.ofNat_le, Int.natCast_inj, Bool.false_eq_true, Bool.true_eq_false, qcjz, List.getElem?_cons_zero, List.getElem?_cons_succ, qckz, Int.reduceToNat, Int.reduceLE, true_and, and_true, reduceCtorEq, or_false, false_or, or_true, Option.some.injEq, exists_eq_left', Bool.not_true, Bool.not_false, ne_eq, Int.reduceEq, not_true_eq_false, not_false_eq_true, Int.reduceLT, UInt8.reduceLT, UInt8.reduceLE, UInt8.reduceToNat]
      exact next (fun q => c1 q.1) _ h0 rfl rfl rfl
  · have hT' : bareL s = acc := by rw [hT, List.drop_of_length_le (by omega), bareL, List.append_nil]
    simp (maxSteps := 1000000) (disch := omega) only [h0, h4, h5, h6, len_s, hlt, qaaz, qabz, qacz, qadz, qaez, qafz, qagz, qahz, qaiz, qajz, qakz, qalz, qamz, qanz, evOp, qaoz, qapz, qaqz, qarz, qasz, qatz, qauz, qavz,
 ↓reduceIte, Nat.reduceEqDiff, List.nil_append, List.cons_append, List.append_nil, List.map_cons, List.map_nil, qawz, qaxz, qayz, Option.map_some, Option.map_none, qazz, qbaz, qbbz, qbcz, qbdz, qbez, qbfz, qbgz, qbhz, qbiz, qbjz, qbkz, qblz, qbmz, qbnz, qboz,
 qbpz, qbqz, qbrz, qbsz, qbtz, qbuz, qbvz, qbwz, qbxz, qbyz, qbzz, qcaz, qcbz, qccz, qcdz, qcez, qcfz, qcgz, qchz, qciz, beq_true, beq_false, Bool.not_eq_true', decide_eq_true_eq, decide_eq_false_iff_not, decide_true, decide_false,
 Int.toNat_natCast, Int.ofNat_lt, Int.ofNat_le, Int.natCast_inj, Bool.false_eq_true, Bool.true_eq_false, qcjz, List.getElem?_cons_zero, List.getElem?_cons_succ, qckz, Int.reduceToNat, Int.reduceLE, true_and, and_true, reduceCtorEq, or_false, false_or, or_true, Option.some.injEq, exists_eq_left', Bool.not_true, Bool.not_false, ne_eq, Int.reduceEq, not_true_eq_false, not_false_eq_true, Int.reduceLT, UInt8.reduceLT, UInt8.reduceLE, UInt8.reduceToNat]
    rw [hQ0]
    have hn1 : notTup w = true := by rcases hw with ⟨rfl, _⟩ | ⟨i, rfl, _⟩ <;> rfl
    have hn2 : notTup u = true := own_nt hu
    obtain ⟨y', z', T, l1, l2, l3⟩ := bare_leave hg hw hu hd
    refine ⟨.inr rfl, .tup [w, u], by simp [resOf, rvAll, rv1, qavz, hn1, hn2, packRes], y', z', T, ats, by rw [l1], by rw [l1], by rw [hT']; exact l2, l3, by rw [hT', hal], by rw [hT']; omega⟩
end Go.Ab

/-
  The document's reader of signs: plain.
-/
namespace Go.Ab
set_option linter.unusedVariables false
set_option linter.unusedSimpArgs false
set_option maxRecDepth 20000
variable {st s : St} {e : Env}

def b6 (x : Nat) : List Nat := [x / 32 % 2, x / 16 % 2, x / 8 % 2, x / 4 % 2, x / 2 % 2, x / 1 % 2]
theorem bitsOf_app (a b : Bs) : bitsOf (a ++ b) = bitsOf a ++ bitsOf b := by simp [bitsOf]
theorem bits1 (a : UInt8) : bitsOf [a] = bit8 a := by simp [bitsOf]
theorem bits2 (a b : UInt8) : bitsOf [a, b] = bit8 a ++ bit8 b := by simp [bitsOf]
theorem bits3 (a b c : UInt8) : bitsOf [a, b, c] = bit8 a ++ (bit8 b ++ bit8 c) := by simp [bitsOf]

theorem nat8 (m : Nat) : (UInt8.ofNat m).toNat = m % 256 := by simp
theorem d6b_nat {v k m : Nat} (h : v / 2 ^ k % 256 = m) : (d6b v k).toNat = m := by unfold d6b; rw [nat8, h]
theorem d6b_ne {v k : Nat} : d6b v k ≠ 0 ↔ v / 2 ^ k % 256 ≠ 0 := by
  rw [← nat8]
  show UInt8.ofNat (v / 2 ^ k) ≠ 0 ↔ _
  constructor
  · intro h q; exact h (UInt8.toNat_inj.1 q)
  · intro h q; rw [q] at h; exact h rfl

theorem bits_hi {a b : Nat} (ha : a < 64) (hb : b < 64) : [(a * 4 + b / 16) / 128 % 2, (a * 4 + b / 16) / 64 % 2, (a * 4 + b / 16) / 32 % 2, (a * 4 + b / 16) / 16 % 2, (a * 4 + b / 16) / 8 % 2, (a * 4 + b / 16) / 4 % 2, (a * 4 + b / 16) / 2 % 2, (a * 4 + b / 16) / 1 % 2] = b6 a ++ [b / 32 % 2, b / 16 % 2] := by
  have h1 : (a * 4 + b / 16) / 128 % 2 = a / 32 % 2 := by omega
  have h2 : (a * 4 + b / 16) / 64 % 2 = a / 16 % 2 := by omega
  have h3 : (a * 4 + b / 16) / 32 % 2 = a / 8 % 2 := by omega
  have h4 : (a * 4 + b / 16) / 16 % 2 = a / 4 % 2 := by omega
  have h5 : (a * 4 + b / 16) / 8 % 2 = a / 2 % 2 := by omega
  have h6 : (a * 4 + b / 16) / 4 % 2 = a / 1 % 2 := by omega
  have h7 : (a * 4 + b / 16) / 2 % 2 = b / 32 % 2 := by omega
  have h8 : (a * 4 + b / 16) / 1 % 2 = b / 16 % 2 := by omega
  rw [h1, h2, h3, h4, h5, h6, h7, h8]; rfl
theorem bits_mid {b c : Nat} (hb : b < 64) (hc : c < 64) : [(b % 16 * 16 + c / 4) / 128 % 2, (b % 16 * 16 + c / 4) / 64 % 2, (b % 16 * 16 + c / 4) / 32 % 2, (b % 16 * 16 + c / 4) / 16 % 2, (b % 16 * 16 + c / 4) / 8 % 2, (b % 16 * 16 + c / 4) / 4 % 2, (b % 16 * 16 + c / 4) / 2 % 2, (b % 16 * 16 + c / 4) / 1 % 2] = [b / 8 % 2, b / 4 % 2, b / 2 % 2, b / 1 % 2] ++ [c / 32 % 2, c / 16 % 2, c / 8 % 2, c / 4 % 2] := by
  have h1 : (b % 16 * 16 + c / 4) / 128 % 2 = b / 8 % 2 := by omega
  have h2 : (b % 16 * 16 + c / 4) / 64 % 2 = b / 4 % 2 := by omega
  have h3 : (b % 16 * 16 + c / 4) / 32 % 2 = b / 2 % 2 := by omega
  have h4 : (b % 16 * 16 + c / 4) / 16 % 2 = b / 1 % 2 := by omega
  have h5 : (b % 16 * 16 + c / 4) / 8 % 2 = c / 32 % 2 := by omega
  have h6 : (b % 16 * 16 + c / 4) / 4 % 2 = c / 16 % 2 := by omega
  have h7 : (b % 16 * 16 + c / 4) / 2 % 2 = c / 8 % 2 := by omega
  have h8 : (b % 16 * 16 + c / 4) / 1 % 2 = c / 4 % 2 := by omega
  rw [h1, h2, h3, h4, h5, h6, h7, h8]; rfl
theorem bits_lo {c d : Nat} (hc : c < 64) (hd : d < 64) : [(c % 4 * 64 + d) / 128 % 2, (c % 4 * 64 + d) / 64 % 2, (c % 4 * 64 + d) / 32 % 2, (c % 4 * 64 + d) / 16 % 2, (c % 4 * 64 + d) / 8 % 2, (c % 4 * 64 + d) / 4 % 2, (c % 4 * 64 + d) / 2 % 2, (c % 4 * 64 + d) / 1 % 2] = [c / 2 % 2, c / 1 % 2] ++ b6 d := by
  have h1 : (c % 4 * 64 + d) / 128 % 2 = c / 2 % 2 := by omega
  have h2 : (c % 4 * 64 + d) / 64 % 2 = c / 1 % 2 := by omega
  have h3 : (c % 4 * 64 + d) / 32 % 2 = d / 32 % 2 := by omega
  have h4 : (c % 4 * 64 + d) / 16 % 2 = d / 16 % 2 := by omega
  have h5 : (c % 4 * 64 + d) / 8 % 2 = d / 8 % 2 := by omega
  have h6 : (c % 4 * 64 + d) / 4 % 2 = d / 4 % 2 := by omega
  have h7 : (c % 4 * 64 + d) / 2 % 2 = d / 2 % 2 := by omega
  have h8 : (c % 4 * 64 + d) / 1 % 2 = d / 1 % 2 := by omega
  rw [h1, h2, h3, h4, h5, h6, h7, h8]; rfl

/-- Three bytes of four signs. -/
theorem three {a b c d : Nat} (ha : a < 64) (hb : b < 64) (hc : c < 64) (hd : d < 64) :
    (d6b (((a * 64 + b) * 64 + c) * 64 + d) 16).toNat = a * 4 + b / 16 ∧ (d6b (((a * 64 + b) * 64 + c) * 64 + d) 8).toNat = b % 16 * 16 + c / 4 ∧ (d6b (((a * 64 + b) * 64 + c) * 64 + d) 0).toNat = c % 4 * 64 + d := by
  refine ⟨d6b_nat ?_, d6b_nat ?_, d6b_nat ?_⟩ <;> simp only [Nat.reducePow, Nat.pow_zero] <;> omega
theorem bit8_nat {x : UInt8} {m : Nat} (h : x.toNat = m) : bit8 x = [m / 128 % 2, m / 64 % 2, m / 32 % 2, m / 16 % 2, m / 8 % 2, m / 4 % 2, m / 2 % 2, m / 1 % 2] := by rw [bit8_eq, h]
theorem four_bits {a b c d : Nat} (ha : a < 64) (hb : b < 64) (hc : c < 64) (hd : d < 64) :
    bitsOf [d6b (((a * 64 + b) * 64 + c) * 64 + d) 16, d6b (((a * 64 + b) * 64 + c) * 64 + d) 8, d6b (((a * 64 + b) * 64 + c) * 64 + d) 0] = b6 a ++ (b6 b ++ (b6 c ++ b6 d)) := by
  obtain ⟨h1, h2, h3⟩ := three ha hb hc hd
  rw [bits3, bit8_nat h1, bit8_nat h2, bit8_nat h3, bits_hi ha hb, bits_mid hb hc, bits_lo hc hd]; rfl
theorem three_bits {a b c : Nat} (ha : a < 64) (hb : b < 64) (hc : c < 64) :
    bitsOf [d6b (((a * 64 + b) * 64 + c) * 64) 16, d6b (((a * 64 + b) * 64 + c) * 64) 8] ++ [c / 2 % 2, c / 1 % 2] = b6 a ++ (b6 b ++ b6 c) ∧ (d6b (((a * 64 + b) * 64 + c) * 64) 0 ≠ 0 ↔ 0 < c / 2 % 2 ∨ 0 < c / 1 % 2) := by
  obtain ⟨h1, h2, h3⟩ := three (d := 0) ha hb hc (by omega)
  simp only [Nat.add_zero] at h1 h2 h3
  constructor
  · rw [bits2, bit8_nat h1, bit8_nat h2, bits_hi ha hb, bits_mid hb hc]; rfl
  · have : d6b (((a * 64 + b) * 64 + c) * 64) 0 ≠ 0 ↔ (d6b (((a * 64 + b) * 64 + c) * 64) 0).toNat ≠ 0 := by rw [d6b_ne]; unfold d6b; rw [nat8]
    rw [this, h3]; omega
theorem two_bits {a b : Nat} (ha : a < 64) (hb : b < 64) :
    bitsOf [d6b ((a * 64 + b) * 64 * 64) 16] ++ [b / 8 % 2, b / 4 % 2, b / 2 % 2, b / 1 % 2] = b6 a ++ b6 b ∧ (d6b ((a * 64 + b) * 64 * 64) 8 ≠ 0 ↔ 0 < b / 8 % 2 ∨ 0 < b / 4 % 2 ∨ 0 < b / 2 % 2 ∨ 0 < b / 1 % 2) := by
  obtain ⟨h1, h2, h3⟩ := three (c := 0) (d := 0) ha hb (by omega) (by omega)
  simp only [Nat.add_zero] at h1 h2 h3
  constructor
  · rw [bits1, bit8_nat h1, bits_hi ha hb]; rfl
  · have : d6b ((a * 64 + b) * 64 * 64) 8 ≠ 0 ↔ (d6b ((a * 64 + b) * 64 * 64) 8).toNat ≠ 0 := by rw [d6b_ne]; unfold d6b; rw [nat8]
    rw [this, h2]; omega

/-- The digits that stand for what was read. -/
def RelD (D : D6) (d : List Nat) (p : Int) : Prop :=
  (D.pads = 0 ∧ p = -1 ∧ ∃ g : List Nat, g.length = D.n % 4 ∧ (∀ x ∈ g, x < 64) ∧ D.v = g.foldl (fun v x => v * 64 + x) 0 ∧ d = bitsOf D.out ++ g.flatMap b6)
  ∨ (∃ q : Nat, p = (q : Int) ∧ 1 ≤ q ∧ q ≤ D.n ∧ ((D.pads = 1 ∧ D.n % 4 = 3 ∧ ∃ a b, a < 64 ∧ b < 64 ∧ D.v = (a * 64 + b) * 64 ∧ d = bitsOf D.out ++ (b6 a ++ b6 b))
    ∨ (0 < D.pads ∧ D.n % 4 = 0 ∧ ∃ t : List Nat, d = bitsOf D.out ++ t ∧ t.length < 8)))

theorem tail_of {o : Bs} {t : List Nat} (h : t.length < 8) : tailB (bitsOf o ++ t) = t.any fun x => decide (0 < x) := by
  unfold tailB
  have hl : (bitsOf o ++ t).length / 8 = o.length := by rw [List.length_append, bits_len]; omega
  rw [hl, ← bits_len, List.drop_left]

/-- A sign that is one. -/
theorem rel_sign {D : D6} {d : List Nat} {c : UInt8} {x : Nat} (h : RelD D d (-1)) (hx : sgI c = some x) : ∃ D', d6one D c = some D' ∧ D'.n = D.n + 1 ∧ RelD D' (d ++ b6 x) (-1) := by
  have hx64 := sgI_lt hx
  rcases h with ⟨h1, _, g, g1, g2, g3, g4⟩ | ⟨q, hq, _⟩
  · have e1 : d6one D c = d6put D (D.v * 64 + x) 0 := by unfold d6one; rw [hx]; simp only [h1]; rw [if_neg (by omega)]
    rw [e1]; unfold d6put
    by_cases hn : (D.n + 1) % 4 = 0
    · rw [if_pos hn, if_neg (by omega)]
      have hg3 : g.length = 3 := by omega
      match g, hg3 with
      | [a, b, c'], _ =>
        have ha := g2 a (by simp); have hb := g2 b (by simp); have hc := g2 c' (by simp)
        have hv : D.v * 64 + x = ((a * 64 + b) * 64 + c') * 64 + x := by rw [g3]; simp
        refine ⟨_, rfl, rfl, .inl ⟨rfl, rfl, [], by simp only [List.length_nil]; omega, by simp, rfl, ?_⟩⟩
        show _ = bitsOf (D.out ++ _) ++ _
        rw [bitsOf_app, hv, Nat.sub_zero]
        show _ = bitsOf D.out ++ bitsOf [_, _, _] ++ _
        rw [four_bits ha hb hc hx64, g4]; simp
    · rw [if_neg hn]
      refine ⟨_, rfl, rfl, .inl ⟨rfl, rfl, g ++ [x], by simp only [List.length_append, List.length_cons, List.length_nil]; omega, fun y hy => ?_, ?_, ?_⟩⟩
      · rcases List.mem_append.1 hy with hy | hy
        · exact g2 y hy
        · rw [List.mem_singleton.1 hy]; exact hx64
      · show D.v * 64 + x = _; rw [g3]; simp
      · rw [g4]; simp
  · omega
theorem rel_sign_no {D : D6} {d : List Nat} {c : UInt8} {x : Nat} {p : Int} (h : RelD D d p) (hp : 0 ≤ p) (hx : sgI c = some x) : d6one D c = none := by
  rcases h with ⟨_, h1, _⟩ | ⟨q, hq, _, _, ⟨h2, _⟩ | ⟨h2, _⟩⟩
  · omega
  · unfold d6one; rw [hx]; simp only [h2]; rfl
  · unfold d6one; rw [hx]; simp only; rw [if_pos h2]
/-- A pad. -/
theorem pad_early {D : D6} (h : D.n % 4 < 2) : d6one D 61 = none := by
  have : sgI 61 = none := by kernel_rfl
  unfold d6one; rw [this]; simp [h]
theorem pad_put {D : D6} (h : ¬ D.n % 4 < 2) : d6one D 61 = d6put D (D.v * 64) (D.pads + 1) := by
  have : sgI 61 = none := by kernel_rfl
  unfold d6one; rw [this]; simp [h]
theorem rel_pad2 {D : D6} {d : List Nat} (h : RelD D d (-1)) (hn : D.n % 4 = 2) : ∃ D', d6one D 61 = some D' ∧ D'.n = D.n + 1 ∧ RelD D' d (D.n : Int) := by
  rcases h with ⟨h1, _, g, g1, g2, g3, g4⟩ | ⟨q, hq, _⟩
  · rw [pad_put (by omega)]; unfold d6put; rw [if_neg (by omega)]
    have hg2 : g.length = 2 := by omega
    match g, hg2 with
    | [a, b], _ =>
      exact ⟨_, rfl, rfl, .inr ⟨D.n, rfl, by omega, by simp only; omega, .inl ⟨by simp only [h1], by simp only; omega, a, b, g2 a (by simp), g2 b (by simp), by simp only [g3]; simp, by rw [g4]; simp⟩⟩⟩
  · omega
theorem rel_pad3 {D : D6} {d : List Nat} (h : RelD D d (-1)) (hn : D.n % 4 = 3) : (tailB d = true ∧ d6one D 61 = none) ∨ (tailB d = false ∧ ∃ D', d6one D 61 = some D' ∧ D'.n = D.n + 1 ∧ RelD D' d (D.n : Int)) := by
  rcases h with ⟨h1, _, g, g1, g2, g3, g4⟩ | ⟨q, hq, _⟩
  · rw [pad_put (by omega)]; unfold d6put; rw [if_pos (by omega), h1]
    have hg3 : g.length = 3 := by omega
    match g, hg3 with
    | [a, b, c], _ =>
      have ha := g2 a (by simp); have hb := g2 b (by simp); have hc := g2 c (by simp)
      obtain ⟨t1, t2⟩ := three_bits ha hb hc
      have hv : D.v * 64 = ((a * 64 + b) * 64 + c) * 64 := by rw [g3]; simp
      rw [hv]
      have hd : d = bitsOf (D.out ++ [d6b (((a * 64 + b) * 64 + c) * 64) 16, d6b (((a * 64 + b) * 64 + c) * 64) 8]) ++ [c / 2 % 2, c / 1 % 2] := by
        rw [bitsOf_app, List.append_assoc, t1, g4]; simp
      have htl : tailB d = true ↔ d6b (((a * 64 + b) * 64 + c) * 64) 0 ≠ 0 := by
        rw [hd, tail_of (by simp), t2]; simp
      by_cases hz : d6b (((a * 64 + b) * 64 + c) * 64) 0 = 0
      · right
        refine ⟨by rw [← Bool.not_eq_true, htl]; simp [hz], ?_⟩
        rw [if_neg (fun q => q.2 (by simpa using hz))]
        exact ⟨_, rfl, rfl, .inr ⟨D.n, rfl, by omega, by simp only; omega, .inr ⟨by simp only; omega, by simp only; omega, [c / 2 % 2, c / 1 % 2], hd, by simp⟩⟩⟩
      · left
        exact ⟨htl.2 hz, if_pos ⟨by omega, by simpa using hz⟩⟩
  · omega
theorem rel_pad_again {D : D6} {d : List Nat} {p : Int} (h : RelD D d p) (hp : 0 ≤ p) (hn : ¬ D.n % 4 < 2) : D.n % 4 = 3 ∧ ((tailB d = true ∧ d6one D 61 = none) ∨ (tailB d = false ∧ ∃ D', d6one D 61 = some D' ∧ D'.n = D.n + 1 ∧ RelD D' d p)) := by
  rcases h with ⟨_, h1, _⟩ | ⟨q, hq, hq1, hq2, ⟨h2, h3, a, b, ha, hb, hv, hd⟩ | ⟨h2, h3, _⟩⟩
  · omega
  · refine ⟨h3, ?_⟩
    rw [pad_put hn]; unfold d6put; rw [if_pos (by omega), h2, hv]
    obtain ⟨t1, t2⟩ := two_bits ha hb
    have hd2 : d = bitsOf (D.out ++ [d6b ((a * 64 + b) * 64 * 64) 16]) ++ [b / 8 % 2, b / 4 % 2, b / 2 % 2, b / 1 % 2] := by
      rw [bitsOf_app, List.append_assoc, t1, hd]
    have htl : tailB d = true ↔ d6b ((a * 64 + b) * 64 * 64) 8 ≠ 0 := by
      rw [hd2, tail_of (by simp), t2]; simp
    by_cases hz : d6b ((a * 64 + b) * 64 * 64) 8 = 0
    · right
      refine ⟨by rw [← Bool.not_eq_true, htl]; simp [hz], ?_⟩
      rw [if_neg (fun q => q.2 (by simpa using hz))]
      exact ⟨_, rfl, rfl, .inr ⟨q, hq, hq1, by simp only; omega, .inr ⟨by simp only; omega, by simp only; omega, _, hd2, by simp⟩⟩⟩
    · left
      exact ⟨htl.2 hz, if_pos ⟨by omega, by simpa using hz⟩⟩
  · omega
/-- .. at the end. -/
theorem rel_end {D : D6} {d : List Nat} {p : Int} (h : RelD D d p) (hn : D.n % 4 = 0) : ∃ t : List Nat, d = bitsOf D.out ++ t ∧ t.length < 8 := by
  rcases h with ⟨h1, _, g, g1, g2, g3, g4⟩ | ⟨q, hq, hq1, hq2, ⟨h2, h3, _⟩ | ⟨h2, h3, t, ht⟩⟩
  · have : g = [] := List.eq_nil_of_length_eq_zero (by omega)
    exact ⟨[], by rw [g4, this]; rfl, by simp⟩
  · omega
  · exact ⟨t, ht⟩
theorem rel_p {D : D6} {d : List Nat} {p : Int} (h : RelD D d p) : p = -1 ∨ ∃ q : Nat, p = (q : Int) ∧ 1 ≤ q ∧ q ≤ D.n := by
  rcases h with ⟨_, h1, _⟩ | ⟨q, hq, hq1, hq2, _⟩
  · exact .inl h1
  · exact .inr ⟨q, hq, hq1, hq2⟩
end Go.Ab

/-
  The document's words of signs.
-/
namespace Go.Ab
set_option linter.unusedVariables false
set_option linter.unusedSimpArgs false
set_option maxRecDepth 20000
variable {st s : St} {e : Env}

theorem low_b {how : Bs} {c d : UInt8} (h : ∀ x : UInt8, lowOf [x] = [c] ↔ x = c ∨ x = d) : lowOf how = [c] ↔ how = [c] ∨ how = [d] := by
  have hlen : (lowOf how).length = how.length := by simp [lowOf]
  match how with
  | [] => simp [lowOf]
  | [x] => rw [h x]; simp
  | x :: y :: r =>
    constructor
    · intro q; rw [q] at hlen; simp at hlen
    · rintro (q | q) <;> simp at q
theorem low_98 {how : Bs} : lowOf how = [98] ↔ how = [98] ∨ how = [66] := low_b fun x => by
  have := all8 (p := fun x => decide (lowOf [x] = [98]) == (decide (x = 98) || decide (x = 66))) (by kernel_rfl) x
  rw [beq_iff_eq] at this
  rw [← decide_eq_true_iff (p := lowOf [x] = [98]), this]; simp
theorem low_113 {how : Bs} : lowOf how = [113] ↔ how = [113] ∨ how = [81] := low_b fun x => by
  have := all8 (p := fun x => decide (lowOf [x] = [113]) == (decide (x = 113) || decide (x = 81))) (by kernel_rfl) x
  rw [beq_iff_eq] at this
  rw [← decide_eq_true_iff (p := lowOf [x] = [113]), this]; simp
theorem ge128 {c : UInt8} : (128 ≤ c) = (127 < c) := by
  apply propext; rw [UInt8.le_iff_toNat_le, UInt8.lt_iff_toNat_lt]; show 128 ≤ c.toNat ↔ 127 < c.toNat; omega

/-- The document's reader of signs does its work. -/
def DecR : Prop := ∀ (S : St) (t : Bs), t.length ≤ 1000 → ∃ r, call prog (.fn 243 []) [.str t] S = some r ∧ decOK S t r

set_option maxHeartbeats 8000000 in
theorem rOne_spec {s : Bs} (hl : s.length ≤ 1000000) (hdec : DecR) : call prog (.fn 228 []) [.str s] st = some (.tup [.str (oneV s).1, .bool (oneV s).2], st) := by
  refine call_of_W prog_228 ?_
  unfold F_posthornref04_One; dsimp only
  obtain ⟨Q0, hQ0⟩ : ∃ Q0 : Ex → Env → St → Prop, Q0 = endQ st [.tmp 2, .tmp 3] (.tup [.str (oneV s).1, .bool (oneV s).2], st) := ⟨_, rfl⟩
  rw [← hQ0]
  have bad : ∀ (E2 : Env) (S2 : St), Kept st S2 → oneV s = ([], false) → E2 2 = .str [] → E2 3 = .bool false → Q0 .ret E2 S2 := fun E2 S2 k2 ht e2 e3 => by
    rw [hQ0, qblz, ht]
    exact retV2 e2 e3 rfl rfl k2 ⟨fun _ => rfl, fun _ _ => rfl⟩
  have hlen := split_len (sep := 63) s []
  simp only [List.length_nil, Nat.zero_add] at hlen
  obtain ⟨S1, hS1⟩ : ∃ S1 : St, S1 = ⟨st.boxes, st.toks ++ [true], st.loops, st.boxes.length⟩ := ⟨_, rfl⟩
  obtain ⟨v, hvv⟩ : ∃ v, v = newSl (⟨st.boxes, st.toks, st.loops, st.boxes.length⟩ : St) 1 ((splitOn 63 [] s).map .str) := ⟨_, rfl⟩
  have hvs : v.vs 1 = some ((splitOn 63 [] s).map .str) := by rw [hvv]; exact newSl_vs
  have hk1 : Kept st S1 := by rw [hS1]; exact Kept.start.tok1
  have hpt : call prog (.fn 215 []) [.str s, .b8 63] ⟨st.boxes, st.toks, st.loops, st.boxes.length⟩ = some (v, S1) := by
    by_cases hh : s.length ≤ 100000000
    · rw [Parts_spec hh, hvv, hS1]; rfl
    · omega
  have hO : oneV s = if 75 < s.length then ([], false) else (match splitOn 63 [] s with
    | [a, set, how, text, z] => if a = [61] ∧ z = [61] ∧ hasB s [32] = false then oneP set how text else ([], false)
    | _ => ([], false)) := rfl
  generalize splitOn 63 [] s = L at hO hlen hvs
  have hv5 : (∃ a b c d z, L = [a, b, c, d, z]) ∨ L.length ≠ 5 := by
    match L with
    | [a, b, c, d, z] => exact .inl ⟨a, b, c, d, z, rfl⟩
    | [] => exact .inr (by simp)
    | [_] => exact .inr (by simp)
    | [_, _] => exact .inr (by simp)
    | [_, _, _] => exact .inr (by simp)
    | [_, _, _, _] => exact .inr (by simp)
    | _ :: _ :: _ :: _ :: _ :: _ :: _ => exact .inr (by simp)
  have hln : lenPV false v = some (.int .i64 (L.length : Int)) := by rw [len_vs hvs, List.length_map]
  refine W_cut (fun E S => S = (⟨st.boxes, st.toks, st.loops, st.boxes.length⟩ : St) ∧ E 0 = .str s) ?_ ?_
  · simp (maxSteps := 1000000) (disch := omega) only [qaaz, qabz, qacz, qadz, qaez, qafz, qagz, qahz, qaiz, qajz, qakz, qalz, qamz, qanz, evOp, qaoz, qapz, qaqz, qarz, qasz, qatz, qauz, qavz,
 ↓reduceIte, Nat.reduceEqDiff, List.nil_append, List.cons_append, List.append_nil, List.map_cons, List.map_nil, qawz, qaxz, qayz, Option.map_some, Option.map_none, qazz, qbaz, qbbz, qbcz, qbdz, qbez, qbfz, qbgz, qbhz, qbiz, qbjz, qbkz, qblz, qbmz, qbnz, qboz,
 qbpz, qbqz, qbrz, qbsz, qbtz, qbuz, qbvz, qbwz, qbxz, qbyz, qbzz, qcaz, qcbz, qccz, qcdz, qcez, qcfz, qcgz, qchz, qciz, beq_true, beq_false, Bool.not_eq_true', decide_eq_true_eq, decide_eq_false_iff_not, decide_true, decide_false,
 Int.toNat_natCast, Int.ofNat_lt, Int.ofNat_le, Int.natCast_inj, Bool.false_eq_true, Bool.true_eq_false, qcjz, List.getElem?_cons_zero, List.getElem?_cons_succ, qckz, Int.reduceToNat, Int.reduceLE, true_and, and_true, reduceCtorEq, or_false, false_or, or_true, Option.some.injEq, exists_eq_left', Bool.not_true, Bool.not_false, ne_eq, Int.reduceEq, not_true_eq_false, not_false_eq_true, Int.reduceLT, UInt8.reduceLT, UInt8.reduceLE, UInt8.reduceToNat]
  rintro E S ⟨rfl, h0⟩
  refine W_cut (fun E S => S = S1 ∧ E 0 = .str s ∧ E 4 = v) ?_ ?_
  · simp (maxSteps := 1000000) (disch := omega) only [h0, hpt, qaaz, qabz, qacz, qadz, qaez, qafz, qagz, qahz, qaiz, qajz, qakz, qalz, qamz, qanz, evOp, qaoz, qapz, qaqz, qarz, qasz, qatz, qauz, qavz,
 ↓reduceIte, Nat.reduceEqDiff, List.nil_append, List.cons_append, List.append_nil, List.map_cons, List.map_nil, qawz, qaxz, qayz, Option.map_some, Option.map_none, qazz, qbaz, qbbz, qbcz, qbdz, qbez, qbfz, qbgz, qbhz, qbiz, qbjz, qbkz, qblz, qbmz, qbnz, qboz,
 qbpz, qbqz, qbrz, qbsz, qbtz, qbuz, qbvz, qbwz, qbxz, qbyz, qbzz, qcaz, qcbz, qccz, qcdz, qcez, qcfz, qcgz, qchz, qciz, beq_true, beq_false, Bool.not_eq_true', decide_eq_true_eq, decide_eq_false_iff_not, decide_true, decide_false,
 Int.toNat_natCast, Int.ofNat_lt, Int.ofNat_le, Int.natCast_inj, Bool.false_eq_true, Bool.true_eq_false, qcjz, List.getElem?_cons_zero, List.getElem?_cons_succ, qckz, Int.reduceToNat, Int.reduceLE, true_and, and_true, reduceCtorEq, or_false, false_or, or_true, Option.some.injEq, exists_eq_left', Bool.not_true, Bool.not_false, ne_eq, Int.reduceEq, not_true_eq_false, not_false_eq_true, Int.reduceLT, UInt8.reduceLT, UInt8.reduceLE, UInt8.reduceToNat]
  clear h0 E
  rintro E S ⟨hS, h0, h4⟩
  rw [hS]; clear hS S
  have p4 := fun S : St => Has_spec (st := S) (a := s) (b := [32]) (by omega) (by decide)
  by_cases h75 : (75 : Int) < (s.length : Int)
  · refine W_cutW (fun _ _ => False) ?_ (fun _ _ h => h.elim)
    simp (maxSteps := 1000000) (disch := omega) only [h0, h4, len_s, h75, qaaz, qabz, qacz, qadz, qaez, qafz, qagz, qahz, qaiz, qajz, qakz, qalz, qamz, qanz, evOp, qaoz, qapz, qaqz, qarz, qasz, qatz, qauz, qavz,
 ↓reduceIte, Nat.reduceEqDiff, List.nil_append, List.cons_append, List.append_nil, List.map_cons, List.map_nil, qawz, qaxz, qayz, Option.map_some, Option.map_none, qazz, qbaz, qbbz, qbcz, qbdz, qbez, qbfz, qbgz, qbhz, qbiz, qbjz, qbkz, qblz, qbmz, qbnz, qboz,
 qbpz, qbqz, qbrz, qbsz, qbtz, qbuz, qbvz, qbwz, qbxz, qbyz, qbzz, qcaz, qcbz, qccz, qcdz, qcez, qcfz, qcgz, qchz, qciz, beq_true, beq_false, Bool.not_eq_true', decide_eq_true_eq, decide_eq_false_iff_not, decide_true, decide_false,
 Int.toNat_natCast, Int.ofNat_lt, Int.ofNat_le, Int.natCast_inj, Bool.false_eq_true, Bool.true_eq_false, qcjz, List.getElem?_cons_zero, List.getElem?_cons_succ, qckz, Int.reduceToNat, Int.reduceLE, true_and, and_true, reduceCtorEq, or_false, false_or, or_true, Option.some.injEq, exists_eq_left', Bool.not_true, Bool.not_false, ne_eq, Int.reduceEq, not_true_eq_false, not_false_eq_true, Int.reduceLT, UInt8.reduceLT, UInt8.reduceLE, UInt8.reduceToNat]
    exact .inr (bad _ _ hk1 (by rw [hO, if_pos (by omega)]) rfl rfl)
  rw [if_neg (by omega)] at hO
  rcases hv5 with ⟨a, set, how, text, z, rfl⟩ | h5
  rotate_left
  · have h5' : ¬ (L.length : Int) = 5 := by omega
    have hO5 : oneV s = ([], false) := by
      rw [hO]; split
      · exact absurd rfl h5
      · rfl
    refine W_cutW (fun _ _ => False) ?_ (fun _ _ h => h.elim)
    simp (maxSteps := 1000000) (disch := omega) only [h0, h4, len_s, h75, hln, h5', qaaz, qabz, qacz, qadz, qaez, qafz, qagz, qahz, qaiz, qajz, qakz, qalz, qamz, qanz, evOp, qaoz, qapz, qaqz, qarz, qasz, qatz, qauz, qavz,
 ↓reduceIte, Nat.reduceEqDiff, List.nil_append, List.cons_append, List.append_nil, List.map_cons, List.map_nil, qawz, qaxz, qayz, Option.map_some, Option.map_none, qazz, qbaz, qbbz, qbcz, qbdz, qbez, qbfz, qbgz, qbhz, qbiz, qbjz, qbkz, qblz, qbmz, qbnz, qboz,
 qbpz, qbqz, qbrz, qbsz, qbtz, qbuz, qbvz, qbwz, qbxz, qbyz, qbzz, qcaz, qcbz, qccz, qcdz, qcez, qcfz, qcgz, qchz, qciz, beq_true, beq_false, Bool.not_eq_true', decide_eq_true_eq, decide_eq_false_iff_not, decide_true, decide_false,
 Int.toNat_natCast, Int.ofNat_lt, Int.ofNat_le, Int.natCast_inj, Bool.false_eq_true, Bool.true_eq_false, qcjz, List.getElem?_cons_zero, List.getElem?_cons_succ, qckz, Int.reduceToNat, Int.reduceLE, true_and, and_true, reduceCtorEq, or_false, false_or, or_true, Option.some.injEq, exists_eq_left', Bool.not_true, Bool.not_false, ne_eq, Int.reduceEq, not_true_eq_false, not_false_eq_true, Int.reduceLT, UInt8.reduceLT, UInt8.reduceLE, UInt8.reduceToNat]
    exact .inr (bad _ _ hk1 hO5 rfl rfl)
  have hO : oneV s = if a = [61] ∧ z = [61] ∧ hasB s [32] = false then oneP set how text else ([], false) := hO
  have hln5 : lenPV false v = some (.int .i64 5) := hln
  have i0 : iaddrPV 1 v (.int .i64 0) = some (.cp [.str a]) := iaddr_t hvs (by omega) (by simp)
  have i1 : iaddrPV 1 v (.int .i64 1) = some (.cp [.str set]) := iaddr_t hvs (by omega) (by simp)
  have i2 : iaddrPV 1 v (.int .i64 2) = some (.cp [.str how]) := iaddr_t hvs (by omega) (by simp)
  have i3 : iaddrPV 1 v (.int .i64 3) = some (.cp [.str text]) := iaddr_t hvs (by omega) (by simp)
  have i4 : iaddrPV 1 v (.int .i64 4) = some (.cp [.str z]) := iaddr_t hvs (by omega) (by simp)
  have l1 := hlen set (by simp); have l2 := hlen how (by simp); have l3 := hlen text (by simp)
  refine W_cutW (fun E S => S = S1 ∧ E 4 = v ∧ a = [61] ∧ z = [61] ∧ hasB s [32] = false) ?_ ?_
  · by_cases ha : a = [61]
    · by_cases hz : z = [61]
      · cases hsp : hasB s [32] with
        | true =>
          rw [hsp] at p4
          simp (maxSteps := 1000000) (disch := omega) only [h0, h4, len_s, h75, hln5, i0, i4, eq_true ha, eq_true hz, p4, qaaz, qabz, qacz, qadz, qaez, qafz, qagz, qahz, qaiz, qajz, qakz, qalz, qamz, qanz, evOp, qaoz, qapz, qaqz, qarz, qasz, qatz, qauz, qavz,
 ↓reduceIte, Nat.reduceEqDiff, List.nil_append, List.cons_append, List.append_nil, List.map_cons, List.map_nil, qawz, qaxz, qayz, Option.map_some, Option.map_none, qazz, qbaz, qbbz, qbcz, qbdz, qbez, qbfz, qbgz, qbhz, qbiz, qbjz, qbkz, qblz, qbmz, qbnz, qboz,
 qbpz, qbqz, qbrz, qbsz, qbtz, qbuz, qbvz, qbwz, qbxz, qbyz, qbzz, qcaz, qcbz, qccz, qcdz, qcez, qcfz, qcgz, qchz, qciz, beq_true, beq_false, Bool.not_eq_true', decide_eq_true_eq, decide_eq_false_iff_not, decide_true, decide_false,
 Int.toNat_natCast, Int.ofNat_lt, Int.ofNat_le, Int.natCast_inj, Bool.false_eq_true, Bool.true_eq_false, qcjz, List.getElem?_cons_zero, List.getElem?_cons_succ, qckz, Int.reduceToNat, Int.reduceLE, true_and, and_true, reduceCtorEq, or_false, false_or, or_true, Option.some.injEq, exists_eq_left', Bool.not_true, Bool.not_false, ne_eq, Int.reduceEq, not_true_eq_false, not_false_eq_true, Int.reduceLT, UInt8.reduceLT, UInt8.reduceLE, UInt8.reduceToNat]
          exact .inr (bad _ _ hk1 (by rw [hO, if_neg (by simp [hsp])]) rfl rfl)
        | false =>
          rw [hsp] at p4
          simp (maxSteps := 1000000) (disch := omega) only [h0, h4, len_s, h75, hln5, i0, i4, eq_true ha, eq_true hz, p4, qaaz, qabz, qacz, qadz, qaez, qafz, qagz, qahz, qaiz, qajz, qakz, qalz, qamz, qanz, evOp, qaoz, qapz, qaqz, qarz, qasz, qatz, qauz, qavz,
 ↓reduceIte, Nat.reduceEqDiff, List.nil_append, List.cons_append, List.append_nil, List.map_cons, List.map_nil, qawz, qaxz, qayz, Option.map_some, Option.map_none, qazz, qbaz, qbbz, qbcz, qbdz, qbez, qbfz, qbgz, qbhz, qbiz, qbjz, qbkz, qblz, qbmz, qbnz, qboz,
 qbpz, qbqz, qbrz, qbsz, qbtz, qbuz, qbvz, qbwz, qbxz, qbyz, qbzz, qcaz, qcbz, qccz, qcdz, qcez, qcfz, qcgz, qchz, qciz, beq_true, beq_false, Bool.not_eq_true', decide_eq_true_eq, decide_eq_false_iff_not, decide_true, decide_false,
 Int.toNat_natCast, Int.ofNat_lt, Int.ofNat_le, Int.natCast_inj, Bool.false_eq_true, Bool.true_eq_false, qcjz, List.getElem?_cons_zero, List.getElem?_cons_succ, qckz, Int.reduceToNat, Int.reduceLE, true_and, and_true, reduceCtorEq, or_false, false_or, or_true, Option.some.injEq, exists_eq_left', Bool.not_true, Bool.not_false, ne_eq, Int.reduceEq, not_true_eq_false, not_false_eq_true, Int.reduceLT, UInt8.reduceLT, UInt8.reduceLE, UInt8.reduceToNat]
          exact .inl trivial
      · simp (maxSteps := 1000000) (disch := omega) only [h0, h4, len_s, h75, hln5, i0, i4, eq_true ha, hz, qaaz, qabz, qacz, qadz, qaez, qafz, qagz, qahz, qaiz, qajz, qakz, qalz, qamz, qanz, evOp, qaoz, qapz, qaqz, qarz, qasz, qatz, qauz, qavz,
 ↓reduceIte, Nat.reduceEqDiff, List.nil_append, List.cons_append, List.append_nil, List.map_cons, List.map_nil, qawz, qaxz, qayz, Option.map_some, Option.map_none, qazz, qbaz, qbbz, qbcz, qbdz, qbez, qbfz, qbgz, qbhz, qbiz, qbjz, qbkz, qblz, qbmz, qbnz, qboz,
 qbpz, qbqz, qbrz, qbsz, qbtz, qbuz, qbvz, qbwz, qbxz, qbyz, qbzz, qcaz, qcbz, qccz, qcdz, qcez, qcfz, qcgz, qchz, qciz, beq_true, beq_false, Bool.not_eq_true', decide_eq_true_eq, decide_eq_false_iff_not, decide_true, decide_false,
 Int.toNat_natCast, Int.ofNat_lt, Int.ofNat_le, Int.natCast_inj, Bool.false_eq_true, Bool.true_eq_false, qcjz, List.getElem?_cons_zero, List.getElem?_cons_succ, qckz, Int.reduceToNat, Int.reduceLE, true_and, and_true, reduceCtorEq, or_false, false_or, or_true, Option.some.injEq, exists_eq_left', Bool.not_true, Bool.not_false, ne_eq, Int.reduceEq, not_true_eq_false, not_false_eq_true, Int.reduceLT, UInt8.reduceLT, UInt8.reduceLE, UInt8.reduceToNat]
        exact .inr (bad _ _ hk1 (by rw [hO, if_neg (by simp [hz])]) rfl rfl)
    · simp (maxSteps := 1000000) (disch := omega) only [h0, h4, len_s, h75, hln5, i0, i4, ha, qaaz, qabz, qacz, qadz, qaez, qafz, qagz, qahz, qaiz, qajz, qakz, qalz, qamz, qanz, evOp, qaoz, qapz, qaqz, qarz, qasz, qatz, qauz, qavz,
 ↓reduceIte, Nat.reduceEqDiff, List.nil_append, List.cons_append, List.append_nil, List.map_cons, List.map_nil, qawz, qaxz, qayz, Option.map_some, Option.map_none, qazz, qbaz, qbbz, qbcz, qbdz, qbez, qbfz, qbgz, qbhz, qbiz, qbjz, qbkz, qblz, qbmz, qbnz, qboz,
 qbpz, qbqz, qbrz, qbsz, qbtz, qbuz, qbvz, qbwz, qbxz, qbyz, qbzz, qcaz, qcbz, qccz, qcdz, qcez, qcfz, qcgz, qchz, qciz, beq_true, beq_false, Bool.not_eq_true', decide_eq_true_eq, decide_eq_false_iff_not, decide_true, decide_false,
 Int.toNat_natCast, Int.ofNat_lt, Int.ofNat_le, Int.natCast_inj, Bool.false_eq_true, Bool.true_eq_false, qcjz, List.getElem?_cons_zero, List.getElem?_cons_succ, qckz, Int.reduceToNat, Int.reduceLE, true_and, and_true, reduceCtorEq, or_false, false_or, or_true, Option.some.injEq, exists_eq_left', Bool.not_true, Bool.not_false, ne_eq, Int.reduceEq, not_true_eq_false, not_false_eq_true, Int.reduceLT, UInt8.reduceLT, UInt8.reduceLE, UInt8.reduceToNat]
      exact .inr (bad _ _ hk1 (by rw [hO, if_neg (by simp [ha])]) rfl rfl)
  clear h0 h4 E
  rintro E S ⟨hS, h4, q1, q2, q3⟩
  rw [hS]; clear hS S
  have hO2 : oneV s = oneP set how text := by rw [hO, if_pos ⟨q1, q2, q3⟩]
  refine W_cut (fun E S => S = S1 ∧ E 4 = v ∧ E 5 = .str [] ∧ E 6 = .bool false) ?_ ?_
  · simp (maxSteps := 1000000) (disch := omega) only [h4, qaaz, qabz, qacz, qadz, qaez, qafz, qagz, qahz, qaiz, qajz, qakz, qalz, qamz, qanz, evOp, qaoz, qapz, qaqz, qarz, qasz, qatz, qauz, qavz,
 ↓reduceIte, Nat.reduceEqDiff, List.nil_append, List.cons_append, List.append_nil, List.map_cons, List.map_nil, qawz, qaxz, qayz, Option.map_some, Option.map_none, qazz, qbaz, qbbz, qbcz, qbdz, qbez, qbfz, qbgz, qbhz, qbiz, qbjz, qbkz, qblz, qbmz, qbnz, qboz,
 qbpz, qbqz, qbrz, qbsz, qbtz, qbuz, qbvz, qbwz, qbxz, qbyz, qbzz, qcaz, qcbz, qccz, qcdz, qcez, qcfz, qcgz, qchz, qciz, beq_true, beq_false, Bool.not_eq_true', decide_eq_true_eq, decide_eq_false_iff_not, decide_true, decide_false,
 Int.toNat_natCast, Int.ofNat_lt, Int.ofNat_le, Int.natCast_inj, Bool.false_eq_true, Bool.true_eq_false, qcjz, List.getElem?_cons_zero, List.getElem?_cons_succ, qckz, Int.reduceToNat, Int.reduceLE, true_and, and_true, reduceCtorEq, or_false, false_or, or_true, Option.some.injEq, exists_eq_left', Bool.not_true, Bool.not_false, ne_eq, Int.reduceEq, not_true_eq_false, not_false_eq_true, Int.reduceLT, UInt8.reduceLT, UInt8.reduceLE, UInt8.reduceToNat]
  clear h4 E
  rintro E S ⟨hS, h4, h5, h6⟩
  rw [hS]; clear hS S
  obtain ⟨M, hM⟩ : ∃ M : Bs → Bool → Prop, M = fun q b => (if lowOf how = [98] then (match dec64 text with | none => b = false | some p => q = p ∧ b = true) else b = false) := ⟨_, rfl⟩
  refine W_cut (fun E S => Kept st S ∧ E 4 = v ∧ ∃ q b, E 5 = .str q ∧ E 6 = .bool b ∧ M q b) ?_ ?_
  · by_cases c0 : lowOf how = [98]
    · obtain ⟨⟨r1, s1⟩, d1, y, f0, f1, hr1, hs1, hm⟩ := hdec S1 text (by omega)
      simp only at hr1 hs1
      rw [hr1, hS1] at d1
      obtain ⟨T, rfl⟩ : ∃ T, s1 = ⟨st.boxes, st.toks ++ T, st.loops, st.boxes.length⟩ := by
        rcases hs1 with rfl | rfl
        · exact ⟨[true], by rw [hS1]⟩
        · exact ⟨[true, true], by rw [hS1]; simp [St.tok1]⟩
      have hst : ∀ T : List Bool, storePV ⟨st.boxes ++ [[.int .i64 0, .int .i64 0]], T, st.loops, st.boxes.length⟩ 2 (.ptr st.boxes.length 0) (.agg [.int .i64 f0, .int .i64 f1]) = some ⟨st.boxes ++ [[.int .i64 f0, .int .i64 f1]], T, st.loops, st.boxes.length⟩ := fun T => flt_store rfl
      have hld : ∀ T : List Bool, loadPV ⟨st.boxes ++ [[.int .i64 f0, .int .i64 f1]], T, st.loops, st.boxes.length⟩ false 1 (.ptr st.boxes.length 1) = some (.int .i64 f1) := fun T => by simp [loadPV, readCells]
      have hfa : faddrPV 1 (.ptr st.boxes.length 0) = some (.ptr st.boxes.length 1) := rfl
      obtain ⟨q, hy⟩ : ∃ q, y.by = some q := by
        cases hd : dec64 text with
        | none => rw [hd] at hm; exact hm.2
        | some p => rw [hd] at hm; exact ⟨p, hm.2⟩
      have fin : M q (decide (f1 = 0)) := by
        rw [hM]; dsimp only; rw [if_pos c0]
        cases hd : dec64 text with
        | none => rw [hd] at hm; simpa using hm.1
        | some p => rw [hd, hy] at hm; exact ⟨Option.some.inj hm.2, by simpa using hm.1⟩
      rw [hS1]
      rcases low_98.1 c0 with c1 | c1
      · have c2 : ¬ how = [66] := by rw [c1]; decide
        simp (maxSteps := 1000000) (disch := omega) only [h4, h5, h6, i2, i3, eq_true c1, c2, d1, allocPV, hst, hld, hfa, b2s_by hy, qaaz, qabz, qacz, qadz, qaez, qafz, qagz, qahz, qaiz, qajz, qakz, qalz, qamz, qanz, evOp, qaoz, qapz, qaqz, qarz, qasz, qatz, qauz, qavz,
 ↓reduceIte, Nat.reduceEqDiff, List.nil_append, List.cons_append, List.append_nil, List.map_cons, List.map_nil, qawz, qaxz, qayz, Option.map_some, Option.map_none, qazz, qbaz, qbbz, qbcz, qbdz, qbez, qbfz, qbgz, qbhz, qbiz, qbjz, qbkz, qblz, qbmz, qbnz, qboz,
 qbpz, qbqz, qbrz, qbsz, qbtz, qbuz, qbvz, qbwz, qbxz, qbyz, qbzz, qcaz, qcbz, qccz, qcdz, qcez, qcfz, qcgz, qchz, qciz, beq_true, beq_false, Bool.not_eq_true', decide_eq_true_eq, decide_eq_false_iff_not, decide_true, decide_false,
 Int.toNat_natCast, Int.ofNat_lt, Int.ofNat_le, Int.natCast_inj, Bool.false_eq_true, Bool.true_eq_false, qcjz, List.getElem?_cons_zero, List.getElem?_cons_succ, qckz, Int.reduceToNat, Int.reduceLE, true_and, and_true, reduceCtorEq, or_false, false_or, or_true, Option.some.injEq, exists_eq_left', Bool.not_true, Bool.not_false, ne_eq, Int.reduceEq, not_true_eq_false, not_false_eq_true, Int.reduceLT, UInt8.reduceLT, UInt8.reduceLE, UInt8.reduceToNat]
        exact ⟨⟨by simp, rfl, Nat.le_refl _, by simp⟩, q, decide (f1 = 0), rfl, rfl, fin⟩
      · simp (maxSteps := 1000000) (disch := omega) only [h4, h5, h6, i2, i3, eq_true c1, d1, allocPV, hst, hld, hfa, b2s_by hy, qaaz, qabz, qacz, qadz, qaez, qafz, qagz, qahz, qaiz, qajz, qakz, qalz, qamz, qanz, evOp, qaoz, qapz, qaqz, qarz, qasz, qatz, qauz, qavz,
 ↓reduceIte, Nat.reduceEqDiff, List.nil_append, List.cons_append, List.append_nil, List.map_cons, List.map_nil, qawz, qaxz, qayz, Option.map_some, Option.map_none, qazz, qbaz, qbbz, qbcz, qbdz, qbez, qbfz, qbgz, qbhz, qbiz, qbjz, qbkz, qblz, qbmz, qbnz, qboz,
 qbpz, qbqz, qbrz, qbsz, qbtz, qbuz, qbvz, qbwz, qbxz, qbyz, qbzz, qcaz, qcbz, qccz, qcdz, qcez, qcfz, qcgz, qchz, qciz, beq_true, beq_false, Bool.not_eq_true', decide_eq_true_eq, decide_eq_false_iff_not, decide_true, decide_false,
 Int.toNat_natCast, Int.ofNat_lt, Int.ofNat_le, Int.natCast_inj, Bool.false_eq_true, Bool.true_eq_false, qcjz, List.getElem?_cons_zero, List.getElem?_cons_succ, qckz, Int.reduceToNat, Int.reduceLE, true_and, and_true, reduceCtorEq, or_false, false_or, or_true, Option.some.injEq, exists_eq_left', Bool.not_true, Bool.not_false, ne_eq, Int.reduceEq, not_true_eq_false, not_false_eq_true, Int.reduceLT, UInt8.reduceLT, UInt8.reduceLE, UInt8.reduceToNat]
        exact ⟨⟨by simp, rfl, Nat.le_refl _, by simp⟩, q, decide (f1 = 0), rfl, rfl, fin⟩
    · have c1 : ¬ how = [98] := fun h => c0 (low_98.2 (.inl h))
      have c2 : ¬ how = [66] := fun h => c0 (low_98.2 (.inr h))
      simp (maxSteps := 1000000) (disch := omega) only [h4, h5, h6, i2, i3, c1, c2, qaaz, qabz, qacz, qadz, qaez, qafz, qagz, qahz, qaiz, qajz, qakz, qalz, qamz, qanz, evOp, qaoz, qapz, qaqz, qarz, qasz, qatz, qauz, qavz,
 ↓reduceIte, Nat.reduceEqDiff, List.nil_append, List.cons_append, List.append_nil, List.map_cons, List.map_nil, qawz, qaxz, qayz, Option.map_some, Option.map_none, qazz, qbaz, qbbz, qbcz, qbdz, qbez, qbfz, qbgz, qbhz, qbiz, qbjz, qbkz, qblz, qbmz, qbnz, qboz,
 qbpz, qbqz, qbrz, qbsz, qbtz, qbuz, qbvz, qbwz, qbxz, qbyz, qbzz, qcaz, qcbz, qccz, qcdz, qcez, qcfz, qcgz, qchz, qciz, beq_true, beq_false, Bool.not_eq_true', decide_eq_true_eq, decide_eq_false_iff_not, decide_true, decide_false,
 Int.toNat_natCast, Int.ofNat_lt, Int.ofNat_le, Int.natCast_inj, Bool.false_eq_true, Bool.true_eq_false, qcjz, List.getElem?_cons_zero, List.getElem?_cons_succ, qckz, Int.reduceToNat, Int.reduceLE, true_and, and_true, reduceCtorEq, or_false, false_or, or_true, Option.some.injEq, exists_eq_left', Bool.not_true, Bool.not_false, ne_eq, Int.reduceEq, not_true_eq_false, not_false_eq_true, Int.reduceLT, UInt8.reduceLT, UInt8.reduceLE, UInt8.reduceToNat]
      exact ⟨hk1, _, _, rfl, rfl, by rw [hM]; dsimp only; rw [if_neg c0]⟩
  clear h4 h5 h6 E
  rintro E S ⟨hk, h4, q, b, h5, h6, hqb⟩
  rw [hM] at hqb
  refine W_cut (fun E S => Kept st S ∧ E 4 = v ∧ ∃ q b, E 5 = .str q ∧ E 6 = .bool b ∧ (match decT how text with | none => b = false | some p => q = p ∧ b = true)) ?_ ?_
  · by_cases c0 : lowOf how = [113]
    · have c9 : ¬ lowOf how = [98] := by rw [c0]; decide
      have hdT : decT how text = shV text := by unfold decT; rw [if_neg c9, if_pos c0]
      rw [hdT]
      have hsh := fun S : St => rshort_spec (st := S) (l := text) (by omega)
      have fin : (match shV text with | none => (shV text).isSome = false | some p => (shV text).getD [] = p ∧ (shV text).isSome = true) := by
        cases shV text with
        | none => rfl
        | some p => exact ⟨rfl, rfl⟩
      rcases low_113.1 c0 with c1 | c1
      · have c2 : ¬ how = [81] := by rw [c1]; decide
        simp (maxSteps := 1000000) (disch := omega) only [h4, h5, h6, i2, i3, eq_true c1, c2, hsh, qaaz, qabz, qacz, qadz, qaez, qafz, qagz, qahz, qaiz, qajz, qakz, qalz, qamz, qanz, evOp, qaoz, qapz, qaqz, qarz, qasz, qatz, qauz, qavz,
 ↓reduceIte, Nat.reduceEqDiff, List.nil_append, List.cons_append, List.append_nil, List.map_cons, List.map_nil, qawz, qaxz, qayz, Option.map_some, Option.map_none, qazz, qbaz, qbbz, qbcz, qbdz, qbez, qbfz, qbgz, qbhz, qbiz, qbjz, qbkz, qblz, qbmz, qbnz, qboz,
 qbpz, qbqz, qbrz, qbsz, qbtz, qbuz, qbvz, qbwz, qbxz, qbyz, qbzz, qcaz, qcbz, qccz, qcdz, qcez, qcfz, qcgz, qchz, qciz, beq_true, beq_false, Bool.not_eq_true', decide_eq_true_eq, decide_eq_false_iff_not, decide_true, decide_false,
 Int.toNat_natCast, Int.ofNat_lt, Int.ofNat_le, Int.natCast_inj, Bool.false_eq_true, Bool.true_eq_false, qcjz, List.getElem?_cons_zero, List.getElem?_cons_succ, qckz, Int.reduceToNat, Int.reduceLE, true_and, and_true, reduceCtorEq, or_false, false_or, or_true, Option.some.injEq, exists_eq_left', Bool.not_true, Bool.not_false, ne_eq, Int.reduceEq, not_true_eq_false, not_false_eq_true, Int.reduceLT, UInt8.reduceLT, UInt8.reduceLE, UInt8.reduceToNat]
        exact ⟨hk, _, _, rfl, rfl, fin⟩
      · simp (maxSteps := 1000000) (disch := omega) only [h4, h5, h6, i2, i3, eq_true c1, hsh, qaaz, qabz, qacz, qadz, qaez, qafz, qagz, qahz, qaiz, qajz, qakz, qalz, qamz, qanz, evOp, qaoz, qapz, qaqz, qarz, qasz, qatz, qauz, qavz,
 ↓reduceIte, Nat.reduceEqDiff, List.nil_append, List.cons_append, List.append_nil, List.map_cons, List.map_nil, qawz, qaxz, qayz, Option.map_some, Option.map_none, qazz, qbaz, qbbz, qbcz, qbdz, qbez, qbfz, qbgz, qbhz, qbiz, qbjz, qbkz, qblz, qbmz, qbnz, qboz,
 qbpz, qbqz, qbrz, qbsz, qbtz, qbuz, qbvz, qbwz, qbxz, qbyz, qbzz, qcaz, qcbz, qccz, qcdz, qcez, qcfz, qcgz, qchz, qciz, beq_true, beq_false, Bool.not_eq_true', decide_eq_true_eq, decide_eq_false_iff_not, decide_true, decide_false,
 Int.toNat_natCast, Int.ofNat_lt, Int.ofNat_le, Int.natCast_inj, Bool.false_eq_true, Bool.true_eq_false, qcjz, List.getElem?_cons_zero, List.getElem?_cons_succ, qckz, Int.reduceToNat, Int.reduceLE, true_and, and_true, reduceCtorEq, or_false, false_or, or_true, Option.some.injEq, exists_eq_left', Bool.not_true, Bool.not_false, ne_eq, Int.reduceEq, not_true_eq_false, not_false_eq_true, Int.reduceLT, UInt8.reduceLT, UInt8.reduceLE, UInt8.reduceToNat]
        exact ⟨hk, _, _, rfl, rfl, fin⟩
    · have c1 : ¬ how = [113] := fun h => c0 (low_113.2 (.inl h))
      have c2 : ¬ how = [81] := fun h => c0 (low_113.2 (.inr h))
      have hdT : decT how text = if lowOf how = [98] then dec64 text else none := by unfold decT; rw [if_neg c0]
      rw [hdT]
      simp (maxSteps := 1000000) (disch := omega) only [h4, h5, h6, i2, i3, c1, c2, qaaz, qabz, qacz, qadz, qaez, qafz, qagz, qahz, qaiz, qajz, qakz, qalz, qamz, qanz, evOp, qaoz, qapz, qaqz, qarz, qasz, qatz, qauz, qavz,
 ↓reduceIte, Nat.reduceEqDiff, List.nil_append, List.cons_append, List.append_nil, List.map_cons, List.map_nil, qawz, qaxz, qayz, Option.map_some, Option.map_none, qazz, qbaz, qbbz, qbcz, qbdz, qbez, qbfz, qbgz, qbhz, qbiz, qbjz, qbkz, qblz, qbmz, qbnz, qboz,
 qbpz, qbqz, qbrz, qbsz, qbtz, qbuz, qbvz, qbwz, qbxz, qbyz, qbzz, qcaz, qcbz, qccz, qcdz, qcez, qcfz, qcgz, qchz, qciz, beq_true, beq_false, Bool.not_eq_true', decide_eq_true_eq, decide_eq_false_iff_not, decide_true, decide_false,
 Int.toNat_natCast, Int.ofNat_lt, Int.ofNat_le, Int.natCast_inj, Bool.false_eq_true, Bool.true_eq_false, qcjz, List.getElem?_cons_zero, List.getElem?_cons_succ, qckz, Int.reduceToNat, Int.reduceLE, true_and, and_true, reduceCtorEq, or_false, false_or, or_true, Option.some.injEq, exists_eq_left', Bool.not_true, Bool.not_false, ne_eq, Int.reduceEq, not_true_eq_false, not_false_eq_true, Int.reduceLT, UInt8.reduceLT, UInt8.reduceLE, UInt8.reduceToNat]
      refine ⟨hk, _, _, rfl, rfl, ?_⟩
      by_cases c9 : lowOf how = [98]
      · rw [if_pos c9] at hqb ⊢; exact hqb
      · rw [if_neg c9] at hqb ⊢; exact hqb
  clear h4 h5 h6 hk hqb E
  rintro E S ⟨hk, h4, q, b, h5, h6, hq⟩
  obtain ⟨L, hL⟩ : ∃ L, L = lowOf set := ⟨_, rfl⟩
  have hlw := fun S : St => rLower_spec (st := S) (l := set) (by omega)
  rw [← hL] at hlw
  refine W_cut (fun E S => Kept st S ∧ E 5 = .str q ∧ E 6 = .bool b ∧ E 9 = .str L) ?_ ?_
  · simp (maxSteps := 1000000) (disch := omega) only [h4, h5, h6, i1, hlw, qaaz, qabz, qacz, qadz, qaez, qafz, qagz, qahz, qaiz, qajz, qakz, qalz, qamz, qanz, evOp, qaoz, qapz, qaqz, qarz, qasz, qatz, qauz, qavz,
 ↓reduceIte, Nat.reduceEqDiff, List.nil_append, List.cons_append, List.append_nil, List.map_cons, List.map_nil, qawz, qaxz, qayz, Option.map_some, Option.map_none, qazz, qbaz, qbbz, qbcz, qbdz, qbez, qbfz, qbgz, qbhz, qbiz, qbjz, qbkz, qblz, qbmz, qbnz, qboz,
 qbpz, qbqz, qbrz, qbsz, qbtz, qbuz, qbvz, qbwz, qbxz, qbyz, qbzz, qcaz, qcbz, qccz, qcdz, qcez, qcfz, qcgz, qchz, qciz, beq_true, beq_false, Bool.not_eq_true', decide_eq_true_eq, decide_eq_false_iff_not, decide_true, decide_false,
 Int.toNat_natCast, Int.ofNat_lt, Int.ofNat_le, Int.natCast_inj, Bool.false_eq_true, Bool.true_eq_false, qcjz, List.getElem?_cons_zero, List.getElem?_cons_succ, qckz, Int.reduceToNat, Int.reduceLE, true_and, and_true, reduceCtorEq, or_false, false_or, or_true, Option.some.injEq, exists_eq_left', Bool.not_true, Bool.not_false, ne_eq, Int.reduceEq, not_true_eq_false, not_false_eq_true, Int.reduceLT, UInt8.reduceLT, UInt8.reduceLE, UInt8.reduceToNat]
    exact hk
  clear h4 h5 h6 hk E
  rintro E S ⟨hk, h8, h9, h5⟩
  have hdl : ∀ p, decT how text = some p → p.length ≤ 3 * text.length := fun p h => decT_len h
  have hP : oneV s = (match decT how text with | none => ([], false) | some p => if okT set p = true then (p, true) else ([], false)) := hO2
  generalize decT how text = dt at hq hdl hP
  cases dt with
  | none =>
    have hb : b = false := hq
    rw [hb] at h9
    refine W_cutW (fun _ _ => False) ?_ (fun _ _ h => h.elim)
    simp (maxSteps := 1000000) (disch := omega) only [h5, h8, h9, qaaz, qabz, qacz, qadz, qaez, qafz, qagz, qahz, qaiz, qajz, qakz, qalz, qamz, qanz, evOp, qaoz, qapz, qaqz, qarz, qasz, qatz, qauz, qavz,
 ↓reduceIte, Nat.reduceEqDiff, List.nil_append, List.cons_append, List.append_nil, List.map_cons, List.map_nil, qawz, qaxz, qayz, Option.map_some, Option.map_none, qazz, qbaz, qbbz, qbcz, qbdz, qbez, qbfz, qbgz, qbhz, qbiz, qbjz, qbkz, qblz, qbmz, qbnz, qboz,
 qbpz, qbqz, qbrz, qbsz, qbtz, qbuz, qbvz, qbwz, qbxz, qbyz, qbzz, qcaz, qcbz, qccz, qcdz, qcez, qcfz, qcgz, qchz, qciz, beq_true, beq_false, Bool.not_eq_true', decide_eq_true_eq, decide_eq_false_iff_not, decide_true, decide_false,
 Int.toNat_natCast, Int.ofNat_lt, Int.ofNat_le, Int.natCast_inj, Bool.false_eq_true, Bool.true_eq_false, qcjz, List.getElem?_cons_zero, List.getElem?_cons_succ, qckz, Int.reduceToNat, Int.reduceLE, true_and, and_true, reduceCtorEq, or_false, false_or, or_true, Option.some.injEq, exists_eq_left', Bool.not_true, Bool.not_false, ne_eq, Int.reduceEq, not_true_eq_false, not_false_eq_true, Int.reduceLT, UInt8.reduceLT, UInt8.reduceLE, UInt8.reduceToNat]
    exact .inr (bad _ _ hk hP rfl rfl)
  | some p =>
    obtain ⟨rfl, hb⟩ := hq
    rw [hb] at h9
    have hpl := hdl q rfl
    have hP : oneV s = if okT set q = true then (q, true) else ([], false) := hP
    have hval : ∀ S : St, ∀ t : Tok, call prog (.fn 74 []) [.bys t q] S = some (.bool (validOf q), S) := fun S t => rValid_spec qcgz (by omega)
    have hok : okT set q = ((decide (L = utf8T) || decide (L = asciiT)) && validOf q && !(decide (L = asciiT) && q.any fun c => decide (127 < c))) := by unfold okT; rw [← hL]
    have hu8 : (L = ([117, 116, 102, 45, 56] : Bs)) = (L = utf8T) := rfl
    have huA : (L = ([117, 115, 45, 97, 115, 99, 105, 105] : Bs)) = (L = asciiT) := rfl
    have no : okT set q = false → oneV s = ([], false) := fun h => by rw [hP, if_neg (by rw [h]; decide)]
    by_cases hset : L = utf8T ∨ L = asciiT
    rotate_left
    · have c1 : ¬ L = utf8T := fun h => hset (.inl h)
      have c2 : ¬ L = asciiT := fun h => hset (.inr h)
      refine W_cutW (fun _ _ => False) ?_ (fun _ _ h => h.elim)
      simp (maxSteps := 1000000) (disch := omega) only [h5, h8, h9, hu8, huA, c1, c2, qaaz, qabz, qacz, qadz, qaez, qafz, qagz, qahz, qaiz, qajz, qakz, qalz, qamz, qanz, evOp, qaoz, qapz, qaqz, qarz, qasz, qatz, qauz, qavz,
 ↓reduceIte, Nat.reduceEqDiff, List.nil_append, List.cons_append, List.append_nil, List.map_cons, List.map_nil, qawz, qaxz, qayz, Option.map_some, Option.map_none, qazz, qbaz, qbbz, qbcz, qbdz, qbez, qbfz, qbgz, qbhz, qbiz, qbjz, qbkz, qblz, qbmz, qbnz, qboz,
 qbpz, qbqz, qbrz, qbsz, qbtz, qbuz, qbvz, qbwz, qbxz, qbyz, qbzz, qcaz, qcbz, qccz, qcdz, qcez, qcfz, qcgz, qchz, qciz, beq_true, beq_false, Bool.not_eq_true', decide_eq_true_eq, decide_eq_false_iff_not, decide_true, decide_false,
 Int.toNat_natCast, Int.ofNat_lt, Int.ofNat_le, Int.natCast_inj, Bool.false_eq_true, Bool.true_eq_false, qcjz, List.getElem?_cons_zero, List.getElem?_cons_succ, qckz, Int.reduceToNat, Int.reduceLE, true_and, and_true, reduceCtorEq, or_false, false_or, or_true, Option.some.injEq, exists_eq_left', Bool.not_true, Bool.not_false, ne_eq, Int.reduceEq, not_true_eq_false, not_false_eq_true, Int.reduceLT, UInt8.reduceLT, UInt8.reduceLE, UInt8.reduceToNat]
      exact .inr (bad _ _ hk (no (by rw [hok]; simp [c1, c2])) rfl rfl)
    have hne : utf8T ≠ asciiT := by decide
    obtain ⟨J, hJ⟩ : ∃ J : Env → St → Prop, J = fun E S => Kept st S ∧ E 9 = .str L ∧ E 5 = .str q ∧ validOf q = true := ⟨_, rfl⟩
    refine W_cutW J ?_ ?_
    · cases hv : validOf q with
      | false =>
        rw [hv] at hval
        have hno := no (by rw [hok, hv]; simp)
        rcases hset with c1 | c1
        · simp (maxSteps := 1000000) (disch := omega) only [h5, h8, h9, hu8, huA, eq_true c1, freshT, hval, qaaz, qabz, qacz, qadz, qaez, qafz, qagz, qahz, qaiz, qajz, qakz, qalz, qamz, qanz, evOp, qaoz, qapz, qaqz, qarz, qasz, qatz, qauz, qavz,
 ↓reduceIte, Nat.reduceEqDiff, List.nil_append, List.cons_append, List.append_nil, List.map_cons, List.map_nil, qawz, qaxz, qayz, Option.map_some, Option.map_none, qazz, qbaz, qbbz, qbcz, qbdz, qbez, qbfz, qbgz, qbhz, qbiz, qbjz, qbkz, qblz, qbmz, qbnz, qboz,
 qbpz, qbqz, qbrz, qbsz, qbtz, qbuz, qbvz, qbwz, qbxz, qbyz, qbzz, qcaz, qcbz, qccz, qcdz, qcez, qcfz, qcgz, qchz, qciz, beq_true, beq_false, Bool.not_eq_true', decide_eq_true_eq, decide_eq_false_iff_not, decide_true, decide_false,
 Int.toNat_natCast, Int.ofNat_lt, Int.ofNat_le, Int.natCast_inj, Bool.false_eq_true, Bool.true_eq_false, qcjz, List.getElem?_cons_zero, List.getElem?_cons_succ, qckz, Int.reduceToNat, Int.reduceLE, true_and, and_true, reduceCtorEq, or_false, false_or, or_true, Option.some.injEq, exists_eq_left', Bool.not_true, Bool.not_false, ne_eq, Int.reduceEq, not_true_eq_false, not_false_eq_true, Int.reduceLT, UInt8.reduceLT, UInt8.reduceLE, UInt8.reduceToNat]
          exact .inr (bad _ _ hk.tok1 hno rfl rfl)
        · have c2 : ¬ L = utf8T := fun h => hne (h.symm.trans c1)
          simp (maxSteps := 1000000) (disch := omega) only [h5, h8, h9, hu8, huA, c2, eq_true c1, freshT, hval, qaaz, qabz, qacz, qadz, qaez, qafz, qagz, qahz, qaiz, qajz, qakz, qalz, qamz, qanz, evOp, qaoz, qapz, qaqz, qarz, qasz, qatz, qauz, qavz,
 ↓reduceIte, Nat.reduceEqDiff, List.nil_append, List.cons_append, List.append_nil, List.map_cons, List.map_nil, qawz, qaxz, qayz, Option.map_some, Option.map_none, qazz, qbaz, qbbz, qbcz, qbdz, qbez, qbfz, qbgz, qbhz, qbiz, qbjz, qbkz, qblz, qbmz, qbnz, qboz,
 qbpz, qbqz, qbrz, qbsz, qbtz, qbuz, qbvz, qbwz, qbxz, qbyz, qbzz, qcaz, qcbz, qccz, qcdz, qcez, qcfz, qcgz, qchz, qciz, beq_true, beq_false, Bool.not_eq_true', decide_eq_true_eq, decide_eq_false_iff_not, decide_true, decide_false,
 Int.toNat_natCast, Int.ofNat_lt, Int.ofNat_le, Int.natCast_inj, Bool.false_eq_true, Bool.true_eq_false, qcjz, List.getElem?_cons_zero, List.getElem?_cons_succ, qckz, Int.reduceToNat, Int.reduceLE, true_and, and_true, reduceCtorEq, or_false, false_or, or_true, Option.some.injEq, exists_eq_left', Bool.not_true, Bool.not_false, ne_eq, Int.reduceEq, not_true_eq_false, not_false_eq_true, Int.reduceLT, UInt8.reduceLT, UInt8.reduceLE, UInt8.reduceToNat]
          exact .inr (bad _ _ hk.tok1 hno rfl rfl)
      | true =>
        rw [hv] at hval hJ
        rcases hset with c1 | c1
        · simp (maxSteps := 1000000) (disch := omega) only [h5, h8, h9, hu8, huA, eq_true c1, freshT, hval, qaaz, qabz, qacz, qadz, qaez, qafz, qagz, qahz, qaiz, qajz, qakz, qalz, qamz, qanz, evOp, qaoz, qapz, qaqz, qarz, qasz, qatz, qauz, qavz,
 ↓reduceIte, Nat.reduceEqDiff, List.nil_append, List.cons_append, List.append_nil, List.map_cons, List.map_nil, qawz, qaxz, qayz, Option.map_some, Option.map_none, qazz, qbaz, qbbz, qbcz, qbdz, qbez, qbfz, qbgz, qbhz, qbiz, qbjz, qbkz, qblz, qbmz, qbnz, qboz,
 qbpz, qbqz, qbrz, qbsz, qbtz, qbuz, qbvz, qbwz, qbxz, qbyz, qbzz, qcaz, qcbz, qccz, qcdz, qcez, qcfz, qcgz, qchz, qciz, beq_true, beq_false, Bool.not_eq_true', decide_eq_true_eq, decide_eq_false_iff_not, decide_true, decide_false,
 Int.toNat_natCast, Int.ofNat_lt, Int.ofNat_le, Int.natCast_inj, Bool.false_eq_true, Bool.true_eq_false, qcjz, List.getElem?_cons_zero, List.getElem?_cons_succ, qckz, Int.reduceToNat, Int.reduceLE, true_and, and_true, reduceCtorEq, or_false, false_or, or_true, Option.some.injEq, exists_eq_left', Bool.not_true, Bool.not_false, ne_eq, Int.reduceEq, not_true_eq_false, not_false_eq_true, Int.reduceLT, UInt8.reduceLT, UInt8.reduceLE, UInt8.reduceToNat]
          rw [hJ]; exact .inl ⟨hk.tok1, h5, h8, rfl⟩
        · have c2 : ¬ L = utf8T := fun h => hne (h.symm.trans c1)
          simp (maxSteps := 1000000) (disch := omega) only [h5, h8, h9, hu8, huA, c2, eq_true c1, freshT, hval, qaaz, qabz, qacz, qadz, qaez, qafz, qagz, qahz, qaiz, qajz, qakz, qalz, qamz, qanz, evOp, qaoz, qapz, qaqz, qarz, qasz, qatz, qauz, qavz,
 ↓reduceIte, Nat.reduceEqDiff, List.nil_append, List.cons_append, List.append_nil, List.map_cons, List.map_nil, qawz, qaxz, qayz, Option.map_some, Option.map_none, qazz, qbaz, qbbz, qbcz, qbdz, qbez, qbfz, qbgz, qbhz, qbiz, qbjz, qbkz, qblz, qbmz, qbnz, qboz,
 qbpz, qbqz, qbrz, qbsz, qbtz, qbuz, qbvz, qbwz, qbxz, qbyz, qbzz, qcaz, qcbz, qccz, qcdz, qcez, qcfz, qcgz, qchz, qciz, beq_true, beq_false, Bool.not_eq_true', decide_eq_true_eq, decide_eq_false_iff_not, decide_true, decide_false,
 Int.toNat_natCast, Int.ofNat_lt, Int.ofNat_le, Int.natCast_inj, Bool.false_eq_true, Bool.true_eq_false, qcjz, List.getElem?_cons_zero, List.getElem?_cons_succ, qckz, Int.reduceToNat, Int.reduceLE, true_and, and_true, reduceCtorEq, or_false, false_or, or_true, Option.some.injEq, exists_eq_left', Bool.not_true, Bool.not_false, ne_eq, Int.reduceEq, not_true_eq_false, not_false_eq_true, Int.reduceLT, UInt8.reduceLT, UInt8.reduceLE, UInt8.reduceToNat]
          rw [hJ]; exact .inl ⟨hk.tok1, h5, h8, rfl⟩
    · clear h5 h8 h9 hk
      intro E S hj
      rw [hJ] at hj
      obtain ⟨hk, h9, h5, hv⟩ := hj
      have hokL : okT set q = !(decide (L = asciiT) && q.any fun c => decide (127 < c)) := by
        rw [hok, hv]
        rcases hset with c1 | c1 <;> simp [c1]
      simp (maxSteps := 1000000) (disch := omega) only [h5, h9, qaaz, qabz, qacz, qadz, qaez, qafz, qagz, qahz, qaiz, qajz, qakz, qalz, qamz, qanz, evOp, qaoz, qapz, qaqz, qarz, qasz, qatz, qauz, qavz,
 ↓reduceIte, Nat.reduceEqDiff, List.nil_append, List.cons_append, List.append_nil, List.map_cons, List.map_nil, qawz, qaxz, qayz, Option.map_some, Option.map_none, qazz, qbaz, qbbz, qbcz, qbdz, qbez, qbfz, qbgz, qbhz, qbiz, qbjz, qbkz, qblz, qbmz, qbnz, qboz,
 qbpz, qbqz, qbrz, qbsz, qbtz, qbuz, qbvz, qbwz, qbxz, qbyz, qbzz, qcaz, qcbz, qccz, qcdz, qcez, qcfz, qcgz, qchz, qciz, beq_true, beq_false, Bool.not_eq_true', decide_eq_true_eq, decide_eq_false_iff_not, decide_true, decide_false,
 Int.toNat_natCast, Int.ofNat_lt, Int.ofNat_le, Int.natCast_inj, Bool.false_eq_true, Bool.true_eq_false, qcjz, List.getElem?_cons_zero, List.getElem?_cons_succ, qckz, Int.reduceToNat, Int.reduceLE, true_and, and_true, reduceCtorEq, or_false, false_or, or_true, Option.some.injEq, exists_eq_left', Bool.not_true, Bool.not_false, ne_eq, Int.reduceEq, not_true_eq_false, not_false_eq_true, Int.reduceLT, UInt8.reduceLT, UInt8.reduceLE, UInt8.reduceToNat]
      obtain ⟨I, hI⟩ : ∃ I : Nat → Env → St → Prop, I = fun k E S => ∃ i : Nat, k = q.length - i ∧ i ≤ q.length ∧ Kept st S ∧ (L = asciiT → ∀ j, j < i → decide (127 < q.getD j 0) = false) ∧ E 9 = .str L ∧ E 5 = .str q ∧ E 10 = .int .i64 (i : Int) := ⟨_, rfl⟩
      refine W_loop I ?_ (n := q.length) (by
        rw [hI]
        exact ⟨0, rfl, by omega, hk, fun _ j h => by omega, h9, h5, rfl⟩)
      intro k E S hh
      rw [hI] at hh
      obtain ⟨i, rfl, hi, hk, hall, g9, g5, g10⟩ := hh
      have next : ∀ E2 : Env, (L = asciiT → decide (127 < q.getD i 0) = false) → i < q.length → E2 9 = .str L → E2 5 = .str q → E2 10 = .int .i64 ((i + 1 : Nat) : Int) → ∃ m, m < q.length - i ∧ I m E2 S := fun E2 hc hlt e9 e5 e10 => by
        refine ⟨q.length - (i + 1), by omega, ?_⟩
        rw [hI]
        refine ⟨i + 1, rfl, by omega, hk, fun h j hj => ?_, e9, e5, e10⟩
        by_cases hji : j = i
        · subst hji; exact hc h
        · exact hall h j (by omega)
      by_cases hlt : i < q.length
      · obtain ⟨c, hc⟩ : ∃ c, c = q.getD i 0 := ⟨_, rfl⟩
        by_cases c2 : 127 < c
        · by_cases c1 : L = asciiT
          · simp (maxSteps := 1000000) (disch := omega) only [g5, g9, g10, len_s, hlt, huA, eq_true c1, idx_s, ← hc, ge128, c2, qaaz, qabz, qacz, qadz, qaez, qafz, qagz, qahz, qaiz, qajz, qakz, qalz, qamz, qanz, evOp, qaoz, qapz, qaqz, qarz, qasz, qatz, qauz, qavz,
 ↓reduceIte, Nat.reduceEqDiff, List.nil_append, List.cons_append, List.append_nil, List.map_cons, List.map_nil, qawz, qaxz, qayz, Option.map_some, Option.map_none, qazz, qbaz, qbbz, qbcz, qbdz, qbez, qbfz, qbgz, qbhz, qbiz, qbjz, qbkz, qblz, qbmz, qbnz, qboz,
 qbpz, qbqz, qbrz, qbsz, qbtz, qbuz, qbvz, qbwz, qbxz, qbyz, qbzz, qcaz, qcbz, qccz, qcdz, qcez, qcfz, qcgz, qchz, qciz, beq_true, beq_false, Bool.not_eq_true', decide_eq_true_eq, decide_eq_false_iff_not, decide_true, decide_false,
 Int.toNat_natCast, Int.ofNat_lt, Int.ofNat_le, Int.natCast_inj, Bool.false_eq_true, Bool.true_eq_false, qcjz, List.getElem?_cons_zero, List.getElem?_cons_succ, qckz, Int.reduceToNat, Int.reduceLE, true_and, and_true, reduceCtorEq, or_false, false_or, or_true, Option.some.injEq, exists_eq_left', Bool.not_true, Bool.not_false, ne_eq, Int.reduceEq, not_true_eq_false, not_false_eq_true, Int.reduceLT, UInt8.reduceLT, UInt8.reduceLE, UInt8.reduceToNat]
            refine bad _ _ hk (no ?_) rfl rfl
            rw [hokL, any_getD hlt (by rw [← hc]; simpa using c2)]; simp [c1]
          · simp (maxSteps := 1000000) (disch := omega) only [g5, g9, g10, len_s, hlt, huA, c1, idx_s, ← hc, ge128, c2, add_n, loopQ_normal, qaaz, qabz, qacz, qadz, qaez, qafz, qagz, qahz, qaiz, qajz, qakz, qalz, qamz, qanz, evOp, qaoz, qapz, qaqz, qarz, qasz, qatz, qauz, qavz,
 ↓reduceIte, Nat.reduceEqDiff, List.nil_append, List.cons_append, List.append_nil, List.map_cons, List.map_nil, qawz, qaxz, qayz, Option.map_some, Option.map_none, qazz, qbaz, qbbz, qbcz, qbdz, qbez, qbfz, qbgz, qbhz, qbiz, qbjz, qbkz, qblz, qbmz, qbnz, qboz,
 qbpz, qbqz, qbrz, qbsz, qbtz, qbuz, qbvz, qbwz, qbxz, qbyz, qbzz, qcaz, qcbz, qccz, qcdz, qcez, qcfz, qcgz, qchz, qciz, beq_true, beq_false, Bool.not_eq_true', decide_eq_true_eq, decide_eq_false_iff_not, decide_true, decide_false,
 Int.toNat_natCast, Int.ofNat_lt, Int.ofNat_le, Int.natCast_inj, Bool.false_eq_true, Bool.true_eq_false, qcjz, List.getElem?_cons_zero, List.getElem?_cons_succ, qckz, Int.reduceToNat, Int.reduceLE, true_and, and_true, reduceCtorEq, or_false, false_or, or_true, Option.some.injEq, exists_eq_left', Bool.not_true, Bool.not_false, ne_eq, Int.reduceEq, not_true_eq_false, not_false_eq_true, Int.reduceLT, UInt8.reduceLT, UInt8.reduceLE, UInt8.reduceToNat]
            exact next _ (fun h => absurd h c1) hlt g9 g5 rfl
        · simp (maxSteps := 1000000) (disch := omega) only [g5, g9, g10, len_s, hlt, huA, idx_s, ← hc, ge128, c2, add_n, loopQ_normal, qaaz, qabz, qacz, qadz, qaez, qafz, qagz, qahz, qaiz, qajz, qakz, qalz, qamz, qanz, evOp, qaoz, qapz, qaqz, qarz, qasz, qatz, qauz, qavz,
 ↓reduceIte, Nat.reduceEqDiff, List.nil_append, List.cons_append, List.append_nil, List.map_cons, List.map_nil, qawz, qaxz, qayz, Option.map_some, Option.map_none, qazz, qbaz, qbbz, qbcz, qbdz, qbez, qbfz, qbgz, qbhz, qbiz, qbjz, qbkz, qblz, qbmz, qbnz, qboz,
 qbpz, qbqz, qbrz, qbsz, qbtz, qbuz, qbvz, qbwz, qbxz, qbyz, qbzz, qcaz, qcbz, qccz, qcdz, qcez, qcfz, qcgz, qchz, qciz, beq_true, beq_false, Bool.not_eq_true', decide_eq_true_eq, decide_eq_false_iff_not, decide_true, decide_false,
 Int.toNat_natCast, Int.ofNat_lt, Int.ofNat_le, Int.natCast_inj, Bool.false_eq_true, Bool.true_eq_false, qcjz, List.getElem?_cons_zero, List.getElem?_cons_succ, qckz, Int.reduceToNat, Int.reduceLE, true_and, and_true, reduceCtorEq, or_false, false_or, or_true, Option.some.injEq, exists_eq_left', Bool.not_true, Bool.not_false, ne_eq, Int.reduceEq, not_true_eq_false, not_false_eq_true, Int.reduceLT, UInt8.reduceLT, UInt8.reduceLE, UInt8.reduceToNat]
          exact next _ (fun _ => by rw [← hc]; simpa using c2) hlt g9 g5 rfl
      · simp (maxSteps := 1000000) (disch := omega) only [g5, g9, g10, len_s, hlt, qaaz, qabz, qacz, qadz, qaez, qafz, qagz, qahz, qaiz, qajz, qakz, qalz, qamz, qanz, evOp, qaoz, qapz, qaqz, qarz, qasz, qatz, qauz, qavz,
 ↓reduceIte, Nat.reduceEqDiff, List.nil_append, List.cons_append, List.append_nil, List.map_cons, List.map_nil, qawz, qaxz, qayz, Option.map_some, Option.map_none, qazz, qbaz, qbbz, qbcz, qbdz, qbez, qbfz, qbgz, qbhz, qbiz, qbjz, qbkz, qblz, qbmz, qbnz, qboz,
 qbpz, qbqz, qbrz, qbsz, qbtz, qbuz, qbvz, qbwz, qbxz, qbyz, qbzz, qcaz, qcbz, qccz, qcdz, qcez, qcfz, qcgz, qchz, qciz, beq_true, beq_false, Bool.not_eq_true', decide_eq_true_eq, decide_eq_false_iff_not, decide_true, decide_false,
 Int.toNat_natCast, Int.ofNat_lt, Int.ofNat_le, Int.natCast_inj, Bool.false_eq_true, Bool.true_eq_false, qcjz, List.getElem?_cons_zero, List.getElem?_cons_succ, qckz, Int.reduceToNat, Int.reduceLE, true_and, and_true, reduceCtorEq, or_false, false_or, or_true, Option.some.injEq, exists_eq_left', Bool.not_true, Bool.not_false, ne_eq, Int.reduceEq, not_true_eq_false, not_false_eq_true, Int.reduceLT, UInt8.reduceLT, UInt8.reduceLE, UInt8.reduceToNat]
        rw [hQ0, qblz, hP, if_pos]
        · exact retV2 rfl rfl rfl rfl hk ⟨fun _ => rfl, fun _ _ => rfl⟩
        · rw [hokL]
          by_cases c1 : L = asciiT
          · rw [any_none fun j hj => hall c1 j (by omega)]; simp
          · simp [c1]
end Go.Ab

/-
  The document's texts of words; the law WordDecodes, given the document's reader of signs.
-/
namespace Go.Ab
set_option linter.unusedVariables false
set_option linter.unusedSimpArgs false
set_option maxRecDepth 20000
variable {st s : St} {e : Env}

theorem oneV_len (s : Bs) : (oneV s).1.length ≤ 3 * s.length := by
  have hlen := split_len (sep := 63) s []
  unfold oneV
  split
  · simp
  · split
    · rename_i a set how text z h
      rw [h] at hlen
      have l3 := hlen text (by simp)
      simp only [List.length_nil, Nat.zero_add] at l3
      split
      · unfold oneP
        cases hd : decT how text with
        | none => simp
        | some p =>
          have := decT_len hd
          simp only
          split
          · simp only; omega
          · simp
      · simp
    · simp
theorem decG_len {one : Bs → Bs × Bool} {N : Nat} : ∀ (xs : List Bs) (f l : Bool), (∀ x ∈ xs, x.length ≤ N ∧ (one x).1.length ≤ N) → (decG one f l xs).length ≤ xs.length * (N + 1)
  | [], _, _, _ => by simp [decG]
  | x :: r, f, l, h => by
    have ih := decG_len (one := one) r false (one x).2 fun y hy => h y (by simp [hy])
    have hx := h x (by simp)
    rw [decG, List.length_append, List.length_append, List.length_cons, Nat.add_mul, Nat.one_mul]
    have h1 : (if f = false ∧ ((one x).2 && l) = false then ([32] : Bs) else []).length ≤ 1 := by split <;> simp
    have h2 : (if (one x).2 = true then (one x).1 else x).length ≤ N := by split <;> omega
    omega

set_option maxHeartbeats 4000000 in
theorem rDecode_of {s : Bs} (hl : s.length ≤ 10000) (hone : ∀ (S : St) (x : Bs), x.length ≤ 10000 → call prog (.fn 228 []) [.str x] S = some (.tup [.str (oneV x).1, .bool (oneV x).2], S)) :
    call prog (.fn 230 []) [.str s] st = some (.str (decW oneV s), st) := by
  refine call_of_W prog_230 ?_
  unfold F_posthornref04_Decode; dsimp only
  obtain ⟨xs, hxs⟩ : ∃ xs, xs = splitOn 32 [] s := ⟨_, rfl⟩
  have hlen := split_len (sep := 32) s []
  have hnum := split_num (sep := 32) s []
  simp only [List.length_nil, Nat.zero_add] at hlen
  obtain ⟨v, hvv⟩ : ∃ v, v = newSl (⟨st.boxes, st.toks, st.loops, st.boxes.length⟩ : St) 1 (xs.map .str) := ⟨_, rfl⟩
  have hvs : v.vs 1 = some (xs.map .str) := by rw [hvv]; exact newSl_vs
  have hpt : call prog (.fn 215 []) [.str s, .b8 32] ⟨st.boxes, st.toks, st.loops, st.boxes.length⟩ = some (v, (⟨st.boxes, st.toks, st.loops, st.boxes.length⟩ : St).tok1) := by rw [Parts_spec (by omega), hvv, hxs]
  obtain ⟨S1, hS1⟩ : ∃ S1, S1 = (⟨st.boxes, st.toks, st.loops, st.boxes.length⟩ : St).tok1 := ⟨_, rfl⟩
  rw [← hS1] at hpt
  have hk1 : Kept st S1 := by rw [hS1]; exact Kept.start.tok1
  rw [← hxs] at hlen hnum
  obtain ⟨T, hT⟩ : ∃ T, T = decW oneV s := ⟨_, rfl⟩
  have hTT0 : T = decG oneV true false xs := by rw [hT, hxs]; rfl
  rw [← hT]
  have hTl : T.length ≤ xs.length * 30001 := by
    rw [hTT0]
    exact decG_len (N := 30000) xs _ _ fun x hx => ⟨by have := hlen x hx; omega, by have := hlen x hx; have := oneV_len x; omega⟩
  have hlv : lenPV false v = some (.int .i64 (xs.length : Int)) := by rw [len_vs hvs, List.length_map]
  have hel : ∀ i, i < xs.length → (xs.getD i []).length ≤ 10000 := fun i h => by
    have : xs.getD i [] ∈ xs := by simp [List.getD, h]
    have := hlen _ this; omega
  have hia : ∀ i : Nat, i < xs.length → iaddrPV 1 v (.int .i64 (i : Int)) = some (.cp [.str (xs.getD i [])]) := fun i h => by
    rw [iaddr_vs hvs (by omega) (by simpa using h)]
    simp [List.getD, h, PV.cells]
  obtain ⟨Q0, hQ0⟩ : ∃ Q0 : Ex → Env → St → Prop, Q0 = endQ st [.tmp 2] (.str T, st) := ⟨_, rfl⟩
  rw [← hQ0]
  simp (maxSteps := 1000000) (disch := omega) only [hpt, qaaz, qabz, qacz, qadz, qaez, qafz, qagz, qahz, qaiz, qajz, qakz, qalz, qamz, qanz, evOp, qaoz, qapz, qaqz, qarz, qasz, qatz, qauz, qavz,
 ↓reduceIte, Nat.reduceEqDiff, List.nil_append, List.cons_append, List.append_nil, List.map_cons, List.map_nil, qawz, qaxz, qayz, Option.map_some, Option.map_none, qazz, qbaz, qbbz, qbcz, qbdz, qbez, qbfz, qbgz, qbhz, qbiz, qbjz, qbkz, qblz, qbmz, qbnz, qboz,
 qbpz, qbqz, qbrz, qbsz, qbtz, qbuz, qbvz, qbwz, qbxz, qbyz, qbzz, qcaz, qcbz, qccz, qcdz, qcez, qcfz, qcgz, qchz, qciz, beq_true, beq_false, Bool.not_eq_true', decide_eq_true_eq, decide_eq_false_iff_not, decide_true, decide_false,
 Int.toNat_natCast, Int.ofNat_lt, Int.ofNat_le, Int.natCast_inj, Bool.false_eq_true, Bool.true_eq_false, qcjz, List.getElem?_cons_zero, List.getElem?_cons_succ, qckz, Int.reduceToNat, Int.reduceLE, true_and, and_true, reduceCtorEq, or_false, false_or, or_true, Option.some.injEq, exists_eq_left', Bool.not_true, Bool.not_false, ne_eq, Int.reduceEq, not_true_eq_false, not_false_eq_true, Int.reduceLT, UInt8.reduceLT, UInt8.reduceLE, UInt8.reduceToNat]
  obtain ⟨I, hI⟩ : ∃ I : Nat → Env → St → Prop, I = fun k E S => ∃ (i : Nat) (acc : Bs) (l : Bool), k = xs.length - i ∧ i ≤ xs.length ∧ S = S1 ∧ T = acc ++ decG oneV (decide (i = 0)) l (xs.drop i) ∧ (0 < i → l = (oneV (xs.getD (i - 1) [])).2) ∧ E 3 = v ∧ E 4 = .str acc ∧ E 5 = .int .i64 (i : Int) := ⟨_, rfl⟩
  refine W_loop I ?_ (n := xs.length) (by
    rw [hI]; exact ⟨0, [], false, rfl, by omega, rfl, hTT0, fun h => by omega, rfl, rfl, rfl⟩)
  intro k E S hh
  rw [hI] at hh
  obtain ⟨i, acc, l, rfl, hi, hS, hTT, hll, h3, h4, h5⟩ := hh
  rw [hS]; clear hS S
  have hal : acc.length ≤ T.length := by rw [hTT]; simp
  have hxl : xs.length * 30001 ≤ 10001 * 30001 := Nat.mul_le_mul_right _ (by omega)
  by_cases hlt : i < xs.length
  · obtain ⟨x, hx⟩ : ∃ x, x = xs.getD i [] := ⟨_, rfl⟩
    have hxlen : x.length ≤ 10000 := by rw [hx]; exact hel i hlt
    have hi1 := hia i hlt
    rw [← hx] at hi1
    have hdr : xs.drop i = x :: xs.drop (i + 1) := by rw [List.drop_eq_getElem_cons hlt, hx]; simp [List.getD, hlt]
    rw [hdr, decG] at hTT
    have ho := fun S : St => hone S x hxlen
    have hol := oneV_len x
    generalize hW : oneV x = W at ho hTT hol
    obtain ⟨w, b⟩ := W
    simp only at ho hTT hol
    have next : ∀ (a2 : Bs) (E2 : Env), T = a2 ++ decG oneV false b (xs.drop (i + 1)) → E2 3 = v → E2 4 = .str a2 → E2 5 = .int .i64 ((i + 1 : Nat) : Int) → ∃ m, m < xs.length - i ∧ I m E2 S1 := fun a2 E2 ht e3 e4 e5 => by
      refine ⟨xs.length - (i + 1), by omega, ?_⟩
      rw [hI]
      refine ⟨i + 1, a2, b, rfl, by omega, rfl, ?_, fun _ => ?_, e3, e4, e5⟩
      · rw [ht]; congr 1
      · rw [Nat.add_sub_cancel, ← hx, hW]
    have adx : ∀ a2 : Bs, a2.length ≤ 400000000 → binPV .add .no (.str a2) (.str w) = some (.str (a2 ++ w)) ∧ binPV .add .no (.str a2) (.str x) = some (.str (a2 ++ x)) ∧ binPV .add .no (.str a2) (.str [32]) = some (.str (a2 ++ [32])) := fun a2 h => ⟨adds (by omega), adds (by omega), adds (by simp; omega)⟩
    obtain ⟨m1, m2, m3⟩ := adx acc (by omega)
    obtain ⟨n1, n2, n3⟩ := adx (acc ++ [32]) (by simp; omega)
    by_cases h0 : i = 0
    · have h0' : ¬ (0 : Int) < (i : Int) := by omega
      rw [decide_eq_true h0, if_neg (by simp)] at hTT
      cases b with
      | true =>
        simp (maxSteps := 1000000) (disch := omega) only [h3, h4, h5, hlv, hlt, hi1, ho, h0', m1, add_n, loopQ_normal, qaaz, qabz, qacz, qadz, qaez, qafz, qagz, qahz, qaiz, qajz, qakz, qalz, qamz, qanz, evOp, qaoz, qapz, qaqz, qarz, qasz, qatz, qauz, qavz,
 ↓reduceIte, Nat.reduceEqDiff, List.nil_append, List.cons_append, List.append_nil, List.map_cons, List.map_nil, qawz, qaxz, qayz, Option.map_some, Option.map_none, qazz, qbaz, qbbz, qbcz, qbdz, qbez, qbfz, qbgz, qbhz, qbiz, qbjz, qbkz, qblz, qbmz, qbnz, qboz,
 qbpz, qbqz, qbrz, qbsz, qbtz, qbuz, qbvz, qbwz, qbxz, qbyz, qbzz, qcaz, qcbz, qccz, qcdz, qcez, qcfz, qcgz, qchz, qciz, beq_true, beq_false, Bool.not_eq_true', decide_eq_true_eq, decide_eq_false_iff_not, decide_true, decide_false,
 Int.toNat_natCast, Int.ofNat_lt, Int.ofNat_le, Int.natCast_inj, Bool.false_eq_true, Bool.true_eq_false, qcjz, List.getElem?_cons_zero, List.getElem?_cons_succ, qckz, Int.reduceToNat, Int.reduceLE, true_and, and_true, reduceCtorEq, or_false, false_or, or_true, Option.some.injEq, exists_eq_left', Bool.not_true, Bool.not_false, ne_eq, Int.reduceEq, not_true_eq_false, not_false_eq_true, Int.reduceLT, UInt8.reduceLT, UInt8.reduceLE, UInt8.reduceToNat]
        exact next (acc ++ w) _ (by rw [hTT]; simp) h3 rfl rfl
      | false =>
        simp (maxSteps := 1000000) (disch := omega) only [h3, h4, h5, hlv, hlt, hi1, ho, h0', m2, add_n, loopQ_normal, qaaz, qabz, qacz, qadz, qaez, qafz, qagz, qahz, qaiz, qajz, qakz, qalz, qamz, qanz, evOp, qaoz, qapz, qaqz, qarz, qasz, qatz, qauz, qavz,
 ↓reduceIte, Nat.reduceEqDiff, List.nil_append, List.cons_append, List.append_nil, List.map_cons, List.map_nil, qawz, qaxz, qayz, Option.map_some, Option.map_none, qazz, qbaz, qbbz, qbcz, qbdz, qbez, qbfz, qbgz, qbhz, qbiz, qbjz, qbkz, qblz, qbmz, qbnz, qboz,
 qbpz, qbqz, qbrz, qbsz, qbtz, qbuz, qbvz, qbwz, qbxz, qbyz, qbzz, qcaz, qcbz, qccz, qcdz, qcez, qcfz, qcgz, qchz, qciz, beq_true, beq_false, Bool.not_eq_true', decide_eq_true_eq, decide_eq_false_iff_not, decide_true, decide_false,
 Int.toNat_natCast, Int.ofNat_lt, Int.ofNat_le, Int.natCast_inj, Bool.false_eq_true, Bool.true_eq_false, qcjz, List.getElem?_cons_zero, List.getElem?_cons_succ, qckz, Int.reduceToNat, Int.reduceLE, true_and, and_true, reduceCtorEq, or_false, false_or, or_true, Option.some.injEq, exists_eq_left', Bool.not_true, Bool.not_false, ne_eq, Int.reduceEq, not_true_eq_false, not_false_eq_true, Int.reduceLT, UInt8.reduceLT, UInt8.reduceLE, UInt8.reduceToNat]
        exact next (acc ++ x) _ (by rw [hTT]; simp) h3 rfl rfl
    · have h0' : (0 : Int) < (i : Int) := by omega
      rw [decide_eq_false h0] at hTT
      have hll := hll (by omega)
      obtain ⟨y, hy⟩ : ∃ y, y = xs.getD (i - 1) [] := ⟨_, rfl⟩
      have hi2 := hia (i - 1) (by omega)
      rw [← hy] at hi2 hll
      have hp := fun S : St => hone S y (by rw [hy]; exact hel _ (by omega))
      rw [← hll] at hp
      have hsub : binPV .sub .no (.int .i64 (i : Int)) (.int .i64 1) = some (.int .i64 ((i - 1 : Nat) : Int)) := by
        rw [sub_i (by omega) (by omega)]; congr 2; omega
      generalize (oneV y).1 = w' at hp
      clear hll
      cases b with
      | true =>
        cases l with
        | true =>
          simp (maxSteps := 1000000) (disch := omega) only [h3, h4, h5, hlv, hlt, hi1, ho, h0', hsub, hi2, hp, m1, add_n, loopQ_normal, qaaz, qabz, qacz, qadz, qaez, qafz, qagz, qahz, qaiz, qajz, qakz, qalz, qamz, qanz, evOp, qaoz, qapz, qaqz, qarz, qasz, qatz, qauz, qavz,
 ↓reduceIte, Nat.reduceEqDiff, List.nil_append, List.cons_append, List.append_nil, List.map_cons, List.map_nil, qawz, qaxz, qayz, Option.map_some, Option.map_none, qazz, qbaz, qbbz, qbcz, qbdz, qbez, qbfz, qbgz, qbhz, qbiz, qbjz, qbkz, qblz, qbmz, qbnz, qboz,
 qbpz, qbqz, qbrz, qbsz, qbtz, qbuz, qbvz, qbwz, qbxz, qbyz, qbzz, qcaz, qcbz, qccz, qcdz, qcez, qcfz, qcgz, qchz, qciz, beq_true, beq_false, Bool.not_eq_true', decide_eq_true_eq, decide_eq_false_iff_not, decide_true, decide_false,
 Int.toNat_natCast, Int.ofNat_lt, Int.ofNat_le, Int.natCast_inj, Bool.false_eq_true, Bool.true_eq_false, qcjz, List.getElem?_cons_zero, List.getElem?_cons_succ, qckz, Int.reduceToNat, Int.reduceLE, true_and, and_true, reduceCtorEq, or_false, false_or, or_true, Option.some.injEq, exists_eq_left', Bool.not_true, Bool.not_false, ne_eq, Int.reduceEq, not_true_eq_false, not_false_eq_true, Int.reduceLT, UInt8.reduceLT, UInt8.reduceLE, UInt8.reduceToNat]
          exact next (acc ++ w) _ (by rw [hTT]; simp) h3 rfl rfl
        | false =>
          simp (maxSteps := 1000000) (disch := omega) only [h3, h4, h5, hlv, hlt, hi1, ho, h0', hsub, hi2, hp, m3, n1, add_n, loopQ_normal, qaaz, qabz, qacz, qadz, qaez, qafz, qagz, qahz, qaiz, qajz, qakz, qalz, qamz, qanz, evOp, qaoz, qapz, qaqz, qarz, qasz, qatz, qauz, qavz,
 ↓reduceIte, Nat.reduceEqDiff, List.nil_append, List.cons_append, List.append_nil, List.map_cons, List.map_nil, qawz, qaxz, qayz, Option.map_some, Option.map_none, qazz, qbaz, qbbz, qbcz, qbdz, qbez, qbfz, qbgz, qbhz, qbiz, qbjz, qbkz, qblz, qbmz, qbnz, qboz,
 qbpz, qbqz, qbrz, qbsz, qbtz, qbuz, qbvz, qbwz, qbxz, qbyz, qbzz, qcaz, qcbz, qccz, qcdz, qcez, qcfz, qcgz, qchz, qciz, beq_true, beq_false, Bool.not_eq_true', decide_eq_true_eq, decide_eq_false_iff_not, decide_true, decide_false,
 Int.toNat_natCast, Int.ofNat_lt, Int.ofNat_le, Int.natCast_inj, Bool.false_eq_true, Bool.true_eq_false, qcjz, List.getElem?_cons_zero, List.getElem?_cons_succ, qckz, Int.reduceToNat, Int.reduceLE, true_and, and_true, reduceCtorEq, or_false, false_or, or_true, Option.some.injEq, exists_eq_left', Bool.not_true, Bool.not_false, ne_eq, Int.reduceEq, not_true_eq_false, not_false_eq_true, Int.reduceLT, UInt8.reduceLT, UInt8.reduceLE, UInt8.reduceToNat]
          exact next (acc ++ [32] ++ w) _ (by rw [hTT]; simp) h3 rfl rfl
      | false =>
        cases l with
        | true =>
          simp (maxSteps := 1000000) (disch := omega) only [h3, h4, h5, hlv, hlt, hi1, ho, h0', hsub, hi2, hp, m3, n2, add_n, loopQ_normal, qaaz, qabz, qacz, qadz, qaez, qafz, qagz, qahz, qaiz, qajz, qakz, qalz, qamz, qanz, evOp, qaoz, qapz, qaqz, qarz, qasz, qatz, qauz, qavz,
 ↓reduceIte, Nat.reduceEqDiff, List.nil_append, List.cons_append, List.append_nil, List.map_cons, List.map_nil, qawz, qaxz, qayz, Option.map_some, Option.map_none, qazz, qbaz, qbbz, qbcz, qbdz, qbez, qbfz, qbgz, qbhz, qbiz, qbjz, qbkz, qblz, qbmz, qbnz, qboz,
 qbpz, qbqz, qbrz, qbsz, qbtz, qbuz, qbvz, qbwz, qbxz, qbyz, qbzz, qcaz, qcbz, qccz, qcdz, qcez, qcfz, qcgz, qchz, qciz, beq_true, beq_false, Bool.not_eq_true', decide_eq_true_eq, decide_eq_false_iff_not, decide_true, decide_false,
 Int.toNat_natCast, Int.ofNat_lt, Int.ofNat_le, Int.natCast_inj, Bool.false_eq_true, Bool.true_eq_false, qcjz, List.getElem?_cons_zero, List.getElem?_cons_succ, qckz, Int.reduceToNat, Int.reduceLE, true_and, and_true, reduceCtorEq, or_false, false_or, or_true, Option.some.injEq, exists_eq_left', Bool.not_true, Bool.not_false, ne_eq, Int.reduceEq, not_true_eq_false, not_false_eq_true, Int.reduceLT, UInt8.reduceLT, UInt8.reduceLE, UInt8.reduceToNat]
          exact next (acc ++ [32] ++ x) _ (by rw [hTT]; simp) h3 rfl rfl
        | false =>
          simp (maxSteps := 1000000) (disch := omega) only [h3, h4, h5, hlv, hlt, hi1, ho, h0', hsub, hi2, hp, m3, n2, add_n, loopQ_normal, qaaz, qabz, qacz, qadz, qaez, qafz, qagz, qahz, qaiz, qajz, qakz, qalz, qamz, qanz, evOp, qaoz, qapz, qaqz, qarz, qasz, qatz, qauz, qavz,
 ↓reduceIte, Nat.reduceEqDiff, List.nil_append, List.cons_append, List.append_nil, List.map_cons, List.map_nil, qawz, qaxz, qayz, Option.map_some, Option.map_none, qazz, qbaz, qbbz, qbcz, qbdz, qbez, qbfz, qbgz, qbhz, qbiz, qbjz, qbkz, qblz, qbmz, qbnz, qboz,
 qbpz, qbqz, qbrz, qbsz, qbtz, qbuz, qbvz, qbwz, qbxz, qbyz, qbzz, qcaz, qcbz, qccz, qcdz, qcez, qcfz, qcgz, qchz, qciz, beq_true, beq_false, Bool.not_eq_true', decide_eq_true_eq, decide_eq_false_iff_not, decide_true, decide_false,
 Int.toNat_natCast, Int.ofNat_lt, Int.ofNat_le, Int.natCast_inj, Bool.false_eq_true, Bool.true_eq_false, qcjz, List.getElem?_cons_zero, List.getElem?_cons_succ, qckz, Int.reduceToNat, Int.reduceLE, true_and, and_true, reduceCtorEq, or_false, false_or, or_true, Option.some.injEq, exists_eq_left', Bool.not_true, Bool.not_false, ne_eq, Int.reduceEq, not_true_eq_false, not_false_eq_true, Int.reduceLT, UInt8.reduceLT, UInt8.reduceLE, UInt8.reduceToNat]
          exact next (acc ++ [32] ++ x) _ (by rw [hTT]; simp) h3 rfl rfl
  · have hd : xs.drop i = [] := List.drop_of_length_le (by omega)
    rw [hd, decG, List.append_nil] at hTT
    simp (maxSteps := 1000000) (disch := omega) only [h3, h4, h5, hlv, hlt, qaaz, qabz, qacz, qadz, qaez, qafz, qagz, qahz, qaiz, qajz, qakz, qalz, qamz, qanz, evOp, qaoz, qapz, qaqz, qarz, qasz, qatz, qauz, qavz,
 ↓reduceIte, Nat.reduceEqDiff, List.nil_append, List.cons_append, List.append_nil, List.map_cons, List.map_nil, qawz, qaxz, qayz, Option.map_some, Option.map_none, qazz, qbaz, qbbz, qbcz, qbdz, qbez, qbfz, qbgz, qbhz, qbiz, qbjz, qbkz, qblz, qbmz, qbnz, qboz,
 qbpz, qbqz, qbrz, qbsz, qbtz, qbuz, qbvz, qbwz, qbxz, qbyz, qbzz, qcaz, qcbz, qccz, qcdz, qcez, qcfz, qcgz, qchz, qciz, beq_true, beq_false, Bool.not_eq_true', decide_eq_true_eq, decide_eq_false_iff_not, decide_true, decide_false,
 Int.toNat_natCast, Int.ofNat_lt, Int.ofNat_le, Int.natCast_inj, Bool.false_eq_true, Bool.true_eq_false, qcjz, List.getElem?_cons_zero, List.getElem?_cons_succ, qckz, Int.reduceToNat, Int.reduceLE, true_and, and_true, reduceCtorEq, or_false, false_or, or_true, Option.some.injEq, exists_eq_left', Bool.not_true, Bool.not_false, ne_eq, Int.reduceEq, not_true_eq_false, not_false_eq_true, Int.reduceLT, UInt8.reduceLT, UInt8.reduceLE, UInt8.reduceToNat]
    rw [hQ0, qblz, hTT]
    exact retS rfl hk1 rfl

set_option maxHeartbeats 2000000 in
theorem law_WordDecodes_of (hdec : DecR) {s : Bs} : ∃ s', call prog (.fn 231 []) [.str s] ⟨[], [], [], 0⟩ = some (.bool true, s') := by
  refine law_of_W prog_231 rfl ?_
  unfold F_posthornlaw04_WordDecodes; dsimp only
  have hA := call_of al04_0
  by_cases h1 : (2000 : Int) < (s.length : Int)
  · simp (maxSteps := 1000000) (disch := omega) only [len_s, h1, hA, List.length_nil, qaaz, qabz, qacz, qadz, qaez, qafz, qagz, qahz, qaiz, qajz, qakz, qalz, qamz, qanz, evOp, qaoz, qapz, qaqz, qarz, qasz, qatz, qauz, qavz,
 ↓reduceIte, Nat.reduceEqDiff, List.nil_append, List.cons_append, List.append_nil, List.map_cons, List.map_nil, qawz, qaxz, qayz, Option.map_some, Option.map_none, qazz, qbaz, qbbz, qbcz, qbdz, qbez, qbfz, qbgz, qbhz, qbiz, qbjz, qbkz, qblz, qbmz, qbnz, qboz,
 qbpz, qbqz, qbrz, qbsz, qbtz, qbuz, qbvz, qbwz, qbxz, qbyz, qbzz, qcaz, qcbz, qccz, qcdz, qcez, qcfz, qcgz, qchz, qciz, beq_true, beq_false, Bool.not_eq_true', decide_eq_true_eq, decide_eq_false_iff_not, decide_true, decide_false,
 Int.toNat_natCast, Int.ofNat_lt, Int.ofNat_le, Int.natCast_inj, Bool.false_eq_true, Bool.true_eq_false, qcjz, List.getElem?_cons_zero, List.getElem?_cons_succ, qckz, Int.reduceToNat, Int.reduceLE, true_and, and_true, reduceCtorEq, or_false, false_or, or_true, Option.some.injEq, exists_eq_left', Bool.not_true, Bool.not_false, ne_eq, Int.reduceEq, not_true_eq_false, not_false_eq_true, Int.reduceLT, UInt8.reduceLT, UInt8.reduceLE, UInt8.reduceToNat]
  · have o1 := fun S : St => One_spec (st := S) (s := s) (by omega)
    have o2 := fun S : St => rOne_spec (st := S) (s := s) (by omega) hdec
    have d1 : ∀ S : St, call prog (.fn 229 []) [.str s] S = some (.str (decW oneV s), S) := fun S => Decode_of (by omega) fun x hx => by
      have hlen := split_len (sep := 32) s [] x hx
      simp only [List.length_nil, Nat.zero_add] at hlen
      have := oneV_len x
      exact ⟨by omega, fun S => One_spec (by omega)⟩
    have d2 : ∀ S : St, call prog (.fn 230 []) [.str s] S = some (.str (decW oneV s), S) := fun S => rDecode_of (by omega) fun S x hx => rOne_spec (by omega) hdec
    generalize oneV s = W at o1 o2
    generalize decW oneV s = D at d1 d2
    obtain ⟨w, b⟩ := W
    simp only at o1 o2
    cases b <;> simp (maxSteps := 1000000) (disch := omega) only [len_s, h1, o1, o2, d1, d2, hA, List.length_nil, qcdz, qaaz, qabz, qacz, qadz, qaez, qafz, qagz, qahz, qaiz, qajz, qakz, qalz, qamz, qanz, evOp, qaoz, qapz, qaqz, qarz, qasz, qatz, qauz, qavz,
 ↓reduceIte, Nat.reduceEqDiff, List.nil_append, List.cons_append, List.append_nil, List.map_cons, List.map_nil, qawz, qaxz, qayz, Option.map_some, Option.map_none, qazz, qbaz, qbbz, qbcz, qbdz, qbez, qbfz, qbgz, qbhz, qbiz, qbjz, qbkz, qblz, qbmz, qbnz, qboz,
 qbpz, qbqz, qbrz, qbsz, qbtz, qbuz, qbvz, qbwz, qbxz, qbyz, qbzz, qcaz, qcbz, qccz, qcdz, qcez, qcfz, qcgz, qchz, qciz, beq_true, beq_false, Bool.not_eq_true', decide_eq_true_eq, decide_eq_false_iff_not, decide_true, decide_false,
 Int.toNat_natCast, Int.ofNat_lt, Int.ofNat_le, Int.natCast_inj, Bool.false_eq_true, Bool.true_eq_false, qcjz, List.getElem?_cons_zero, List.getElem?_cons_succ, qckz, Int.reduceToNat, Int.reduceLE, true_and, and_true, reduceCtorEq, or_false, false_or, or_true, Option.some.injEq, exists_eq_left', Bool.not_true, Bool.not_false, ne_eq, Int.reduceEq, not_true_eq_false, not_false_eq_true, Int.reduceLT, UInt8.reduceLT, UInt8.reduceLE, UInt8.reduceToNat]
end Go.Ab
